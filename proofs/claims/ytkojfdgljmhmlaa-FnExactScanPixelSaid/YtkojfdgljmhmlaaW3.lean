/- Walks: the program computes the pure functions. -/
import Derived.Test.YtkojfdgljmhmlaaW2
namespace Go.Proofs.Ytkojfdgljmhmlaa
open Go.RowKit K
set_option maxRecDepth 100000
set_option maxHeartbeats 4000000

theorem w_laws_eqImage {a_p0 : ImageT} {b_p1 : ImageT} {r : Bool} {q0_0 : Option Addr} {n0_0 k0_0 : Nat} {q1_0 : Option Addr} {n1_0 k1_0 : Nat} (h : laws_eqImage a_p0 b_p1 = some r) {w : World} (r0_0 : Rd tInt w q0_0 n0_0 k0_0 a_p0.Data) (r1_0 : Rd tInt w q1_0 n1_0 k1_0 b_p1.Data)   :
    Calls Try.prog 43 #[.agg #[.int .i64 a_p0.W, .int .i64 a_p0.H, .slice q0_0 n0_0 k0_0], .agg #[.int .i64 b_p1.W, .int .i64 b_p1.H, .slice q1_0 n1_0 k1_0]] w (fun en w' => en = .returned (.bool r) ∧ Ext w w') := by
  obtain rfl := r0_0.1
  obtain rfl := r1_0.1
  unfold laws_eqImage at h
  refine enter (vs := [_, _]) Try.func43 rfl rfl rfl rfl ?_
  refine WC.seq ?_
  refine WC.region ?_
  refine WL.heavy rfl rfl rfl (OpH.box rfl rfl ?_)
  intro b0_0
  refine WL.heavy rfl rfl rfl (OpH.box rfl rfl ?_)
  intro b0_1
  refine Lt.ofWL.step rfl rfl rfl (OpV.assign rfl) ?_
  refine WL.nil ?_
  refine En.next ?_
  refine WC.seq ?_
  refine WC.seq ?_
  refine WC.region ?_
  refine Lt.ofWL.step rfl rfl rfl (OpV.fieldAddr rfl fo_36_0) ?_
  refine Lt.ofWL.step rfl rfl rfl (OpV.loadBox rfl pt_3 (.tail _ (.head _)) rfl) ?_
  refine Lt.ofWL.step rfl rfl rfl (OpV.fieldAddr rfl fo_36_0) ?_
  refine Lt.ofWL.step rfl rfl rfl (OpV.loadBox rfl pt_3 (.head _) rfl) ?_
  refine Lt.ofWL.step rfl rfl rfl (OpV.neq rfl rfl) ?_
  refine WL.nil ?_
  refine En.next ?_
  refine WC.cond rfl ?_ ?_
  ·
    intro hc_1
    replace h := ifO_t hc_1 h
    refine WC.seq ?_
    refine WC.region ?_
    refine Lt.ofWL.step rfl rfl rfl (OpV.assign rfl) ?_
    refine WL.nil ?_
    refine En.next ?_
    refine WC.ret ?_
    refine En.then_ret ?_
    refine En.ret1 rfl (Res.tmp rfl) ?_
    obtain rfl := Option.some.inj h
    intro w' hs
    exact ⟨rfl, hs.below⟩
  ·
    intro hc_1
    replace h := ifO_f hc_1 h
    refine WC.skip ?_
    refine En.next ?_
    refine WC.seq ?_
    refine WC.seq ?_
    refine WC.region ?_
    refine Lt.ofWL.step rfl rfl rfl (OpV.fieldAddr rfl fo_36_1) ?_
    refine Lt.ofWL.step rfl rfl rfl (OpV.loadBox rfl pt_3 (.tail _ (.head _)) rfl) ?_
    refine Lt.ofWL.step rfl rfl rfl (OpV.fieldAddr rfl fo_36_1) ?_
    refine Lt.ofWL.step rfl rfl rfl (OpV.loadBox rfl pt_3 (.head _) rfl) ?_
    refine Lt.ofWL.step rfl rfl rfl (OpV.neq rfl rfl) ?_
    refine WL.nil ?_
    refine En.next ?_
    refine WC.cond rfl ?_ ?_
    ·
      intro hc_2
      replace h := ifO_t hc_2 h
      refine WC.seq ?_
      refine WC.region ?_
      refine Lt.ofWL.step rfl rfl rfl (OpV.assign rfl) ?_
      refine WL.nil ?_
      refine En.next ?_
      refine WC.ret ?_
      refine En.then_ret ?_
      refine En.ret1 rfl (Res.tmp rfl) ?_
      obtain rfl := Option.some.inj h
      intro w' hs
      exact ⟨rfl, hs.below⟩
    ·
      intro hc_2
      replace h := ifO_f hc_2 h
      refine WC.skip ?_
      refine En.next ?_
      refine WC.seq ?_
      refine WC.seq ?_
      obtain ⟨x5_4, e5_4, h⟩ := bnd h
      refine WC.region ?_
      refine Lt.ofWL.step rfl rfl rfl (OpV.fieldAddr rfl fo_36_2) ?_
      refine Lt.ofWL.step rfl rfl rfl (OpV.loadBox rfl pt_32 (.tail _ (.head _)) rfl) ?_
      refine Lt.ofWL.step rfl rfl rfl (OpV.fieldAddr rfl fo_36_2) ?_
      refine Lt.ofWL.step rfl rfl rfl (OpV.loadBox rfl pt_32 (.head _) rfl) ?_
      refine Lt.ofWL.step rfl rfl rfl (OpV.call (evs.cons rfl (evs.cons rfl (evs.nil))) ca_25 (fun w hs => w_laws_eqIntS e5_4 (r0_0.ext hs.below) (r1_0.ext hs.below))) ?_
      refine Lt.ofWL.step rfl rfl rfl (OpV.not rfl) ?_
      refine WL.nil ?_
      refine En.next ?_
      refine WC.cond rfl ?_ ?_
      ·
        intro hc_3
        replace h := ifO_t hc_3 h
        refine WC.seq ?_
        refine WC.region ?_
        refine Lt.ofWL.step rfl rfl rfl (OpV.assign rfl) ?_
        refine WL.nil ?_
        refine En.next ?_
        refine WC.ret ?_
        refine En.then_ret ?_
        refine En.ret1 rfl (Res.tmp rfl) ?_
        obtain rfl := Option.some.inj h
        intro w' hs
        exact ⟨rfl, hs.below⟩
      ·
        intro hc_3
        replace h := ifO_f hc_3 h
        refine WC.skip ?_
        refine En.next ?_
        refine WC.seq ?_
        refine WC.region ?_
        refine Lt.ofWL.step rfl rfl rfl (OpV.assign rfl) ?_
        refine WL.nil ?_
        refine En.next ?_
        refine WC.ret ?_
        refine En.ret1 rfl (Res.tmp rfl) ?_
        obtain rfl := Option.some.inj h
        intro w' hs
        exact ⟨rfl, hs.below⟩

theorem w_laws_eqPlane {a_p0 : PlaneT} {b_p1 : PlaneT} {r : Bool} {q0_0 : Option Addr} {n0_0 k0_0 : Nat} {q1_0 : Option Addr} {n1_0 k1_0 : Nat} (h : laws_eqPlane a_p0 b_p1 = some r) {w : World} (r0_0 : Rd tInt w q0_0 n0_0 k0_0 a_p0.Words) (r1_0 : Rd tInt w q1_0 n1_0 k1_0 b_p1.Words)   :
    Calls Try.prog 44 #[.agg #[.bool a_p0.On, .int .i64 a_p0.X, .int .i64 a_p0.Y, .int .i64 a_p0.W, .int .i64 a_p0.H, .int .i64 a_p0.Layout, .slice q0_0 n0_0 k0_0, .int .i64 a_p0.Alpha, .int .i64 a_p0.Orient, .int .i64 a_p0.ToW, .int .i64 a_p0.ToH], .agg #[.bool b_p1.On, .int .i64 b_p1.X, .int .i64 b_p1.Y, .int .i64 b_p1.W, .int .i64 b_p1.H, .int .i64 b_p1.Layout, .slice q1_0 n1_0 k1_0, .int .i64 b_p1.Alpha, .int .i64 b_p1.Orient, .int .i64 b_p1.ToW, .int .i64 b_p1.ToH]] w (fun en w' => en = .returned (.bool r) ∧ Ext w w') := by
  obtain rfl := r0_0.1
  obtain rfl := r1_0.1
  unfold laws_eqPlane at h
  refine enter (vs := [_, _]) Try.func44 rfl rfl rfl rfl ?_
  refine WC.seq ?_
  refine WC.region ?_
  refine WL.heavy rfl rfl rfl (OpH.box rfl rfl ?_)
  intro b0_0
  refine WL.heavy rfl rfl rfl (OpH.box rfl rfl ?_)
  intro b0_1
  refine Lt.ofWL.step rfl rfl rfl (OpV.assign rfl) ?_
  refine WL.nil ?_
  refine En.next ?_
  refine WC.seq ?_
  refine WC.seq ?_
  refine WC.region ?_
  refine Lt.ofWL.step rfl rfl rfl (OpV.fieldAddr rfl fo_57_0) ?_
  refine Lt.ofWL.step rfl rfl rfl (OpV.loadBox rfl pt_4 (.tail _ (.head _)) rfl) ?_
  refine Lt.ofWL.step rfl rfl rfl (OpV.fieldAddr rfl fo_57_0) ?_
  refine Lt.ofWL.step rfl rfl rfl (OpV.loadBox rfl pt_4 (.head _) rfl) ?_
  refine Lt.ofWL.step rfl rfl rfl (OpV.bneq rfl rfl ub_4) ?_
  refine WL.nil ?_
  refine En.next ?_
  refine WC.cond rfl ?_ ?_
  ·
    intro hc_1
    replace h := ifO_t hc_1 h
    refine WC.seq ?_
    refine WC.region ?_
    refine Lt.ofWL.step rfl rfl rfl (OpV.assign rfl) ?_
    refine WL.nil ?_
    refine En.next ?_
    refine WC.ret ?_
    refine En.then_ret ?_
    refine En.ret1 rfl (Res.tmp rfl) ?_
    obtain rfl := Option.some.inj h
    intro w' hs
    exact ⟨rfl, hs.below⟩
  ·
    intro hc_1
    replace h := ifO_f hc_1 h
    refine WC.skip ?_
    refine En.next ?_
    refine WC.seq ?_
    refine WC.seq ?_
    refine WC.region ?_
    refine Lt.ofWL.step rfl rfl rfl (OpV.fieldAddr rfl fo_57_1) ?_
    refine Lt.ofWL.step rfl rfl rfl (OpV.loadBox rfl pt_3 (.tail _ (.head _)) rfl) ?_
    refine Lt.ofWL.step rfl rfl rfl (OpV.fieldAddr rfl fo_57_1) ?_
    refine Lt.ofWL.step rfl rfl rfl (OpV.loadBox rfl pt_3 (.head _) rfl) ?_
    refine Lt.ofWL.step rfl rfl rfl (OpV.neq rfl rfl) ?_
    refine WL.nil ?_
    refine En.next ?_
    refine WC.cond rfl ?_ ?_
    ·
      intro hc_2
      replace h := ifO_t hc_2 h
      refine WC.seq ?_
      refine WC.region ?_
      refine Lt.ofWL.step rfl rfl rfl (OpV.assign rfl) ?_
      refine WL.nil ?_
      refine En.next ?_
      refine WC.ret ?_
      refine En.then_ret ?_
      refine En.ret1 rfl (Res.tmp rfl) ?_
      obtain rfl := Option.some.inj h
      intro w' hs
      exact ⟨rfl, hs.below⟩
    ·
      intro hc_2
      replace h := ifO_f hc_2 h
      refine WC.skip ?_
      refine En.next ?_
      refine WC.seq ?_
      refine WC.seq ?_
      refine WC.region ?_
      refine Lt.ofWL.step rfl rfl rfl (OpV.fieldAddr rfl fo_57_2) ?_
      refine Lt.ofWL.step rfl rfl rfl (OpV.loadBox rfl pt_3 (.tail _ (.head _)) rfl) ?_
      refine Lt.ofWL.step rfl rfl rfl (OpV.fieldAddr rfl fo_57_2) ?_
      refine Lt.ofWL.step rfl rfl rfl (OpV.loadBox rfl pt_3 (.head _) rfl) ?_
      refine Lt.ofWL.step rfl rfl rfl (OpV.neq rfl rfl) ?_
      refine WL.nil ?_
      refine En.next ?_
      refine WC.cond rfl ?_ ?_
      ·
        intro hc_3
        replace h := ifO_t hc_3 h
        refine WC.seq ?_
        refine WC.region ?_
        refine Lt.ofWL.step rfl rfl rfl (OpV.assign rfl) ?_
        refine WL.nil ?_
        refine En.next ?_
        refine WC.ret ?_
        refine En.then_ret ?_
        refine En.ret1 rfl (Res.tmp rfl) ?_
        obtain rfl := Option.some.inj h
        intro w' hs
        exact ⟨rfl, hs.below⟩
      ·
        intro hc_3
        replace h := ifO_f hc_3 h
        refine WC.skip ?_
        refine En.next ?_
        refine WC.seq ?_
        refine WC.seq ?_
        refine WC.region ?_
        refine Lt.ofWL.step rfl rfl rfl (OpV.fieldAddr rfl fo_57_3) ?_
        refine Lt.ofWL.step rfl rfl rfl (OpV.loadBox rfl pt_3 (.tail _ (.head _)) rfl) ?_
        refine Lt.ofWL.step rfl rfl rfl (OpV.fieldAddr rfl fo_57_3) ?_
        refine Lt.ofWL.step rfl rfl rfl (OpV.loadBox rfl pt_3 (.head _) rfl) ?_
        refine Lt.ofWL.step rfl rfl rfl (OpV.neq rfl rfl) ?_
        refine WL.nil ?_
        refine En.next ?_
        refine WC.cond rfl ?_ ?_
        ·
          intro hc_4
          replace h := ifO_t hc_4 h
          refine WC.seq ?_
          refine WC.region ?_
          refine Lt.ofWL.step rfl rfl rfl (OpV.assign rfl) ?_
          refine WL.nil ?_
          refine En.next ?_
          refine WC.ret ?_
          refine En.then_ret ?_
          refine En.ret1 rfl (Res.tmp rfl) ?_
          obtain rfl := Option.some.inj h
          intro w' hs
          exact ⟨rfl, hs.below⟩
        ·
          intro hc_4
          replace h := ifO_f hc_4 h
          refine WC.skip ?_
          refine En.next ?_
          refine WC.seq ?_
          refine WC.seq ?_
          refine WC.region ?_
          refine Lt.ofWL.step rfl rfl rfl (OpV.fieldAddr rfl fo_57_4) ?_
          refine Lt.ofWL.step rfl rfl rfl (OpV.loadBox rfl pt_3 (.tail _ (.head _)) rfl) ?_
          refine Lt.ofWL.step rfl rfl rfl (OpV.fieldAddr rfl fo_57_4) ?_
          refine Lt.ofWL.step rfl rfl rfl (OpV.loadBox rfl pt_3 (.head _) rfl) ?_
          refine Lt.ofWL.step rfl rfl rfl (OpV.neq rfl rfl) ?_
          refine WL.nil ?_
          refine En.next ?_
          refine WC.cond rfl ?_ ?_
          ·
            intro hc_5
            replace h := ifO_t hc_5 h
            refine WC.seq ?_
            refine WC.region ?_
            refine Lt.ofWL.step rfl rfl rfl (OpV.assign rfl) ?_
            refine WL.nil ?_
            refine En.next ?_
            refine WC.ret ?_
            refine En.then_ret ?_
            refine En.ret1 rfl (Res.tmp rfl) ?_
            obtain rfl := Option.some.inj h
            intro w' hs
            exact ⟨rfl, hs.below⟩
          ·
            intro hc_5
            replace h := ifO_f hc_5 h
            refine WC.skip ?_
            refine En.next ?_
            refine WC.seq ?_
            refine WC.seq ?_
            refine WC.region ?_
            refine Lt.ofWL.step rfl rfl rfl (OpV.fieldAddr rfl fo_57_5) ?_
            refine Lt.ofWL.step rfl rfl rfl (OpV.loadBox rfl pt_3 (.tail _ (.head _)) rfl) ?_
            refine Lt.ofWL.step rfl rfl rfl (OpV.fieldAddr rfl fo_57_5) ?_
            refine Lt.ofWL.step rfl rfl rfl (OpV.loadBox rfl pt_3 (.head _) rfl) ?_
            refine Lt.ofWL.step rfl rfl rfl (OpV.neq rfl rfl) ?_
            refine WL.nil ?_
            refine En.next ?_
            refine WC.cond rfl ?_ ?_
            ·
              intro hc_6
              replace h := ifO_t hc_6 h
              refine WC.seq ?_
              refine WC.region ?_
              refine Lt.ofWL.step rfl rfl rfl (OpV.assign rfl) ?_
              refine WL.nil ?_
              refine En.next ?_
              refine WC.ret ?_
              refine En.then_ret ?_
              refine En.ret1 rfl (Res.tmp rfl) ?_
              obtain rfl := Option.some.inj h
              intro w' hs
              exact ⟨rfl, hs.below⟩
            ·
              intro hc_6
              replace h := ifO_f hc_6 h
              refine WC.skip ?_
              refine En.next ?_
              refine WC.seq ?_
              refine WC.seq ?_
              obtain ⟨x13_4, e13_4, h⟩ := bnd h
              refine WC.region ?_
              refine Lt.ofWL.step rfl rfl rfl (OpV.fieldAddr rfl fo_57_6) ?_
              refine Lt.ofWL.step rfl rfl rfl (OpV.loadBox rfl pt_32 (.tail _ (.head _)) rfl) ?_
              refine Lt.ofWL.step rfl rfl rfl (OpV.fieldAddr rfl fo_57_6) ?_
              refine Lt.ofWL.step rfl rfl rfl (OpV.loadBox rfl pt_32 (.head _) rfl) ?_
              refine Lt.ofWL.step rfl rfl rfl (OpV.call (evs.cons rfl (evs.cons rfl (evs.nil))) ca_25 (fun w hs => w_laws_eqIntS e13_4 (r0_0.ext hs.below) (r1_0.ext hs.below))) ?_
              refine Lt.ofWL.step rfl rfl rfl (OpV.not rfl) ?_
              refine WL.nil ?_
              refine En.next ?_
              refine WC.cond rfl ?_ ?_
              ·
                intro hc_7
                replace h := ifO_t hc_7 h
                refine WC.seq ?_
                refine WC.region ?_
                refine Lt.ofWL.step rfl rfl rfl (OpV.assign rfl) ?_
                refine WL.nil ?_
                refine En.next ?_
                refine WC.ret ?_
                refine En.then_ret ?_
                refine En.ret1 rfl (Res.tmp rfl) ?_
                obtain rfl := Option.some.inj h
                intro w' hs
                exact ⟨rfl, hs.below⟩
              ·
                intro hc_7
                replace h := ifO_f hc_7 h
                refine WC.skip ?_
                refine En.next ?_
                refine WC.seq ?_
                refine WC.seq ?_
                refine WC.region ?_
                refine Lt.ofWL.step rfl rfl rfl (OpV.fieldAddr rfl fo_57_7) ?_
                refine Lt.ofWL.step rfl rfl rfl (OpV.loadBox rfl pt_3 (.tail _ (.head _)) rfl) ?_
                refine Lt.ofWL.step rfl rfl rfl (OpV.fieldAddr rfl fo_57_7) ?_
                refine Lt.ofWL.step rfl rfl rfl (OpV.loadBox rfl pt_3 (.head _) rfl) ?_
                refine Lt.ofWL.step rfl rfl rfl (OpV.neq rfl rfl) ?_
                refine WL.nil ?_
                refine En.next ?_
                refine WC.cond rfl ?_ ?_
                ·
                  intro hc_8
                  replace h := ifO_t hc_8 h
                  refine WC.seq ?_
                  refine WC.region ?_
                  refine Lt.ofWL.step rfl rfl rfl (OpV.assign rfl) ?_
                  refine WL.nil ?_
                  refine En.next ?_
                  refine WC.ret ?_
                  refine En.then_ret ?_
                  refine En.ret1 rfl (Res.tmp rfl) ?_
                  obtain rfl := Option.some.inj h
                  intro w' hs
                  exact ⟨rfl, hs.below⟩
                ·
                  intro hc_8
                  replace h := ifO_f hc_8 h
                  refine WC.skip ?_
                  refine En.next ?_
                  refine WC.seq ?_
                  refine WC.seq ?_
                  refine WC.region ?_
                  refine Lt.ofWL.step rfl rfl rfl (OpV.fieldAddr rfl fo_57_8) ?_
                  refine Lt.ofWL.step rfl rfl rfl (OpV.loadBox rfl pt_3 (.tail _ (.head _)) rfl) ?_
                  refine Lt.ofWL.step rfl rfl rfl (OpV.fieldAddr rfl fo_57_8) ?_
                  refine Lt.ofWL.step rfl rfl rfl (OpV.loadBox rfl pt_3 (.head _) rfl) ?_
                  refine Lt.ofWL.step rfl rfl rfl (OpV.neq rfl rfl) ?_
                  refine WL.nil ?_
                  refine En.next ?_
                  refine WC.cond rfl ?_ ?_
                  ·
                    intro hc_9
                    replace h := ifO_t hc_9 h
                    refine WC.seq ?_
                    refine WC.region ?_
                    refine Lt.ofWL.step rfl rfl rfl (OpV.assign rfl) ?_
                    refine WL.nil ?_
                    refine En.next ?_
                    refine WC.ret ?_
                    refine En.then_ret ?_
                    refine En.ret1 rfl (Res.tmp rfl) ?_
                    obtain rfl := Option.some.inj h
                    intro w' hs
                    exact ⟨rfl, hs.below⟩
                  ·
                    intro hc_9
                    replace h := ifO_f hc_9 h
                    refine WC.skip ?_
                    refine En.next ?_
                    refine WC.seq ?_
                    refine WC.seq ?_
                    refine WC.region ?_
                    refine Lt.ofWL.step rfl rfl rfl (OpV.fieldAddr rfl fo_57_9) ?_
                    refine Lt.ofWL.step rfl rfl rfl (OpV.loadBox rfl pt_3 (.tail _ (.head _)) rfl) ?_
                    refine Lt.ofWL.step rfl rfl rfl (OpV.fieldAddr rfl fo_57_9) ?_
                    refine Lt.ofWL.step rfl rfl rfl (OpV.loadBox rfl pt_3 (.head _) rfl) ?_
                    refine Lt.ofWL.step rfl rfl rfl (OpV.neq rfl rfl) ?_
                    refine WL.nil ?_
                    refine En.next ?_
                    refine WC.cond rfl ?_ ?_
                    ·
                      intro hc_10
                      replace h := ifO_t hc_10 h
                      refine WC.seq ?_
                      refine WC.region ?_
                      refine Lt.ofWL.step rfl rfl rfl (OpV.assign rfl) ?_
                      refine WL.nil ?_
                      refine En.next ?_
                      refine WC.ret ?_
                      refine En.then_ret ?_
                      refine En.ret1 rfl (Res.tmp rfl) ?_
                      obtain rfl := Option.some.inj h
                      intro w' hs
                      exact ⟨rfl, hs.below⟩
                    ·
                      intro hc_10
                      replace h := ifO_f hc_10 h
                      refine WC.skip ?_
                      refine En.next ?_
                      refine WC.seq ?_
                      refine WC.seq ?_
                      refine WC.region ?_
                      refine Lt.ofWL.step rfl rfl rfl (OpV.fieldAddr rfl fo_57_10) ?_
                      refine Lt.ofWL.step rfl rfl rfl (OpV.loadBox rfl pt_3 (.tail _ (.head _)) rfl) ?_
                      refine Lt.ofWL.step rfl rfl rfl (OpV.fieldAddr rfl fo_57_10) ?_
                      refine Lt.ofWL.step rfl rfl rfl (OpV.loadBox rfl pt_3 (.head _) rfl) ?_
                      refine Lt.ofWL.step rfl rfl rfl (OpV.neq rfl rfl) ?_
                      refine WL.nil ?_
                      refine En.next ?_
                      refine WC.cond rfl ?_ ?_
                      ·
                        intro hc_11
                        replace h := ifO_t hc_11 h
                        refine WC.seq ?_
                        refine WC.region ?_
                        refine Lt.ofWL.step rfl rfl rfl (OpV.assign rfl) ?_
                        refine WL.nil ?_
                        refine En.next ?_
                        refine WC.ret ?_
                        refine En.then_ret ?_
                        refine En.ret1 rfl (Res.tmp rfl) ?_
                        obtain rfl := Option.some.inj h
                        intro w' hs
                        exact ⟨rfl, hs.below⟩
                      ·
                        intro hc_11
                        replace h := ifO_f hc_11 h
                        refine WC.skip ?_
                        refine En.next ?_
                        refine WC.seq ?_
                        refine WC.region ?_
                        refine Lt.ofWL.step rfl rfl rfl (OpV.assign rfl) ?_
                        refine WL.nil ?_
                        refine En.next ?_
                        refine WC.ret ?_
                        refine En.ret1 rfl (Res.tmp rfl) ?_
                        obtain rfl := Option.some.inj h
                        intro w' hs
                        exact ⟨rfl, hs.below⟩

theorem w_laws_markIntS {a_p0 : List Int} {k_p1 : Int} {r : Int × (List Int)} {q0_0 : Option Addr} {n0_0 k0_0 : Nat} {f0_0 : List Nat} (h : laws_markIntS a_p0 k_p1 = some r) {w0 w : World} {C : List Chunk} (hs0 : St w0 (Chunk.own tInt f0_0 q0_0 n0_0 k0_0 a_p0 :: C) w)  :
    Calls Try.prog 28 #[.slice q0_0 n0_0 k0_0, .int .i64 k_p1] w (fun en w' => ∃ rv G, en = .returned rv ∧ (∃ (g0_0 : List Nat), rv = .int .i64 r.1 ∧ G = Chunk.own tInt g0_0 q0_0 n0_0 k0_0 r.2 :: C) ∧ St w0 G w') := by
  unfold laws_markIntS at h
  refine enterF hs0 (vs := [_, _]) Try.func28 rfl rfl rfl rfl ?_
  refine WC.seq ?_
  refine WC.region ?_
  refine Lt.ofWL.step rfl rfl rfl (OpV.assign rfl) ?_
  refine WL.nil ?_
  refine En.next ?_
  refine WC.seq ?_
  refine WC.seq ?_
  refine WC.region ?_
  refine Lt.ofWL.step rfl rfl rfl (OpV.assign rfl) ?_
  refine WL.nil ?_
  refine En.next ?_
  refine WC.block ?_
  obtain ⟨zy0, ezy0, h⟩ := bnd h
  refine WC.cut (X := (Int × (List Int)) × ((List Nat))) (.exit 0) (fun x => zy0 = x.1) (fun x => match x with | ((k_0e, p_0e), fp_0e) => [(1, .int .i64 k_0e)]) (fun x => match x with | ((k_0e, p_0e), fp_0e) => (Chunk.own tInt fp_0e q0_0 n0_0 k0_0 p_0e :: C)) ?_ ?_
  ·
    rintro ⟨⟨k_0e, p_0e⟩, fp_0e⟩ hx
    replace hx : (k_0e, p_0e) = zy0 := hx.symm
    subst hx
    show En _ _ _ _ [(1, .int .i64 k_0e)] (Chunk.own tInt fp_0e q0_0 n0_0 k0_0 p_0e :: C)
    refine En.block_exit ?_
    refine En.next ?_
    refine WC.seq ?_
    refine WC.region ?_
    refine Lt.ofWL.step rfl rfl rfl (OpV.move rfl) ?_
    refine Lt.ofWL.step rfl rfl rfl (OpV.assign rfl) ?_
    refine WL.nil ?_
    refine En.next ?_
    refine WC.ret ?_
    refine En.ret1 rfl (Res.tmp rfl) ?_
    obtain rfl := Option.some.inj h
    intro w' hs
    have hs := hs
    exact ⟨_, _, rfl, ⟨fp_0e, rfl, rfl⟩, hs⟩
  ·
    intro zK0_0
    refine WC.loopP (G := (List Nat)) (fun s g => match s, g with | (a_0, k_0, i_0), fa_0 => [(0, .slice q0_0 n0_0 k0_0), (1, .int .i64 k_0), (5, .int .i64 i_0)]) (fun s g => match s, g with | (a_0, k_0, i_0), fa_0 => (Chunk.own tInt fa_0 q0_0 n0_0 k0_0 a_0 :: C)) (a_p0, k_p1, 0) f0_0 ezy0 (by exact Sub.cons rfl (Sub.cons rfl (Sub.cons rfl (Sub.nil _)))) (by exact (fun _ h => h)) ?_
    rintro zm0 ⟨a_0, k_0, i_0⟩ fa_0 zo0 zf0 zb0 ze0
    have zh0 : laws_markIntS_L0 a_0 k_0 i_0 = some zo0 := zf0
    unfold laws_markIntS_L0 at zh0
    show WC _ _ _ _ _ [(0, .slice q0_0 n0_0 k0_0), (1, .int .i64 k_0), (5, .int .i64 i_0)] (Chunk.own tInt fa_0 q0_0 n0_0 k0_0 a_0 :: C)
    refine WC.seq ?_
    refine WC.seq ?_
    refine WC.region ?_
    refine Lt.ofWL.step rfl rfl rfl (OpV.move rfl) ?_
    refine Lt.ofWL.step rfl rfl rfl (OpV.move rfl) ?_
    refine Lt.ofWL.step rfl rfl rfl (OpV.inhF fun hin => OpV.lenO (xs := a_0) rfl si_32 rfl (ownLen hin (.head _))) ?_
    refine Lt.ofWL.step rfl rfl rfl (OpV.lss rfl rfl) ?_
    refine WL.nil ?_
    refine En.next ?_
    refine WC.cond rfl ?_ ?_
    ·
      intro hc_1
      replace zh0 := ifO_t hc_1 zh0
      refine WC.skip ?_
      refine En.next ?_
      refine WC.seq ?_
      refine WC.block ?_
      refine WC.seq ?_
      refine WC.inh fun hin4 => ?_
      have hn4_3 := ownLen hin4 (.head _)
      obtain ⟨x4_4, e4_4, zh0⟩ := bnd zh0
      obtain ⟨g4_3, ha4_3⟩ := ownAddrU hin4 (.head _) e4_4
      refine WC.region ?_
      refine Lt.ofWL.step rfl rfl rfl (OpV.move rfl) ?_
      refine Lt.ofWL.step rfl rfl rfl (OpV.move rfl) ?_
      refine Lt.ofWL.step rfl rfl rfl (OpV.move rfl) ?_
      refine Lt.ofWL.step rfl rfl rfl (OpV.idxA rfl rfl se_32 ha4_3 ⟨(upd_some e4_4).1.1, by rw [hn4_3]; exact (upd_some e4_4).1.2⟩) ?_
      refine WL.wkF (fun _ h => St.elFlat tInt_flat k_0 h) ?_
      refine WL.heavy0 rfl rfl (OpH.setEl (A := tInt) ha4_3 rfl rfl rfl ts_3 e4_4 ?_)
      intro f4_4
      refine WL.nil ?_
      refine En.next ?_
      refine WC.region ?_
      refine Lt.ofWL.step rfl rfl rfl (OpV.move rfl) ?_
      refine Lt.ofWL.step rfl rfl rfl (OpV.addR rfl rfl) ?_
      refine Lt.ofWL.step rfl rfl rfl (OpV.assign rfl) ?_
      refine WL.nil ?_
      refine En.block_norm ?_
      refine En.next ?_
      refine WC.region ?_
      refine Lt.ofWL.step rfl rfl rfl (OpV.move rfl) ?_
      refine Lt.ofWL.step rfl rfl rfl (OpV.addR rfl rfl) ?_
      refine Lt.ofWL.step rfl rfl rfl (OpV.assign rfl) ?_
      refine WL.nil ?_
      exact En.backP zb0 zh0 f4_4 (Sub.cons rfl (Sub.cons rfl (Sub.cons rfl (Sub.nil _)))) (fun _ h => h)
    ·
      intro hc_1
      replace zh0 := ifO_f hc_1 zh0
      refine WC.exit ?_
      refine En.then_exit ?_
      refine En.then_exit ?_
      have hx := exitP ze0 zh0
      exact En.wk _ _ (Sub.cons rfl (Sub.nil _)) (fun _ h => h) (zK0_0 ((k_0, a_0), fa_0) hx.symm)

theorem w_laws_markPlane {a_p0 : PlaneT} {k_p1 : Int} {r : Int × (List Int)} {q0_0 : Option Addr} {n0_0 k0_0 : Nat} {f0_0 : List Nat} (h : laws_markPlane a_p0 k_p1 = some r) {w0 w : World} {C : List Chunk} (hs0 : St w0 (Chunk.own tInt f0_0 q0_0 n0_0 k0_0 a_p0.Words :: C) w)  :
    Calls Try.prog 45 #[.agg #[.bool a_p0.On, .int .i64 a_p0.X, .int .i64 a_p0.Y, .int .i64 a_p0.W, .int .i64 a_p0.H, .int .i64 a_p0.Layout, .slice q0_0 n0_0 k0_0, .int .i64 a_p0.Alpha, .int .i64 a_p0.Orient, .int .i64 a_p0.ToW, .int .i64 a_p0.ToH], .int .i64 k_p1] w (fun en w' => ∃ rv G, en = .returned rv ∧ (∃ (g0_0 : List Nat), rv = .int .i64 r.1 ∧ G = Chunk.own tInt g0_0 q0_0 n0_0 k0_0 r.2 :: C) ∧ St w0 G w') := by
  unfold laws_markPlane at h
  refine enterF hs0 (vs := [_, _]) Try.func45 rfl rfl rfl rfl ?_
  refine WC.seq ?_
  refine WC.region ?_
  refine WL.heavy rfl rfl rfl (OpH.box rfl rfl ?_)
  intro b0_0
  refine Lt.ofWL.step rfl rfl rfl (OpV.assign rfl) ?_
  refine WL.nil ?_
  refine En.next ?_
  refine WC.seq ?_
  obtain ⟨⟨x1_3a, x1_3b⟩, e1_3, h⟩ := bnd h
  refine WC.region ?_
  refine Lt.ofWL.step rfl rfl rfl (OpV.fieldAddr rfl fo_57_6) ?_
  refine Lt.ofWL.step rfl rfl rfl (OpV.loadBox rfl pt_32 (.head _) rfl) ?_
  refine Lt.ofWL.step rfl rfl rfl (OpV.move rfl) ?_
  refine WL.wkF (fun _ h => h.perm (List.perm_middle (l₁ := [_]))) ?_
  refine WL.heavy rfl rfl rfl (OpH.callX (evs.cons rfl (evs.cons rfl (evs.nil))) ca_28 (fun w hs => w_laws_markIntS e1_3 hs) ?_)
  rintro _ _ ⟨g1_300, rfl, rfl⟩
  refine Lt.ofWL.step rfl rfl rfl (OpV.assign rfl) ?_
  refine WL.nil ?_
  refine En.next ?_
  refine WC.seq ?_
  refine WC.region ?_
  refine Lt.ofWL.step rfl rfl rfl (OpV.move rfl) ?_
  refine Lt.ofWL.step rfl rfl rfl (OpV.assign rfl) ?_
  refine WL.nil ?_
  refine En.next ?_
  refine WC.ret ?_
  refine En.ret1 rfl (Res.tmp rfl) ?_
  obtain rfl := Option.some.inj h
  intro w' hs
  have hs := (hs).sub (.cons_cons _ (.cons _ (List.Sublist.refl _)))
  exact ⟨_, _, rfl, ⟨g1_300, rfl, rfl⟩, hs⟩

theorem w_laws_markImage {a_p0 : ImageT} {k_p1 : Int} {r : Int × (List Int)} {q0_0 : Option Addr} {n0_0 k0_0 : Nat} {f0_0 : List Nat} (h : laws_markImage a_p0 k_p1 = some r) {w0 w : World} {C : List Chunk} (hs0 : St w0 (Chunk.own tInt f0_0 q0_0 n0_0 k0_0 a_p0.Data :: C) w)  :
    Calls Try.prog 46 #[.agg #[.int .i64 a_p0.W, .int .i64 a_p0.H, .slice q0_0 n0_0 k0_0], .int .i64 k_p1] w (fun en w' => ∃ rv G, en = .returned rv ∧ (∃ (g0_0 : List Nat), rv = .int .i64 r.1 ∧ G = Chunk.own tInt g0_0 q0_0 n0_0 k0_0 r.2 :: C) ∧ St w0 G w') := by
  unfold laws_markImage at h
  refine enterF hs0 (vs := [_, _]) Try.func46 rfl rfl rfl rfl ?_
  refine WC.seq ?_
  refine WC.region ?_
  refine WL.heavy rfl rfl rfl (OpH.box rfl rfl ?_)
  intro b0_0
  refine Lt.ofWL.step rfl rfl rfl (OpV.assign rfl) ?_
  refine WL.nil ?_
  refine En.next ?_
  refine WC.seq ?_
  obtain ⟨⟨x1_3a, x1_3b⟩, e1_3, h⟩ := bnd h
  refine WC.region ?_
  refine Lt.ofWL.step rfl rfl rfl (OpV.fieldAddr rfl fo_36_2) ?_
  refine Lt.ofWL.step rfl rfl rfl (OpV.loadBox rfl pt_32 (.head _) rfl) ?_
  refine Lt.ofWL.step rfl rfl rfl (OpV.move rfl) ?_
  refine WL.wkF (fun _ h => h.perm (List.perm_middle (l₁ := [_]))) ?_
  refine WL.heavy rfl rfl rfl (OpH.callX (evs.cons rfl (evs.cons rfl (evs.nil))) ca_28 (fun w hs => w_laws_markIntS e1_3 hs) ?_)
  rintro _ _ ⟨g1_300, rfl, rfl⟩
  refine Lt.ofWL.step rfl rfl rfl (OpV.assign rfl) ?_
  refine WL.nil ?_
  refine En.next ?_
  refine WC.seq ?_
  refine WC.region ?_
  refine Lt.ofWL.step rfl rfl rfl (OpV.move rfl) ?_
  refine Lt.ofWL.step rfl rfl rfl (OpV.assign rfl) ?_
  refine WL.nil ?_
  refine En.next ?_
  refine WC.ret ?_
  refine En.ret1 rfl (Res.tmp rfl) ?_
  obtain rfl := Option.some.inj h
  intro w' hs
  have hs := (hs).sub (.cons_cons _ (.cons _ (List.Sublist.refl _)))
  exact ⟨_, _, rfl, ⟨g1_300, rfl, rfl⟩, hs⟩

theorem w_laws_heldIntS {a_p0 : List Int} {k_p1 : Int} {r : Int} {q0_0 : Option Addr} {n0_0 k0_0 : Nat} (h : laws_heldIntS a_p0 k_p1 = some r) {w : World} (r0_0 : Rd tInt w q0_0 n0_0 k0_0 a_p0)   :
    Calls Try.prog 29 #[.slice q0_0 n0_0 k0_0, .int .i64 k_p1] w (fun en w' => en = .returned (.int .i64 r) ∧ Ext w w') := by
  obtain rfl := r0_0.1
  unfold laws_heldIntS at h
  refine enter (vs := [_, _]) Try.func29 rfl rfl rfl rfl ?_
  refine WC.seq ?_
  refine WC.region ?_
  refine Lt.ofWL.step rfl rfl rfl (OpV.assign rfl) ?_
  refine WL.nil ?_
  refine En.next ?_
  refine WC.seq ?_
  refine WC.seq ?_
  refine WC.region ?_
  refine Lt.ofWL.step rfl rfl rfl (OpV.assign rfl) ?_
  refine WL.nil ?_
  refine En.next ?_
  refine WC.block ?_
  obtain ⟨zy0, ezy0, h⟩ := bnd h
  refine WC.cut (X := (Int) × (Unit)) (.exit 0) (fun x => zy0 = .inl x.1) (fun x => match x with | (k_0e, ()) => [(1, .int .i64 k_0e)]) (fun x => match x with | (k_0e, ()) => []) ?_ ?_
  ·
    rintro ⟨k_0e, ⟨⟩⟩ hx
    replace hx : .inl k_0e = zy0 := hx.symm
    subst hx
    replace h := fork_l h
    show En _ _ _ _ [(1, .int .i64 k_0e)] []
    refine En.block_exit ?_
    refine En.next ?_
    refine WC.seq ?_
    refine WC.region ?_
    refine Lt.ofWL.step rfl rfl rfl (OpV.move rfl) ?_
    refine Lt.ofWL.step rfl rfl rfl (OpV.assign rfl) ?_
    refine WL.nil ?_
    refine En.next ?_
    refine WC.ret ?_
    refine En.ret1 rfl (Res.tmp rfl) ?_
    obtain rfl := Option.some.inj h
    intro w' hs
    exact ⟨rfl, hs.below⟩
  ·
    intro zK0_0
    refine WC.loopP (G := Unit) (fun s g => match s, g with | (k_0, i_0), () => [(0, .slice q0_0 a_p0.length k0_0), (1, .int .i64 k_0), (5, .int .i64 i_0)]) (fun s g => match s, g with | (k_0, i_0), () => []) (k_p1, 0) () ezy0 (by exact Sub.cons rfl (Sub.cons rfl (Sub.cons rfl (Sub.nil _)))) (by exact (fun _ h => h)) ?_
    rintro zm0 ⟨k_0, i_0⟩ ⟨⟩ zo0 zf0 zb0 ze0
    have zh0 : laws_heldIntS_L0 a_p0 k_0 i_0 = some zo0 := zf0
    unfold laws_heldIntS_L0 at zh0
    show WC _ _ _ _ _ [(0, .slice q0_0 a_p0.length k0_0), (1, .int .i64 k_0), (5, .int .i64 i_0)] []
    refine WC.seq ?_
    refine WC.seq ?_
    refine WC.region ?_
    refine Lt.ofWL.step rfl rfl rfl (OpV.move rfl) ?_
    refine Lt.ofWL.step rfl rfl rfl (OpV.move rfl) ?_
    refine Lt.ofWL.step rfl rfl rfl (OpV.len rfl si_32 rfl) ?_
    refine Lt.ofWL.step rfl rfl rfl (OpV.lss rfl rfl) ?_
    refine WL.nil ?_
    refine En.next ?_
    refine WC.cond rfl ?_ ?_
    ·
      intro hc_1
      replace zh0 := ifO_t hc_1 zh0
      refine WC.skip ?_
      refine En.next ?_
      refine WC.seq ?_
      refine WC.block ?_
      refine WC.seq ?_
      refine WC.seq ?_
      obtain ⟨x4_2, e4_2, zh0⟩ := bnd zh0
      obtain ⟨g4_2, o4_2, _, ha4_2, rfl, hd4_2⟩ := Rd.atIdx r0_0 e4_2
      replace hd4_2 : ∀ (j : Nat) v, ([.int .i64 x4_2] : List Value)[j]? = some v → w.cell? ⟨g4_2, o4_2 + i_0.toNat * 1 + j, .none⟩ = some v := hd4_2
      refine WC.region ?_
      refine Lt.ofWL.step rfl rfl rfl (OpV.move rfl) ?_
      refine Lt.ofWL.step rfl rfl rfl (OpV.move rfl) ?_
      refine Lt.ofWL.step rfl rfl rfl (OpV.idxA rfl rfl se_32 ha4_2 ⟨(idx_some e4_2).1, (idx_some e4_2).2.1⟩) ?_
      refine Lt.ofWL.step rfl rfl rfl (OpV.load1 rfl pt_3 (fun w hs => hs.cell (hd4_2 0 _ rfl))) ?_
      refine Lt.ofWL.step rfl rfl rfl (OpV.move rfl) ?_
      refine Lt.ofWL.step rfl rfl rfl (OpV.neq rfl rfl) ?_
      refine WL.nil ?_
      refine En.next ?_
      refine WC.cond rfl ?_ ?_
      ·
        intro hc_2
        replace zh0 := ifO_t hc_2 zh0
        refine WC.seq ?_
        refine WC.region ?_
        refine Lt.ofWL.step rfl rfl rfl (OpV.assign rfl) ?_
        refine WL.nil ?_
        refine En.next ?_
        refine WC.ret ?_
        refine En.then_ret ?_
        refine En.block_ret ?_
        refine En.then_ret ?_
        refine En.then_ret ?_
        refine En.block_ret ?_
        refine En.then_ret ?_
        refine En.ret1 rfl (Res.tmp rfl) ?_
        have hx := exitP ze0 zh0
        subst hx
        replace h := fork_r h
        obtain rfl := Option.some.inj h
        intro w' hs
        exact ⟨rfl, hs.below⟩
      ·
        intro hc_2
        replace zh0 := ifO_f hc_2 zh0
        refine WC.skip ?_
        refine En.next ?_
        refine WC.region ?_
        refine Lt.ofWL.step rfl rfl rfl (OpV.move rfl) ?_
        refine Lt.ofWL.step rfl rfl rfl (OpV.addR rfl rfl) ?_
        refine Lt.ofWL.step rfl rfl rfl (OpV.assign rfl) ?_
        refine WL.nil ?_
        refine En.block_norm ?_
        refine En.next ?_
        refine WC.region ?_
        refine Lt.ofWL.step rfl rfl rfl (OpV.move rfl) ?_
        refine Lt.ofWL.step rfl rfl rfl (OpV.addR rfl rfl) ?_
        refine Lt.ofWL.step rfl rfl rfl (OpV.assign rfl) ?_
        refine WL.nil ?_
        exact En.backP zb0 zh0 () (Sub.cons rfl (Sub.cons rfl (Sub.cons rfl (Sub.nil _)))) (fun _ h => h)
    ·
      intro hc_1
      replace zh0 := ifO_f hc_1 zh0
      refine WC.exit ?_
      refine En.then_exit ?_
      refine En.then_exit ?_
      have hx := exitP ze0 zh0
      exact En.wk _ _ (Sub.cons rfl (Sub.nil _)) (fun _ h => h) (zK0_0 (k_0, ()) hx.symm)

theorem w_laws_heldImage {a_p0 : ImageT} {k_p1 : Int} {r : Int} {q0_0 : Option Addr} {n0_0 k0_0 : Nat} (h : laws_heldImage a_p0 k_p1 = some r) {w : World} (r0_0 : Rd tInt w q0_0 n0_0 k0_0 a_p0.Data)   :
    Calls Try.prog 47 #[.agg #[.int .i64 a_p0.W, .int .i64 a_p0.H, .slice q0_0 n0_0 k0_0], .int .i64 k_p1] w (fun en w' => en = .returned (.int .i64 r) ∧ Ext w w') := by
  obtain rfl := r0_0.1
  unfold laws_heldImage at h
  refine enter (vs := [_, _]) Try.func47 rfl rfl rfl rfl ?_
  refine WC.seq ?_
  refine WC.region ?_
  refine WL.heavy rfl rfl rfl (OpH.box rfl rfl ?_)
  intro b0_0
  refine Lt.ofWL.step rfl rfl rfl (OpV.assign rfl) ?_
  refine WL.nil ?_
  refine En.next ?_
  refine WC.seq ?_
  obtain ⟨x1_3, e1_3, h⟩ := bnd h
  refine WC.region ?_
  refine Lt.ofWL.step rfl rfl rfl (OpV.fieldAddr rfl fo_36_2) ?_
  refine Lt.ofWL.step rfl rfl rfl (OpV.loadBox rfl pt_32 (.head _) rfl) ?_
  refine Lt.ofWL.step rfl rfl rfl (OpV.move rfl) ?_
  refine Lt.ofWL.step rfl rfl rfl (OpV.call (evs.cons rfl (evs.cons rfl (evs.nil))) ca_29 (fun w hs => w_laws_heldIntS e1_3 (r0_0.ext hs.below))) ?_
  refine Lt.ofWL.step rfl rfl rfl (OpV.assign rfl) ?_
  refine WL.nil ?_
  refine En.next ?_
  refine WC.seq ?_
  refine WC.seq ?_
  refine WC.region ?_
  refine Lt.ofWL.step rfl rfl rfl (OpV.move rfl) ?_
  refine Lt.ofWL.step rfl rfl rfl (OpV.lss rfl rfl) ?_
  refine WL.nil ?_
  refine En.next ?_
  refine WC.cond rfl ?_ ?_
  ·
    intro hc_1
    replace h := ifO_t hc_1 h
    refine WC.seq ?_
    refine WC.region ?_
    refine Lt.ofWL.step rfl rfl rfl (OpV.assign rfl) ?_
    refine WL.nil ?_
    refine En.next ?_
    refine WC.ret ?_
    refine En.then_ret ?_
    refine En.ret1 rfl (Res.tmp rfl) ?_
    obtain rfl := Option.some.inj h
    intro w' hs
    exact ⟨rfl, hs.below⟩
  ·
    intro hc_1
    replace h := ifO_f hc_1 h
    refine WC.skip ?_
    refine En.next ?_
    refine WC.seq ?_
    refine WC.region ?_
    refine Lt.ofWL.step rfl rfl rfl (OpV.move rfl) ?_
    refine Lt.ofWL.step rfl rfl rfl (OpV.assign rfl) ?_
    refine WL.nil ?_
    refine En.next ?_
    refine WC.ret ?_
    refine En.ret1 rfl (Res.tmp rfl) ?_
    obtain rfl := Option.some.inj h
    intro w' hs
    exact ⟨rfl, hs.below⟩

theorem w_laws_FnExactPlaneImage {a_p0 : PlaneT} {r : Bool} {q0_0 : Option Addr} {n0_0 k0_0 : Nat} (h : laws_FnExactPlaneImage a_p0 = some r) {w : World} (r0_0 : Rd tInt w q0_0 n0_0 k0_0 a_p0.Words)   :
    Calls Try.prog 7 #[.agg #[.bool a_p0.On, .int .i64 a_p0.X, .int .i64 a_p0.Y, .int .i64 a_p0.W, .int .i64 a_p0.H, .int .i64 a_p0.Layout, .slice q0_0 n0_0 k0_0, .int .i64 a_p0.Alpha, .int .i64 a_p0.Orient, .int .i64 a_p0.ToW, .int .i64 a_p0.ToH]] w (fun en w' => en = .returned (.bool r) ∧ Ext w w') := by
  obtain rfl := r0_0.1
  unfold laws_FnExactPlaneImage at h
  refine enter (vs := [_]) Try.func7 rfl rfl rfl rfl ?_
  refine WC.seq ?_
  refine WC.region ?_
  refine WL.heavy rfl rfl rfl (OpH.box rfl rfl ?_)
  intro b0_0
  refine Lt.ofWL.step rfl rfl rfl (OpV.assign rfl) ?_
  refine WL.nil ?_
  refine En.next ?_
  refine WC.seq ?_
  refine WC.region ?_
  refine Lt.ofWL.step rfl rfl rfl (OpV.assign rfl) ?_
  refine WL.nil ?_
  refine En.next ?_
  refine WC.seq ?_
  obtain ⟨x2_2, e2_2, h⟩ := bnd h
  refine WC.region ?_
  refine Lt.ofWL.step rfl rfl rfl (OpV.loadAll rfl (.head _) ag_63) ?_
  refine Lt.ofWL.step rfl rfl rfl (OpV.move rfl) ?_
  refine Lt.ofWL.step rfl rfl rfl (OpV.call (evs.cons rfl (evs.cons rfl (evs.nil))) ca_39 (fun w hs => w_laws_szPlane e2_2 (r0_0.ext hs.below))) ?_
  refine Lt.ofWL.step rfl rfl rfl (OpV.assign rfl) ?_
  refine WL.nil ?_
  refine En.next ?_
  refine WC.seq ?_
  refine WC.seq ?_
  refine WC.region ?_
  refine Lt.ofWL.step rfl rfl rfl (OpV.move rfl) ?_
  refine Lt.ofWL.step rfl rfl rfl (OpV.lss rfl rfl) ?_
  refine WL.nil ?_
  refine En.next ?_
  refine WC.cond rfl ?_ ?_
  ·
    intro hc_1
    replace h := ifO_t hc_1 h
    refine WC.seq ?_
    refine WC.region ?_
    refine Lt.ofWL.step rfl rfl rfl (OpV.assign rfl) ?_
    refine WL.nil ?_
    refine En.next ?_
    refine WC.ret ?_
    refine En.then_ret ?_
    refine En.ret1 rfl (Res.tmp rfl) ?_
    obtain rfl := Option.some.inj h
    intro w' hs
    exact ⟨rfl, hs.below⟩
  ·
    intro hc_1
    replace h := ifO_f hc_1 h
    refine WC.skip ?_
    refine En.next ?_
    refine WC.seq ?_
    obtain ⟨x5_1, e5_1, h⟩ := bnd h
    obtain ⟨⟨x5_2a, x5_2b⟩, e5_2, h⟩ := bnd h
    refine WC.region ?_
    refine Lt.ofWL.step rfl rfl rfl (OpV.loadAll rfl (.head _) ag_63) ?_
    refine WL.heavy rfl rfl rfl (OpH.callR (evs.cons rfl (evs.nil)) ca_41 (fun w hs => w_laws_toPlane e5_1 (r0_0.ext hs.below)) ?_)
    rintro _ _ ⟨a5_100, n5_100, c5_100, f5_100, rfl, rfl⟩
    refine WL.heavy rfl rfl rfl (OpH.callR (evs.cons rfl (evs.nil)) ca_40 (fun w hs => w_spec_PlaneImage e5_2 (Ow.rd (hs.mem (.head _)))) ?_)
    rintro _ _ ⟨a5_200, n5_200, c5_200, f5_200, rfl, rfl⟩
    refine Lt.ofWL.step rfl rfl rfl (OpV.move rfl) ?_
    refine Lt.ofWL.step rfl rfl rfl (OpV.extract rfl rfl) ?_
    refine Lt.ofWL.step rfl rfl rfl (OpV.extract rfl rfl) ?_
    refine WL.heavy rfl rfl rfl (OpH.alloc zc_36 ?_)
    intro b5_6
    refine WL.heavy0 rfl rfl (OpH.storeTo (A := []) [_, _, _] rfl rfl rfl ts_36 rfl rfl rfl ?_)
    refine Lt.ofWL.step rfl rfl rfl (OpV.assign rfl) ?_
    refine WL.nil ?_
    refine En.next ?_
    refine WC.seq ?_
    obtain ⟨x6_1, e6_1, h⟩ := bnd h
    refine WC.region ?_
    refine Lt.ofWL.step rfl rfl rfl (OpV.loadAll rfl (.tail _ (.tail _ (.tail _ (.head _)))) ag_63) ?_
    refine WL.heavy rfl rfl rfl (OpH.callR (evs.cons rfl (evs.nil)) ca_41 (fun w hs => w_laws_toPlane e6_1 (r0_0.ext hs.below)) ?_)
    rintro _ _ ⟨a6_100, n6_100, c6_100, f6_100, rfl, rfl⟩
    refine WL.heavy rfl rfl rfl (OpH.alloc zc_57 ?_)
    intro b6_2
    refine WL.heavy0 rfl rfl (OpH.storeTo (A := []) [_, _, _, _, _, _, _, _, _, _, _] rfl rfl rfl ts_57 rfl rfl rfl ?_)
    refine WL.nil ?_
    refine En.next ?_
    refine WC.seq ?_
    obtain ⟨⟨x7_1a, x7_1b⟩, e7_1, h⟩ := bnd h
    refine WC.region ?_
    refine Lt.ofWL.step rfl rfl rfl (OpV.loadAll rfl (.head _) ag_57) ?_
    refine WL.heavy rfl rfl rfl (OpH.callR (evs.cons rfl (evs.nil)) ca_42 (fun w hs => w_impl_PlaneImage e7_1 (Ow.rd (hs.mem (.tail _ (.head _))))) ?_)
    rintro _ _ ⟨a7_100, n7_100, c7_100, f7_100, rfl, rfl⟩
    refine Lt.ofWL.step rfl rfl rfl (OpV.move rfl) ?_
    refine Lt.ofWL.step rfl rfl rfl (OpV.extract rfl rfl) ?_
    refine Lt.ofWL.step rfl rfl rfl (OpV.extract rfl rfl) ?_
    refine WL.heavy rfl rfl rfl (OpH.alloc zc_36 ?_)
    intro b7_5
    refine WL.heavy0 rfl rfl (OpH.storeTo (A := []) [_, _, _] rfl rfl rfl ts_36 rfl rfl rfl ?_)
    refine Lt.ofWL.step rfl rfl rfl (OpV.assign rfl) ?_
    refine WL.nil ?_
    refine En.next ?_
    refine WC.seq ?_
    refine WC.seq ?_
    obtain ⟨x8_2, e8_2, h⟩ := bnd h
    refine WC.region ?_
    refine Lt.ofWL.step rfl rfl rfl (OpV.loadAll rfl (.head _) ag_36) ?_
    refine Lt.ofWL.step rfl rfl rfl (OpV.loadAll rfl (.tail _ (.tail _ (.tail _ (.tail _ (.head _))))) ag_36) ?_
    refine Lt.ofWL.step rfl rfl rfl (OpV.call (evs.cons rfl (evs.cons rfl (evs.nil))) ca_43 (fun w hs => w_laws_eqImage e8_2 (Ow.rd (hs.mem (.tail _ (.head _)))) (Ow.rd (hs.mem (.tail _ (.tail _ (.tail _ (.tail _ (.tail _ (.head _)))))))))) ?_
    refine Lt.ofWL.step rfl rfl rfl (OpV.not rfl) ?_
    refine Lt.ofWL.step rfl rfl rfl (OpV.move rfl) ?_
    refine Lt.ofWL.or 36 40 39 (p := ?pz1) (rest := ?qz1) (B := ?Bz1) rfl ?Tz1 ?Fz1 ?az1 ?bz1 ?cz1 ?dz1 ?ez1
    case Tz1 =>
      intro hcz1 hkz1
      refine Lt.ofWL.skip rfl rfl rfl ?_
      refine Lt.ofWL.skip rfl rfl rfl ?_
      refine Lt.ofWL.skip rfl rfl rfl ?_
      refine hkz1 _ ?_
      repeat (first | exact Sub.refl _ | refine Sub.skip rfl ?_)
    case Fz1 =>
      intro hcz1 hkz1
      refine Lt.ofWL.step rfl rfl rfl (OpV.move rfl) ?_
      refine Lt.ofWL.step rfl rfl rfl (OpV.move rfl) ?_
      refine Lt.ofWL.step rfl rfl rfl (OpV.bneq rfl rfl ub_4) ?_
      refine hkz1 _ ?_ ?_
      exact rfl
      repeat (first | exact Sub.refl _ | refine Sub.skip rfl ?_)
    case az1 => exact rfl
    case bz1 => exact rfl
    case cz1 => exact rfl
    case dz1 => exact rfl
    refine WL.nil ?_
    refine En.next ?_
    refine WC.cond rfl ?_ ?_
    ·
      intro hc_2
      replace h := ifO_t hc_2 h
      refine WC.seq ?_
      refine WC.region ?_
      refine Lt.ofWL.step rfl rfl rfl (OpV.assign rfl) ?_
      refine WL.nil ?_
      refine En.next ?_
      refine WC.ret ?_
      refine En.then_ret ?_
      refine En.ret1 rfl (Res.tmp rfl) ?_
      obtain rfl := Option.some.inj h
      intro w' hs
      exact ⟨rfl, hs.below⟩
    ·
      intro hc_2
      replace h := ifO_f hc_2 h
      refine WC.skip ?_
      refine En.next ?_
      refine WC.seq ?_
      refine WC.seq ?_
      obtain ⟨x10_2, e10_2, h⟩ := bnd h
      obtain ⟨x10_3, e10_3, h⟩ := bnd h
      refine WC.drawnH [] ([_, _, _, _, _, _, _, _]) (fun _ h => h) (by kernel_rfl) ?_
      refine WAE.take (i := 0) rfl (by kernel_rfl) (by kernel_rfl) (by kernel_rfl) rfl rfl rfl (OpV.loadAll rfl (.tail _ (.tail _ (.head _))) ag_57) ?_
      refine WAE.take (i := 1) rfl (by kernel_rfl) (by kernel_rfl) (by kernel_rfl) rfl rfl rfl (OpV.loadAll rfl (.tail _ (.tail _ (.tail _ (.tail _ (.tail _ (.tail _ (.tail _ (.head _)))))))) ag_63) ?_
      refine WAE.all (rs := [2]) (by kernel_rfl) rfl (AllR.cons rfl rfl rfl rfl ?_ AllR.nil)
      refine OpH.callR (evs.cons rfl (evs.nil)) ca_41 (fun w hs => w_laws_toPlane e10_2 (r0_0.ext hs.below)) ?_
      rintro _ _ ⟨a10_200, n10_200, c10_200, f10_200, rfl, rfl⟩
      refine ⟨[_], rfl, ?_⟩
      refine WAE.rebase (H := []) ?_
      refine WAE.take (i := 3) rfl (by kernel_rfl) (by kernel_rfl) (by kernel_rfl) rfl rfl rfl (OpV.call (evs.cons rfl (evs.cons rfl (evs.nil))) ca_44 (fun w hs => w_laws_eqPlane e10_3 (Ow.rd (hs.mem (.tail _ (.tail _ (.tail _ (.tail _ (.head _))))))) (Ow.rd (hs.mem (.head _))))) ?_
      refine WAE.take (i := 4) rfl (by kernel_rfl) (by kernel_rfl) (by kernel_rfl) rfl rfl rfl (OpV.not rfl) ?_
      refine WAE.done (by kernel_rfl) ?_ _
      refine En.next ?_
      refine WC.cond rfl ?_ ?_
      ·
        intro hc_3
        replace h := ifO_t hc_3 h
        refine WC.seq ?_
        refine WC.region ?_
        refine Lt.ofWL.step rfl rfl rfl (OpV.assign rfl) ?_
        refine WL.nil ?_
        refine En.next ?_
        refine WC.ret ?_
        refine En.then_ret ?_
        refine En.ret1 rfl (Res.tmp rfl) ?_
        obtain rfl := Option.some.inj h
        intro w' hs
        exact ⟨rfl, hs.below⟩
      ·
        intro hc_3
        replace h := ifO_f hc_3 h
        refine WC.skip ?_
        refine En.next ?_
        refine WC.seq ?_
        refine WC.region ?_
        refine Lt.ofWL.step rfl rfl rfl (OpV.assign rfl) ?_
        refine WL.nil ?_
        refine En.next ?_
        refine WC.seq ?_
        obtain ⟨⟨x13_2a, x13_2b⟩, e13_2, h⟩ := bnd h
        refine WC.region ?_
        refine Lt.ofWL.step rfl rfl rfl (OpV.loadAll rfl (.tail _ (.tail _ (.tail _ (.head _)))) ag_57) ?_
        refine Lt.ofWL.step rfl rfl rfl (OpV.move rfl) ?_
        refine WL.wkF (fun _ h => h.perm (List.perm_middle (l₁ := [_, _, _, _]))) ?_
        refine WL.heavy rfl rfl rfl (OpH.callX (evs.cons rfl (evs.cons rfl (evs.nil))) ca_45 (fun w hs => w_laws_markPlane e13_2 hs) ?_)
        rintro _ _ ⟨g13_200, rfl, rfl⟩
        refine Lt.ofWL.step rfl rfl rfl (OpV.assign rfl) ?_
        refine WL.nil ?_
        refine En.next ?_
        refine WC.seq ?_
        refine WC.seq ?_
        obtain ⟨q14_7, e14_7, h⟩ := bnd h
        refine WC.region ?_
        refine Lt.ofWL.step rfl rfl rfl (OpV.move rfl) ?_
        refine Lt.ofWL.step rfl rfl rfl (OpV.lss rfl rfl) ?_
        refine Lt.ofWL.step rfl rfl rfl (OpV.move rfl) ?_
        refine Lt.ofWL.orQ 51 56 55 (p := ?pz2) (rest := ?qz2) (B := q14_7) rfl (fun hz => orO_t e14_7 hz) ?Tz2 ?Fz2 ?az2 ?bz2 ?cz2 ?dz2 ?ez2
        case Tz2 =>
          intro hcz2 hkz2
          refine Lt.ofWL.skip rfl rfl rfl ?_
          refine Lt.ofWL.skip rfl rfl rfl ?_
          refine Lt.ofWL.skip rfl rfl rfl ?_
          refine Lt.ofWL.skip rfl rfl rfl ?_
          refine hkz2 _ ?_
          repeat (first | exact Sub.refl _ | refine Sub.skip rfl ?_)
        case Fz2 =>
          intro hcz2 hkz2
          have hqz2 := orO_f e14_7 hcz2
          obtain ⟨x14_5, e14_5, hqz2⟩ := bnd hqz2
          obtain rfl := Option.some.inj hqz2
          refine Lt.ofWL.step rfl rfl rfl (OpV.loadAll rfl (.tail _ (.tail _ (.head _))) ag_36) ?_
          refine Lt.ofWL.step rfl rfl rfl (OpV.loadAll rfl (.tail _ (.tail _ (.tail _ (.tail _ (.tail _ (.head _)))))) ag_36) ?_
          refine Lt.ofWL.step rfl rfl rfl (OpV.call (evs.cons rfl (evs.cons rfl (evs.nil))) ca_43 (fun w hs => w_laws_eqImage e14_5 (Ow.rd (hs.mem (.tail _ (.tail _ (.tail _ (.head _)))))) (Ow.rd (hs.mem (.tail _ (.tail _ (.tail _ (.tail _ (.tail _ (.tail _ (.head _))))))))))) ?_
          refine Lt.ofWL.step rfl rfl rfl (OpV.not rfl) ?_
          refine hkz2 _ ?_ ?_
          exact rfl
          repeat (first | exact Sub.refl _ | refine Sub.skip rfl ?_)
        case az2 => exact rfl
        case bz2 => exact rfl
        case cz2 => exact rfl
        case dz2 => exact rfl
        refine Lt.ofWL.step rfl rfl rfl (OpV.move rfl) ?_
        refine Lt.ofWL.or 57 61 60 (p := ?pz3) (rest := ?qz3) (B := ?Bz3) rfl ?Tz3 ?Fz3 ?az3 ?bz3 ?cz3 ?dz3 ?ez3
        case Tz3 =>
          intro hcz3 hkz3
          refine Lt.ofWL.skip rfl rfl rfl ?_
          refine Lt.ofWL.skip rfl rfl rfl ?_
          refine Lt.ofWL.skip rfl rfl rfl ?_
          refine hkz3 _ ?_
          repeat (first | exact Sub.refl _ | refine Sub.skip rfl ?_)
        case Fz3 =>
          intro hcz3 hkz3
          refine Lt.ofWL.step rfl rfl rfl (OpV.move rfl) ?_
          refine Lt.ofWL.step rfl rfl rfl (OpV.move rfl) ?_
          refine Lt.ofWL.step rfl rfl rfl (OpV.bneq rfl rfl ub_4) ?_
          refine hkz3 _ ?_ ?_
          exact rfl
          repeat (first | exact Sub.refl _ | refine Sub.skip rfl ?_)
        case az3 => exact rfl
        case bz3 => exact rfl
        case cz3 => exact rfl
        case dz3 => exact rfl
        refine WL.nil ?_
        refine En.next ?_
        refine WC.cond rfl ?_ ?_
        ·
          intro hc_4
          replace h := ifO_t hc_4 h
          refine WC.seq ?_
          refine WC.region ?_
          refine Lt.ofWL.step rfl rfl rfl (OpV.assign rfl) ?_
          refine WL.nil ?_
          refine En.next ?_
          refine WC.ret ?_
          refine En.then_ret ?_
          refine En.ret1 rfl (Res.tmp rfl) ?_
          obtain rfl := Option.some.inj h
          intro w' hs
          exact ⟨rfl, hs.below⟩
        ·
          intro hc_4
          replace h := ifO_f hc_4 h
          refine WC.skip ?_
          refine En.next ?_
          refine WC.seq ?_
          refine WC.region ?_
          refine Lt.ofWL.step rfl rfl rfl (OpV.assign rfl) ?_
          refine WL.nil ?_
          refine En.next ?_
          refine WC.seq ?_
          obtain ⟨⟨x17_2a, x17_2b⟩, e17_2, h⟩ := bnd h
          refine WC.region ?_
          refine Lt.ofWL.step rfl rfl rfl (OpV.loadAll rfl (.tail _ (.tail _ (.head _))) ag_36) ?_
          refine Lt.ofWL.step rfl rfl rfl (OpV.move rfl) ?_
          refine WL.wkF (fun _ h => h.perm (List.perm_middle (l₁ := [_, _, _]))) ?_
          refine WL.heavy rfl rfl rfl (OpH.callX (evs.cons rfl (evs.cons rfl (evs.nil))) ca_46 (fun w hs => w_laws_markImage e17_2 hs) ?_)
          rintro _ _ ⟨g17_200, rfl, rfl⟩
          refine Lt.ofWL.step rfl rfl rfl (OpV.assign rfl) ?_
          refine WL.nil ?_
          refine En.next ?_
          refine WC.seq ?_
          refine WC.region ?_
          refine Lt.ofWL.step rfl rfl rfl (OpV.assign rfl) ?_
          refine WL.nil ?_
          refine En.next ?_
          refine WC.seq ?_
          obtain ⟨x19_2, e19_2, h⟩ := bnd h
          refine WC.region ?_
          refine Lt.ofWL.step rfl rfl rfl (OpV.loadAll rfl (.tail _ (.tail _ (.tail _ (.head _)))) ag_36) ?_
          refine Lt.ofWL.step rfl rfl rfl (OpV.move rfl) ?_
          refine Lt.ofWL.step rfl rfl rfl (OpV.call (evs.cons rfl (evs.cons rfl (evs.nil))) ca_47 (fun w hs => w_laws_heldImage e19_2 (Ow.rd (hs.mem (.head _))))) ?_
          refine Lt.ofWL.step rfl rfl rfl (OpV.assign rfl) ?_
          refine WL.nil ?_
          refine En.next ?_
          refine WC.seq ?_
          refine WC.seq ?_
          refine WC.region ?_
          refine Lt.ofWL.step rfl rfl rfl (OpV.move rfl) ?_
          refine Lt.ofWL.step rfl rfl rfl (OpV.lss rfl rfl) ?_
          refine WL.nil ?_
          refine En.next ?_
          refine WC.cond rfl ?_ ?_
          ·
            intro hc_5
            replace h := ifO_t hc_5 h
            refine WC.seq ?_
            refine WC.region ?_
            refine Lt.ofWL.step rfl rfl rfl (OpV.assign rfl) ?_
            refine WL.nil ?_
            refine En.next ?_
            refine WC.ret ?_
            refine En.then_ret ?_
            refine En.ret1 rfl (Res.tmp rfl) ?_
            obtain rfl := Option.some.inj h
            intro w' hs
            exact ⟨rfl, hs.below⟩
          ·
            intro hc_5
            replace h := ifO_f hc_5 h
            refine WC.skip ?_
            refine En.next ?_
            refine WC.seq ?_
            refine WC.seq ?_
            refine WC.region ?_
            refine Lt.ofWL.step rfl rfl rfl (OpV.move rfl) ?_
            refine Lt.ofWL.step rfl rfl rfl (OpV.move rfl) ?_
            refine Lt.ofWL.step rfl rfl rfl (OpV.neq rfl rfl) ?_
            refine WL.nil ?_
            refine En.next ?_
            refine WC.cond rfl ?_ ?_
            ·
              intro hc_6
              replace h := ifO_t hc_6 h
              refine WC.seq ?_
              refine WC.region ?_
              refine Lt.ofWL.step rfl rfl rfl (OpV.assign rfl) ?_
              refine WL.nil ?_
              refine En.next ?_
              refine WC.ret ?_
              refine En.then_ret ?_
              refine En.ret1 rfl (Res.tmp rfl) ?_
              obtain rfl := Option.some.inj h
              intro w' hs
              exact ⟨rfl, hs.below⟩
            ·
              intro hc_6
              replace h := ifO_f hc_6 h
              refine WC.skip ?_
              refine En.next ?_
              refine WC.seq ?_
              obtain ⟨x24_1, e24_1, h⟩ := bnd h
              obtain ⟨⟨x24_2a, x24_2b⟩, e24_2, h⟩ := bnd h
              refine WC.region ?_
              refine Lt.ofWL.step rfl rfl rfl (OpV.loadAll rfl (.tail _ (.tail _ (.tail _ (.tail _ (.tail _ (.tail _ (.tail _ (.tail _ (.head _))))))))) ag_63) ?_
              refine WL.heavy rfl rfl rfl (OpH.callR (evs.cons rfl (evs.nil)) ca_41 (fun w hs => w_laws_toPlane e24_1 (r0_0.ext hs.below)) ?_)
              rintro _ _ ⟨a24_100, n24_100, c24_100, f24_100, rfl, rfl⟩
              refine WL.heavy rfl rfl rfl (OpH.callR (evs.cons rfl (evs.nil)) ca_42 (fun w hs => w_impl_PlaneImage e24_2 (Ow.rd (hs.mem (.head _)))) ?_)
              rintro _ _ ⟨a24_200, n24_200, c24_200, f24_200, rfl, rfl⟩
              refine Lt.ofWL.step rfl rfl rfl (OpV.move rfl) ?_
              refine Lt.ofWL.step rfl rfl rfl (OpV.extract rfl rfl) ?_
              refine Lt.ofWL.step rfl rfl rfl (OpV.extract rfl rfl) ?_
              refine WL.heavy rfl rfl rfl (OpH.alloc zc_36 ?_)
              intro b24_6
              refine WL.heavy0 rfl rfl (OpH.storeTo (A := []) [_, _, _] rfl rfl rfl ts_36 rfl rfl rfl ?_)
              refine Lt.ofWL.step rfl rfl rfl (OpV.assign rfl) ?_
              refine WL.nil ?_
              refine En.next ?_
              refine WC.seq ?_
              refine WC.seq ?_
              obtain ⟨x25_2, e25_2, h⟩ := bnd h
              refine WC.region ?_
              refine Lt.ofWL.step rfl rfl rfl (OpV.loadAll rfl (.head _) ag_36) ?_
              refine Lt.ofWL.step rfl rfl rfl (OpV.loadAll rfl (.tail _ (.tail _ (.tail _ (.tail _ (.tail _ (.tail _ (.tail _ (.tail _ (.head _))))))))) ag_36) ?_
              refine Lt.ofWL.step rfl rfl rfl (OpV.call (evs.cons rfl (evs.cons rfl (evs.nil))) ca_43 (fun w hs => w_laws_eqImage e25_2 (Ow.rd (hs.mem (.tail _ (.head _)))) (Ow.rd (hs.mem (.tail _ (.tail _ (.tail _ (.tail _ (.tail _ (.tail _ (.tail _ (.tail _ (.tail _ (.head _)))))))))))))) ?_
              refine Lt.ofWL.step rfl rfl rfl (OpV.not rfl) ?_
              refine Lt.ofWL.step rfl rfl rfl (OpV.move rfl) ?_
              refine Lt.ofWL.or 83 87 86 (p := ?pz4) (rest := ?qz4) (B := ?Bz4) rfl ?Tz4 ?Fz4 ?az4 ?bz4 ?cz4 ?dz4 ?ez4
              case Tz4 =>
                intro hcz4 hkz4
                refine Lt.ofWL.skip rfl rfl rfl ?_
                refine Lt.ofWL.skip rfl rfl rfl ?_
                refine Lt.ofWL.skip rfl rfl rfl ?_
                refine hkz4 _ ?_
                repeat (first | exact Sub.refl _ | refine Sub.skip rfl ?_)
              case Fz4 =>
                intro hcz4 hkz4
                refine Lt.ofWL.step rfl rfl rfl (OpV.move rfl) ?_
                refine Lt.ofWL.step rfl rfl rfl (OpV.move rfl) ?_
                refine Lt.ofWL.step rfl rfl rfl (OpV.bneq rfl rfl ub_4) ?_
                refine hkz4 _ ?_ ?_
                exact rfl
                repeat (first | exact Sub.refl _ | refine Sub.skip rfl ?_)
              case az4 => exact rfl
              case bz4 => exact rfl
              case cz4 => exact rfl
              case dz4 => exact rfl
              refine WL.nil ?_
              refine En.next ?_
              refine WC.cond rfl ?_ ?_
              ·
                intro hc_7
                replace h := ifO_t hc_7 h
                refine WC.seq ?_
                refine WC.region ?_
                refine Lt.ofWL.step rfl rfl rfl (OpV.assign rfl) ?_
                refine WL.nil ?_
                refine En.next ?_
                refine WC.ret ?_
                refine En.then_ret ?_
                refine En.ret1 rfl (Res.tmp rfl) ?_
                obtain rfl := Option.some.inj h
                intro w' hs
                exact ⟨rfl, hs.below⟩
              ·
                intro hc_7
                replace h := ifO_f hc_7 h
                refine WC.skip ?_
                refine En.next ?_
                refine WC.seq ?_
                refine WC.region ?_
                refine Lt.ofWL.step rfl rfl rfl (OpV.assign rfl) ?_
                refine WL.nil ?_
                refine En.next ?_
                refine WC.seq ?_
                obtain ⟨x28_2, e28_2, h⟩ := bnd h
                refine WC.region ?_
                refine Lt.ofWL.step rfl rfl rfl (OpV.loadAll rfl (.tail _ (.tail _ (.tail _ (.tail _ (.tail _ (.tail _ (.head _))))))) ag_36) ?_
                refine Lt.ofWL.step rfl rfl rfl (OpV.move rfl) ?_
                refine Lt.ofWL.step rfl rfl rfl (OpV.call (evs.cons rfl (evs.cons rfl (evs.nil))) ca_47 (fun w hs => w_laws_heldImage e28_2 (Ow.rd (hs.mem (.tail _ (.tail _ (.tail _ (.head _)))))))) ?_
                refine Lt.ofWL.step rfl rfl rfl (OpV.assign rfl) ?_
                refine WL.nil ?_
                refine En.next ?_
                refine WC.seq ?_
                refine WC.seq ?_
                refine WC.region ?_
                refine Lt.ofWL.step rfl rfl rfl (OpV.move rfl) ?_
                refine Lt.ofWL.step rfl rfl rfl (OpV.lss rfl rfl) ?_
                refine WL.nil ?_
                refine En.next ?_
                refine WC.cond rfl ?_ ?_
                ·
                  intro hc_8
                  replace h := ifO_t hc_8 h
                  refine WC.seq ?_
                  refine WC.region ?_
                  refine Lt.ofWL.step rfl rfl rfl (OpV.assign rfl) ?_
                  refine WL.nil ?_
                  refine En.next ?_
                  refine WC.ret ?_
                  refine En.then_ret ?_
                  refine En.ret1 rfl (Res.tmp rfl) ?_
                  obtain rfl := Option.some.inj h
                  intro w' hs
                  exact ⟨rfl, hs.below⟩
                ·
                  intro hc_8
                  replace h := ifO_f hc_8 h
                  refine WC.skip ?_
                  refine En.next ?_
                  refine WC.seq ?_
                  refine WC.seq ?_
                  refine WC.region ?_
                  refine Lt.ofWL.step rfl rfl rfl (OpV.move rfl) ?_
                  refine Lt.ofWL.step rfl rfl rfl (OpV.move rfl) ?_
                  refine Lt.ofWL.step rfl rfl rfl (OpV.neq rfl rfl) ?_
                  refine WL.nil ?_
                  refine En.next ?_
                  refine WC.cond rfl ?_ ?_
                  ·
                    intro hc_9
                    replace h := ifO_t hc_9 h
                    refine WC.seq ?_
                    refine WC.region ?_
                    refine Lt.ofWL.step rfl rfl rfl (OpV.assign rfl) ?_
                    refine WL.nil ?_
                    refine En.next ?_
                    refine WC.ret ?_
                    refine En.then_ret ?_
                    refine En.ret1 rfl (Res.tmp rfl) ?_
                    obtain rfl := Option.some.inj h
                    intro w' hs
                    exact ⟨rfl, hs.below⟩
                  ·
                    intro hc_9
                    replace h := ifO_f hc_9 h
                    refine WC.skip ?_
                    refine En.next ?_
                    refine WC.seq ?_
                    refine WC.region ?_
                    refine Lt.ofWL.step rfl rfl rfl (OpV.assign rfl) ?_
                    refine WL.nil ?_
                    refine En.next ?_
                    refine WC.ret ?_
                    refine En.ret1 rfl (Res.tmp rfl) ?_
                    obtain rfl := Option.some.inj h
                    intro w' hs
                    exact ⟨rfl, hs.below⟩

theorem w_spec_l19Zero {p_p0 : PlaneT} {r : Bool} {q0_0 : Option Addr} {n0_0 k0_0 : Nat} (h : spec_l19Zero p_p0 = some r) {w : World} (r0_0 : Rd tInt w q0_0 n0_0 k0_0 p_p0.Words)   :
    Calls Try.prog 109 #[.agg #[.bool p_p0.On, .int .i64 p_p0.X, .int .i64 p_p0.Y, .int .i64 p_p0.W, .int .i64 p_p0.H, .int .i64 p_p0.Layout, .slice q0_0 n0_0 k0_0, .int .i64 p_p0.Alpha, .int .i64 p_p0.Orient, .int .i64 p_p0.ToW, .int .i64 p_p0.ToH]] w (fun en w' => en = .returned (.bool r) ∧ Ext w w') := by
  obtain rfl := r0_0.1
  unfold spec_l19Zero at h
  refine enter (vs := [_]) Try.func109 rfl rfl rfl rfl ?_
  refine WC.seq ?_
  refine WC.region ?_
  refine WL.heavy rfl rfl rfl (OpH.box rfl rfl ?_)
  intro b0_0
  refine Lt.ofWL.step rfl rfl rfl (OpV.assign rfl) ?_
  refine WL.nil ?_
  refine En.next ?_
  refine WC.seq ?_
  refine WC.region ?_
  refine Lt.ofWL.step rfl rfl rfl (OpV.fieldAddr rfl fo_57_1) ?_
  refine Lt.ofWL.step rfl rfl rfl (OpV.loadBox rfl pt_3 (.head _) rfl) ?_
  refine Lt.ofWL.step rfl rfl rfl (OpV.eql rfl rfl) ?_
  refine Lt.ofWL.step rfl rfl rfl (OpV.move rfl) ?_
  refine Lt.ofWL.and 6 10 9 (p := ?pz1) (rest := ?qz1) (B := ?Bz1) rfl ?Tz1 ?Fz1 ?az1 ?bz1 ?cz1 ?dz1 ?ez1
  case Tz1 =>
    intro hcz1 hkz1
    refine Lt.ofWL.step rfl rfl rfl (OpV.fieldAddr rfl fo_57_2) ?_
    refine Lt.ofWL.step rfl rfl rfl (OpV.loadBox rfl pt_3 (.head _) rfl) ?_
    refine Lt.ofWL.step rfl rfl rfl (OpV.eql rfl rfl) ?_
    refine hkz1 _ ?_ ?_
    exact rfl
    repeat (first | exact Sub.refl _ | refine Sub.skip rfl ?_)
  case Fz1 =>
    intro hcz1 hkz1
    refine Lt.ofWL.skip rfl rfl rfl ?_
    refine Lt.ofWL.skip rfl rfl rfl ?_
    refine Lt.ofWL.skip rfl rfl rfl ?_
    refine hkz1 _ ?_
    repeat (first | exact Sub.refl _ | refine Sub.skip rfl ?_)
  case az1 => exact rfl
  case bz1 => exact rfl
  case cz1 => exact rfl
  case dz1 => exact rfl
  refine Lt.ofWL.step rfl rfl rfl (OpV.move rfl) ?_
  refine Lt.ofWL.and 11 15 14 (p := ?pz2) (rest := ?qz2) (B := ?Bz2) rfl ?Tz2 ?Fz2 ?az2 ?bz2 ?cz2 ?dz2 ?ez2
  case Tz2 =>
    intro hcz2 hkz2
    refine Lt.ofWL.step rfl rfl rfl (OpV.fieldAddr rfl fo_57_3) ?_
    refine Lt.ofWL.step rfl rfl rfl (OpV.loadBox rfl pt_3 (.head _) rfl) ?_
    refine Lt.ofWL.step rfl rfl rfl (OpV.eql rfl rfl) ?_
    refine hkz2 _ ?_ ?_
    exact rfl
    repeat (first | exact Sub.refl _ | refine Sub.skip rfl ?_)
  case Fz2 =>
    intro hcz2 hkz2
    refine Lt.ofWL.skip rfl rfl rfl ?_
    refine Lt.ofWL.skip rfl rfl rfl ?_
    refine Lt.ofWL.skip rfl rfl rfl ?_
    refine hkz2 _ ?_
    repeat (first | exact Sub.refl _ | refine Sub.skip rfl ?_)
  case az2 => exact rfl
  case bz2 => exact rfl
  case cz2 => exact rfl
  case dz2 => exact rfl
  refine Lt.ofWL.step rfl rfl rfl (OpV.move rfl) ?_
  refine Lt.ofWL.and 16 20 19 (p := ?pz3) (rest := ?qz3) (B := ?Bz3) rfl ?Tz3 ?Fz3 ?az3 ?bz3 ?cz3 ?dz3 ?ez3
  case Tz3 =>
    intro hcz3 hkz3
    refine Lt.ofWL.step rfl rfl rfl (OpV.fieldAddr rfl fo_57_4) ?_
    refine Lt.ofWL.step rfl rfl rfl (OpV.loadBox rfl pt_3 (.head _) rfl) ?_
    refine Lt.ofWL.step rfl rfl rfl (OpV.eql rfl rfl) ?_
    refine hkz3 _ ?_ ?_
    exact rfl
    repeat (first | exact Sub.refl _ | refine Sub.skip rfl ?_)
  case Fz3 =>
    intro hcz3 hkz3
    refine Lt.ofWL.skip rfl rfl rfl ?_
    refine Lt.ofWL.skip rfl rfl rfl ?_
    refine Lt.ofWL.skip rfl rfl rfl ?_
    refine hkz3 _ ?_
    repeat (first | exact Sub.refl _ | refine Sub.skip rfl ?_)
  case az3 => exact rfl
  case bz3 => exact rfl
  case cz3 => exact rfl
  case dz3 => exact rfl
  refine Lt.ofWL.step rfl rfl rfl (OpV.move rfl) ?_
  refine Lt.ofWL.and 21 25 24 (p := ?pz4) (rest := ?qz4) (B := ?Bz4) rfl ?Tz4 ?Fz4 ?az4 ?bz4 ?cz4 ?dz4 ?ez4
  case Tz4 =>
    intro hcz4 hkz4
    refine Lt.ofWL.step rfl rfl rfl (OpV.fieldAddr rfl fo_57_5) ?_
    refine Lt.ofWL.step rfl rfl rfl (OpV.loadBox rfl pt_3 (.head _) rfl) ?_
    refine Lt.ofWL.step rfl rfl rfl (OpV.eql rfl rfl) ?_
    refine hkz4 _ ?_ ?_
    exact rfl
    repeat (first | exact Sub.refl _ | refine Sub.skip rfl ?_)
  case Fz4 =>
    intro hcz4 hkz4
    refine Lt.ofWL.skip rfl rfl rfl ?_
    refine Lt.ofWL.skip rfl rfl rfl ?_
    refine Lt.ofWL.skip rfl rfl rfl ?_
    refine hkz4 _ ?_
    repeat (first | exact Sub.refl _ | refine Sub.skip rfl ?_)
  case az4 => exact rfl
  case bz4 => exact rfl
  case cz4 => exact rfl
  case dz4 => exact rfl
  refine Lt.ofWL.step rfl rfl rfl (OpV.move rfl) ?_
  refine Lt.ofWL.and 26 31 30 (p := ?pz5) (rest := ?qz5) (B := ?Bz5) rfl ?Tz5 ?Fz5 ?az5 ?bz5 ?cz5 ?dz5 ?ez5
  case Tz5 =>
    intro hcz5 hkz5
    refine Lt.ofWL.step rfl rfl rfl (OpV.fieldAddr rfl fo_57_6) ?_
    refine Lt.ofWL.step rfl rfl rfl (OpV.loadBox rfl pt_32 (.head _) rfl) ?_
    refine Lt.ofWL.step rfl rfl rfl (OpV.len rfl si_32 rfl) ?_
    refine Lt.ofWL.step rfl rfl rfl (OpV.eql rfl rfl) ?_
    refine hkz5 _ ?_ ?_
    exact rfl
    repeat (first | exact Sub.refl _ | refine Sub.skip rfl ?_)
  case Fz5 =>
    intro hcz5 hkz5
    refine Lt.ofWL.skip rfl rfl rfl ?_
    refine Lt.ofWL.skip rfl rfl rfl ?_
    refine Lt.ofWL.skip rfl rfl rfl ?_
    refine Lt.ofWL.skip rfl rfl rfl ?_
    refine hkz5 _ ?_
    repeat (first | exact Sub.refl _ | refine Sub.skip rfl ?_)
  case az5 => exact rfl
  case bz5 => exact rfl
  case cz5 => exact rfl
  case dz5 => exact rfl
  refine Lt.ofWL.step rfl rfl rfl (OpV.move rfl) ?_
  refine Lt.ofWL.and 32 36 35 (p := ?pz6) (rest := ?qz6) (B := ?Bz6) rfl ?Tz6 ?Fz6 ?az6 ?bz6 ?cz6 ?dz6 ?ez6
  case Tz6 =>
    intro hcz6 hkz6
    refine Lt.ofWL.step rfl rfl rfl (OpV.fieldAddr rfl fo_57_7) ?_
    refine Lt.ofWL.step rfl rfl rfl (OpV.loadBox rfl pt_3 (.head _) rfl) ?_
    refine Lt.ofWL.step rfl rfl rfl (OpV.eql rfl rfl) ?_
    refine hkz6 _ ?_ ?_
    exact rfl
    repeat (first | exact Sub.refl _ | refine Sub.skip rfl ?_)
  case Fz6 =>
    intro hcz6 hkz6
    refine Lt.ofWL.skip rfl rfl rfl ?_
    refine Lt.ofWL.skip rfl rfl rfl ?_
    refine Lt.ofWL.skip rfl rfl rfl ?_
    refine hkz6 _ ?_
    repeat (first | exact Sub.refl _ | refine Sub.skip rfl ?_)
  case az6 => exact rfl
  case bz6 => exact rfl
  case cz6 => exact rfl
  case dz6 => exact rfl
  refine Lt.ofWL.step rfl rfl rfl (OpV.move rfl) ?_
  refine Lt.ofWL.and 37 41 40 (p := ?pz7) (rest := ?qz7) (B := ?Bz7) rfl ?Tz7 ?Fz7 ?az7 ?bz7 ?cz7 ?dz7 ?ez7
  case Tz7 =>
    intro hcz7 hkz7
    refine Lt.ofWL.step rfl rfl rfl (OpV.fieldAddr rfl fo_57_8) ?_
    refine Lt.ofWL.step rfl rfl rfl (OpV.loadBox rfl pt_3 (.head _) rfl) ?_
    refine Lt.ofWL.step rfl rfl rfl (OpV.eql rfl rfl) ?_
    refine hkz7 _ ?_ ?_
    exact rfl
    repeat (first | exact Sub.refl _ | refine Sub.skip rfl ?_)
  case Fz7 =>
    intro hcz7 hkz7
    refine Lt.ofWL.skip rfl rfl rfl ?_
    refine Lt.ofWL.skip rfl rfl rfl ?_
    refine Lt.ofWL.skip rfl rfl rfl ?_
    refine hkz7 _ ?_
    repeat (first | exact Sub.refl _ | refine Sub.skip rfl ?_)
  case az7 => exact rfl
  case bz7 => exact rfl
  case cz7 => exact rfl
  case dz7 => exact rfl
  refine Lt.ofWL.step rfl rfl rfl (OpV.move rfl) ?_
  refine Lt.ofWL.and 42 46 45 (p := ?pz8) (rest := ?qz8) (B := ?Bz8) rfl ?Tz8 ?Fz8 ?az8 ?bz8 ?cz8 ?dz8 ?ez8
  case Tz8 =>
    intro hcz8 hkz8
    refine Lt.ofWL.step rfl rfl rfl (OpV.fieldAddr rfl fo_57_9) ?_
    refine Lt.ofWL.step rfl rfl rfl (OpV.loadBox rfl pt_3 (.head _) rfl) ?_
    refine Lt.ofWL.step rfl rfl rfl (OpV.eql rfl rfl) ?_
    refine hkz8 _ ?_ ?_
    exact rfl
    repeat (first | exact Sub.refl _ | refine Sub.skip rfl ?_)
  case Fz8 =>
    intro hcz8 hkz8
    refine Lt.ofWL.skip rfl rfl rfl ?_
    refine Lt.ofWL.skip rfl rfl rfl ?_
    refine Lt.ofWL.skip rfl rfl rfl ?_
    refine hkz8 _ ?_
    repeat (first | exact Sub.refl _ | refine Sub.skip rfl ?_)
  case az8 => exact rfl
  case bz8 => exact rfl
  case cz8 => exact rfl
  case dz8 => exact rfl
  refine Lt.ofWL.step rfl rfl rfl (OpV.move rfl) ?_
  refine Lt.ofWL.and 47 51 50 (p := ?pz9) (rest := ?qz9) (B := ?Bz9) rfl ?Tz9 ?Fz9 ?az9 ?bz9 ?cz9 ?dz9 ?ez9
  case Tz9 =>
    intro hcz9 hkz9
    refine Lt.ofWL.step rfl rfl rfl (OpV.fieldAddr rfl fo_57_10) ?_
    refine Lt.ofWL.step rfl rfl rfl (OpV.loadBox rfl pt_3 (.head _) rfl) ?_
    refine Lt.ofWL.step rfl rfl rfl (OpV.eql rfl rfl) ?_
    refine hkz9 _ ?_ ?_
    exact rfl
    repeat (first | exact Sub.refl _ | refine Sub.skip rfl ?_)
  case Fz9 =>
    intro hcz9 hkz9
    refine Lt.ofWL.skip rfl rfl rfl ?_
    refine Lt.ofWL.skip rfl rfl rfl ?_
    refine Lt.ofWL.skip rfl rfl rfl ?_
    refine hkz9 _ ?_
    repeat (first | exact Sub.refl _ | refine Sub.skip rfl ?_)
  case az9 => exact rfl
  case bz9 => exact rfl
  case cz9 => exact rfl
  case dz9 => exact rfl
  refine Lt.ofWL.step rfl rfl rfl (OpV.assign rfl) ?_
  refine WL.nil ?_
  refine En.next ?_
  refine WC.ret ?_
  refine En.ret1 rfl (Res.tmp rfl) ?_
  obtain rfl := Option.some.inj h
  intro w' hs
  exact ⟨rfl, hs.below⟩

theorem w_spec_l10Opaque {p_p0 : Int} {r : Bool}  (h : spec_l10Opaque p_p0 = some r) {w : World}    :
    Calls Try.prog 110 #[.int .i64 p_p0] w (fun en w' => en = .returned (.bool r) ∧ Ext w w') := by
  unfold spec_l10Opaque at h
  refine enter (vs := [_]) Try.func110 rfl rfl rfl rfl ?_
  refine WC.seq ?_
  refine WC.region ?_
  refine Lt.ofWL.step rfl rfl rfl (OpV.assign rfl) ?_
  refine WL.nil ?_
  refine En.next ?_
  refine WC.seq ?_
  obtain ⟨x1_1, e1_1, h⟩ := bnd h
  obtain ⟨q1_6, e1_6, h⟩ := bnd h
  refine WC.region ?_
  refine Lt.ofWL.step rfl rfl rfl (OpV.move rfl) ?_
  refine Lt.ofWL.step rfl rfl rfl (OpV.call (evs.cons rfl (evs.nil)) ca_89 (fun w hs => w_spec_l04Pixel e1_1)) ?_
  refine Lt.ofWL.step rfl rfl rfl (OpV.move rfl) ?_
  refine Lt.ofWL.andQ 5 9 8 (p := ?pz1) (rest := ?qz1) (B := q1_6) rfl (fun hz => andO_f e1_6 hz) ?Tz1 ?Fz1 ?az1 ?bz1 ?cz1 ?dz1 ?ez1
  case Tz1 =>
    intro hcz1 hkz1
    have hqz1 := andO_t e1_6 hcz1
    obtain ⟨x1_4, e1_4, hqz1⟩ := bnd hqz1
    obtain rfl := Option.some.inj hqz1
    refine Lt.ofWL.step rfl rfl rfl (OpV.move rfl) ?_
    refine Lt.ofWL.step rfl rfl rfl (OpV.call (evs.cons rfl (evs.cons rfl (evs.nil))) ca_115 (fun w hs => w_spec_ChannelOf e1_4)) ?_
    refine Lt.ofWL.step rfl rfl rfl (OpV.eql rfl rfl) ?_
    refine hkz1 _ ?_ ?_
    exact rfl
    repeat (first | exact Sub.refl _ | refine Sub.skip rfl ?_)
  case Fz1 =>
    intro hcz1 hkz1
    refine Lt.ofWL.skip rfl rfl rfl ?_
    refine Lt.ofWL.skip rfl rfl rfl ?_
    refine Lt.ofWL.skip rfl rfl rfl ?_
    refine hkz1 _ ?_
    repeat (first | exact Sub.refl _ | refine Sub.skip rfl ?_)
  case az1 => exact rfl
  case bz1 => exact rfl
  case cz1 => exact rfl
  case dz1 => exact rfl
  refine Lt.ofWL.step rfl rfl rfl (OpV.assign rfl) ?_
  refine WL.nil ?_
  refine En.next ?_
  refine WC.ret ?_
  refine En.ret1 rfl (Res.tmp rfl) ?_
  obtain rfl := Option.some.inj h
  intro w' hs
  exact ⟨rfl, hs.below⟩

theorem w_spec_PlaneOk {a_p0 : Int} {a_p1 : PlaneT} {a_p2 : Int} {a_p3 : Int} {r : Bool} {q1_0 : Option Addr} {n1_0 k1_0 : Nat} (h : spec_PlaneOk a_p0 a_p1 a_p2 a_p3 = some r) {w : World} (r1_0 : Rd tInt w q1_0 n1_0 k1_0 a_p1.Words)   :
    Calls Try.prog 48 #[.int .i64 a_p0, .agg #[.bool a_p1.On, .int .i64 a_p1.X, .int .i64 a_p1.Y, .int .i64 a_p1.W, .int .i64 a_p1.H, .int .i64 a_p1.Layout, .slice q1_0 n1_0 k1_0, .int .i64 a_p1.Alpha, .int .i64 a_p1.Orient, .int .i64 a_p1.ToW, .int .i64 a_p1.ToH], .int .i64 a_p2, .int .i64 a_p3] w (fun en w' => en = .returned (.bool r) ∧ Ext w w') := by
  obtain rfl := r1_0.1
  unfold spec_PlaneOk at h
  refine enter (vs := [_, _, _, _]) Try.func48 rfl rfl rfl rfl ?_
  refine WC.seq ?_
  refine WC.region ?_
  refine WL.heavy rfl rfl rfl (OpH.box rfl rfl ?_)
  intro b0_0
  refine Lt.ofWL.step rfl rfl rfl (OpV.assign rfl) ?_
  refine WL.nil ?_
  refine En.next ?_
  refine WC.seq ?_
  refine WC.seq ?_
  obtain ⟨x1_1, e1_1, h⟩ := bnd h
  obtain ⟨q1_7, e1_7, h⟩ := bnd h
  obtain ⟨q1_12, e1_12, h⟩ := bnd h
  refine WC.region ?_
  refine Lt.ofWL.step rfl rfl rfl (OpV.move rfl) ?_
  refine Lt.ofWL.step rfl rfl rfl (OpV.call (evs.cons rfl (evs.cons rfl (evs.cons rfl (evs.nil)))) ca_88 (fun w hs => w_spec_l01In e1_1)) ?_
  refine Lt.ofWL.step rfl rfl rfl (OpV.not rfl) ?_
  refine Lt.ofWL.step rfl rfl rfl (OpV.move rfl) ?_
  refine Lt.ofWL.orQ 16 20 19 (p := ?pz1) (rest := ?qz1) (B := q1_7) rfl (fun hz => orO_t e1_7 hz) ?Tz1 ?Fz1 ?az1 ?bz1 ?cz1 ?dz1 ?ez1
  case Tz1 =>
    intro hcz1 hkz1
    refine Lt.ofWL.skip rfl rfl rfl ?_
    refine Lt.ofWL.skip rfl rfl rfl ?_
    refine Lt.ofWL.skip rfl rfl rfl ?_
    refine hkz1 _ ?_
    repeat (first | exact Sub.refl _ | refine Sub.skip rfl ?_)
  case Fz1 =>
    intro hcz1 hkz1
    have hqz1 := orO_f e1_7 hcz1
    obtain ⟨x1_5, e1_5, hqz1⟩ := bnd hqz1
    obtain rfl := Option.some.inj hqz1
    refine Lt.ofWL.step rfl rfl rfl (OpV.move rfl) ?_
    refine Lt.ofWL.step rfl rfl rfl (OpV.call (evs.cons rfl (evs.cons rfl (evs.cons rfl (evs.nil)))) ca_88 (fun w hs => w_spec_l01In e1_5)) ?_
    refine Lt.ofWL.step rfl rfl rfl (OpV.not rfl) ?_
    refine hkz1 _ ?_ ?_
    exact rfl
    repeat (first | exact Sub.refl _ | refine Sub.skip rfl ?_)
  case az1 => exact rfl
  case bz1 => exact rfl
  case cz1 => exact rfl
  case dz1 => exact rfl
  refine Lt.ofWL.step rfl rfl rfl (OpV.move rfl) ?_
  refine Lt.ofWL.orQ 21 25 24 (p := ?pz2) (rest := ?qz2) (B := q1_12) rfl (fun hz => orO_t e1_12 hz) ?Tz2 ?Fz2 ?az2 ?bz2 ?cz2 ?dz2 ?ez2
  case Tz2 =>
    intro hcz2 hkz2
    refine Lt.ofWL.skip rfl rfl rfl ?_
    refine Lt.ofWL.skip rfl rfl rfl ?_
    refine Lt.ofWL.skip rfl rfl rfl ?_
    refine hkz2 _ ?_
    repeat (first | exact Sub.refl _ | refine Sub.skip rfl ?_)
  case Fz2 =>
    intro hcz2 hkz2
    have hqz2 := orO_f e1_12 hcz2
    obtain ⟨x1_10, e1_10, hqz2⟩ := bnd hqz2
    obtain rfl := Option.some.inj hqz2
    refine Lt.ofWL.step rfl rfl rfl (OpV.move rfl) ?_
    refine Lt.ofWL.step rfl rfl rfl (OpV.call (evs.cons rfl (evs.cons rfl (evs.cons rfl (evs.nil)))) ca_88 (fun w hs => w_spec_l01In e1_10)) ?_
    refine Lt.ofWL.step rfl rfl rfl (OpV.not rfl) ?_
    refine hkz2 _ ?_ ?_
    exact rfl
    repeat (first | exact Sub.refl _ | refine Sub.skip rfl ?_)
  case az2 => exact rfl
  case bz2 => exact rfl
  case cz2 => exact rfl
  case dz2 => exact rfl
  refine WL.nil ?_
  refine En.next ?_
  refine WC.cond rfl ?_ ?_
  ·
    intro hc_1
    replace h := ifO_t hc_1 h
    refine WC.seq ?_
    refine WC.region ?_
    refine Lt.ofWL.step rfl rfl rfl (OpV.assign rfl) ?_
    refine WL.nil ?_
    refine En.next ?_
    refine WC.ret ?_
    refine En.then_ret ?_
    refine En.ret1 rfl (Res.tmp rfl) ?_
    obtain rfl := Option.some.inj h
    intro w' hs
    exact ⟨rfl, hs.below⟩
  ·
    intro hc_1
    replace h := ifO_f hc_1 h
    refine WC.skip ?_
    refine En.next ?_
    refine WC.seq ?_
    refine WC.seq ?_
    refine WC.region ?_
    refine Lt.ofWL.step rfl rfl rfl (OpV.fieldAddr rfl fo_57_0) ?_
    refine Lt.ofWL.step rfl rfl rfl (OpV.loadBox rfl pt_4 (.head _) rfl) ?_
    refine Lt.ofWL.step rfl rfl rfl (OpV.not rfl) ?_
    refine WL.nil ?_
    refine En.next ?_
    refine WC.cond rfl ?_ ?_
    ·
      intro hc_2
      replace h := ifO_t hc_2 h
      refine WC.seq ?_
      obtain ⟨q4_5, e4_5, h⟩ := bnd h
      refine WC.region ?_
      refine Lt.ofWL.step rfl rfl rfl (OpV.move rfl) ?_
      refine Lt.ofWL.step rfl rfl rfl (OpV.neq rfl rfl) ?_
      refine Lt.ofWL.step rfl rfl rfl (OpV.move rfl) ?_
      refine Lt.ofWL.andQ 31 34 33 (p := ?pz3) (rest := ?qz3) (B := q4_5) rfl (fun hz => andO_f e4_5 hz) ?Tz3 ?Fz3 ?az3 ?bz3 ?cz3 ?dz3 ?ez3
      case Tz3 =>
        intro hcz3 hkz3
        have hqz3 := andO_t e4_5 hcz3
        obtain ⟨x4_4, e4_4, hqz3⟩ := bnd hqz3
        obtain rfl := Option.some.inj hqz3
        refine Lt.ofWL.step rfl rfl rfl (OpV.loadAll rfl (.head _) ag_57) ?_
        refine Lt.ofWL.step rfl rfl rfl (OpV.call (evs.cons rfl (evs.nil)) ca_109 (fun w hs => w_spec_l19Zero e4_4 (r1_0.ext hs.below))) ?_
        refine hkz3 _ ?_ ?_
        exact rfl
        repeat (first | exact Sub.refl _ | refine Sub.skip rfl ?_)
      case Fz3 =>
        intro hcz3 hkz3
        refine Lt.ofWL.skip rfl rfl rfl ?_
        refine Lt.ofWL.skip rfl rfl rfl ?_
        refine hkz3 _ ?_
        repeat (first | exact Sub.refl _ | refine Sub.skip rfl ?_)
      case az3 => exact rfl
      case bz3 => exact rfl
      case cz3 => exact rfl
      case dz3 => exact rfl
      refine Lt.ofWL.step rfl rfl rfl (OpV.assign rfl) ?_
      refine WL.nil ?_
      refine En.next ?_
      refine WC.ret ?_
      refine En.then_ret ?_
      refine En.ret1 rfl (Res.tmp rfl) ?_
      obtain rfl := Option.some.inj h
      intro w' hs
      exact ⟨rfl, hs.below⟩
    ·
      intro hc_2
      replace h := ifO_f hc_2 h
      refine WC.skip ?_
      refine En.next ?_
      refine WC.seq ?_
      obtain ⟨⟨x5_1a, x5_1b⟩, e5_1, h⟩ := bnd h
      refine WC.region ?_
      refine Lt.ofWL.step rfl rfl rfl (OpV.loadAll rfl (.head _) ag_57) ?_
      refine WL.heavy rfl rfl rfl (OpH.callR (evs.cons rfl (evs.nil)) ca_40 (fun w hs => w_spec_PlaneImage e5_1 (r1_0.ext hs.below)) ?_)
      rintro _ _ ⟨a5_100, n5_100, c5_100, f5_100, rfl, rfl⟩
      refine Lt.ofWL.step rfl rfl rfl (OpV.move rfl) ?_
      refine Lt.ofWL.step rfl rfl rfl (OpV.extract rfl rfl) ?_
      refine Lt.ofWL.step rfl rfl rfl (OpV.extract rfl rfl) ?_
      refine WL.heavy rfl rfl rfl (OpH.alloc zc_36 ?_)
      intro b5_5
      refine WL.heavy0 rfl rfl (OpH.storeTo (A := []) [_, _, _] rfl rfl rfl ts_36 rfl rfl rfl ?_)
      refine Lt.ofWL.step rfl rfl rfl (OpV.assign rfl) ?_
      refine WL.nil ?_
      refine En.next ?_
      refine WC.seq ?_
      refine WC.seq ?_
      obtain ⟨q6_7, e6_7, h⟩ := bnd h
      obtain ⟨q6_13, e6_13, h⟩ := bnd h
      refine WC.region ?_
      refine Lt.ofWL.step rfl rfl rfl (OpV.move rfl) ?_
      refine Lt.ofWL.step rfl rfl rfl (OpV.not rfl) ?_
      refine Lt.ofWL.step rfl rfl rfl (OpV.move rfl) ?_
      refine Lt.ofWL.orQ 42 47 46 (p := ?pz4) (rest := ?qz4) (B := q6_7) rfl (fun hz => orO_t e6_7 hz) ?Tz4 ?Fz4 ?az4 ?bz4 ?cz4 ?dz4 ?ez4
      case Tz4 =>
        intro hcz4 hkz4
        refine Lt.ofWL.skip rfl rfl rfl ?_
        refine Lt.ofWL.skip rfl rfl rfl ?_
        refine Lt.ofWL.skip rfl rfl rfl ?_
        refine Lt.ofWL.skip rfl rfl rfl ?_
        refine hkz4 _ ?_
        repeat (first | exact Sub.refl _ | refine Sub.skip rfl ?_)
      case Fz4 =>
        intro hcz4 hkz4
        have hqz4 := orO_f e6_7 hcz4
        obtain ⟨x6_5, e6_5, hqz4⟩ := bnd hqz4
        obtain rfl := Option.some.inj hqz4
        refine Lt.ofWL.step rfl rfl rfl (OpV.fieldAddr rfl fo_57_1) ?_
        refine Lt.ofWL.step rfl rfl rfl (OpV.loadBox rfl pt_3 (.tail _ (.tail _ (.head _))) rfl) ?_
        refine Lt.ofWL.step rfl rfl rfl (OpV.call (evs.cons rfl (evs.cons rfl (evs.cons rfl (evs.nil)))) ca_88 (fun w hs => w_spec_l01In e6_5)) ?_
        refine Lt.ofWL.step rfl rfl rfl (OpV.not rfl) ?_
        refine hkz4 _ ?_ ?_
        exact rfl
        repeat (first | exact Sub.refl _ | refine Sub.skip rfl ?_)
      case az4 => exact rfl
      case bz4 => exact rfl
      case cz4 => exact rfl
      case dz4 => exact rfl
      refine Lt.ofWL.step rfl rfl rfl (OpV.move rfl) ?_
      refine Lt.ofWL.orQ 48 53 52 (p := ?pz5) (rest := ?qz5) (B := q6_13) rfl (fun hz => orO_t e6_13 hz) ?Tz5 ?Fz5 ?az5 ?bz5 ?cz5 ?dz5 ?ez5
      case Tz5 =>
        intro hcz5 hkz5
        refine Lt.ofWL.skip rfl rfl rfl ?_
        refine Lt.ofWL.skip rfl rfl rfl ?_
        refine Lt.ofWL.skip rfl rfl rfl ?_
        refine Lt.ofWL.skip rfl rfl rfl ?_
        refine hkz5 _ ?_
        repeat (first | exact Sub.refl _ | refine Sub.skip rfl ?_)
      case Fz5 =>
        intro hcz5 hkz5
        have hqz5 := orO_f e6_13 hcz5
        obtain ⟨x6_11, e6_11, hqz5⟩ := bnd hqz5
        obtain rfl := Option.some.inj hqz5
        refine Lt.ofWL.step rfl rfl rfl (OpV.fieldAddr rfl fo_57_2) ?_
        refine Lt.ofWL.step rfl rfl rfl (OpV.loadBox rfl pt_3 (.tail _ (.tail _ (.head _))) rfl) ?_
        refine Lt.ofWL.step rfl rfl rfl (OpV.call (evs.cons rfl (evs.cons rfl (evs.cons rfl (evs.nil)))) ca_88 (fun w hs => w_spec_l01In e6_11)) ?_
        refine Lt.ofWL.step rfl rfl rfl (OpV.not rfl) ?_
        refine hkz5 _ ?_ ?_
        exact rfl
        repeat (first | exact Sub.refl _ | refine Sub.skip rfl ?_)
      case az5 => exact rfl
      case bz5 => exact rfl
      case cz5 => exact rfl
      case dz5 => exact rfl
      refine WL.nil ?_
      refine En.next ?_
      refine WC.cond rfl ?_ ?_
      ·
        intro hc_3
        replace h := ifO_t hc_3 h
        refine WC.seq ?_
        refine WC.region ?_
        refine Lt.ofWL.step rfl rfl rfl (OpV.assign rfl) ?_
        refine WL.nil ?_
        refine En.next ?_
        refine WC.ret ?_
        refine En.then_ret ?_
        refine En.ret1 rfl (Res.tmp rfl) ?_
        obtain rfl := Option.some.inj h
        intro w' hs
        exact ⟨rfl, hs.below⟩
      ·
        intro hc_3
        replace h := ifO_f hc_3 h
        refine WC.skip ?_
        refine En.next ?_
        refine WC.seq ?_
        refine WC.region ?_
        refine Lt.ofWL.step rfl rfl rfl (OpV.fieldAddr rfl fo_57_8) ?_
        refine Lt.ofWL.step rfl rfl rfl (OpV.loadBox rfl pt_3 (.tail _ (.tail _ (.head _))) rfl) ?_
        refine Lt.ofWL.step rfl rfl rfl (OpV.eql rfl rfl) ?_
        refine Lt.ofWL.step rfl rfl rfl (OpV.move rfl) ?_
        refine Lt.ofWL.and 57 61 60 (p := ?pz6) (rest := ?qz6) (B := ?Bz6) rfl ?Tz6 ?Fz6 ?az6 ?bz6 ?cz6 ?dz6 ?ez6
        case Tz6 =>
          intro hcz6 hkz6
          refine Lt.ofWL.step rfl rfl rfl (OpV.fieldAddr rfl fo_57_9) ?_
          refine Lt.ofWL.step rfl rfl rfl (OpV.loadBox rfl pt_3 (.tail _ (.tail _ (.head _))) rfl) ?_
          refine Lt.ofWL.step rfl rfl rfl (OpV.eql rfl rfl) ?_
          refine hkz6 _ ?_ ?_
          exact rfl
          repeat (first | exact Sub.refl _ | refine Sub.skip rfl ?_)
        case Fz6 =>
          intro hcz6 hkz6
          refine Lt.ofWL.skip rfl rfl rfl ?_
          refine Lt.ofWL.skip rfl rfl rfl ?_
          refine Lt.ofWL.skip rfl rfl rfl ?_
          refine hkz6 _ ?_
          repeat (first | exact Sub.refl _ | refine Sub.skip rfl ?_)
        case az6 => exact rfl
        case bz6 => exact rfl
        case cz6 => exact rfl
        case dz6 => exact rfl
        refine Lt.ofWL.step rfl rfl rfl (OpV.move rfl) ?_
        refine Lt.ofWL.and 62 66 65 (p := ?pz7) (rest := ?qz7) (B := ?Bz7) rfl ?Tz7 ?Fz7 ?az7 ?bz7 ?cz7 ?dz7 ?ez7
        case Tz7 =>
          intro hcz7 hkz7
          refine Lt.ofWL.step rfl rfl rfl (OpV.fieldAddr rfl fo_57_10) ?_
          refine Lt.ofWL.step rfl rfl rfl (OpV.loadBox rfl pt_3 (.tail _ (.tail _ (.head _))) rfl) ?_
          refine Lt.ofWL.step rfl rfl rfl (OpV.eql rfl rfl) ?_
          refine hkz7 _ ?_ ?_
          exact rfl
          repeat (first | exact Sub.refl _ | refine Sub.skip rfl ?_)
        case Fz7 =>
          intro hcz7 hkz7
          refine Lt.ofWL.skip rfl rfl rfl ?_
          refine Lt.ofWL.skip rfl rfl rfl ?_
          refine Lt.ofWL.skip rfl rfl rfl ?_
          refine hkz7 _ ?_
          repeat (first | exact Sub.refl _ | refine Sub.skip rfl ?_)
        case az7 => exact rfl
        case bz7 => exact rfl
        case cz7 => exact rfl
        case dz7 => exact rfl
        refine Lt.ofWL.step rfl rfl rfl (OpV.move rfl) ?_
        refine Lt.ofWL.and 67 71 70 (p := ?pz8) (rest := ?qz8) (B := ?Bz8) rfl ?Tz8 ?Fz8 ?az8 ?bz8 ?cz8 ?dz8 ?ez8
        case Tz8 =>
          intro hcz8 hkz8
          refine Lt.ofWL.step rfl rfl rfl (OpV.fieldAddr rfl fo_57_7) ?_
          refine Lt.ofWL.step rfl rfl rfl (OpV.loadBox rfl pt_3 (.tail _ (.tail _ (.head _))) rfl) ?_
          refine Lt.ofWL.step rfl rfl rfl (OpV.eql rfl rfl) ?_
          refine hkz8 _ ?_ ?_
          exact rfl
          repeat (first | exact Sub.refl _ | refine Sub.skip rfl ?_)
        case Fz8 =>
          intro hcz8 hkz8
          refine Lt.ofWL.skip rfl rfl rfl ?_
          refine Lt.ofWL.skip rfl rfl rfl ?_
          refine Lt.ofWL.skip rfl rfl rfl ?_
          refine hkz8 _ ?_
          repeat (first | exact Sub.refl _ | refine Sub.skip rfl ?_)
        case az8 => exact rfl
        case bz8 => exact rfl
        case cz8 => exact rfl
        case dz8 => exact rfl
        refine Lt.ofWL.step rfl rfl rfl (OpV.assign rfl) ?_
        refine WL.nil ?_
        refine En.next ?_
        refine WC.seq ?_
        refine WC.seq ?_
        refine WC.region ?_
        refine Lt.ofWL.step rfl rfl rfl (OpV.move rfl) ?_
        refine Lt.ofWL.step rfl rfl rfl (OpV.eql rfl rfl) ?_
        refine WL.nil ?_
        refine En.next ?_
        refine WC.cond rfl ?_ ?_
        ·
          intro hc_4
          replace h := ifO_t hc_4 h
          refine WC.seq ?_
          refine WC.region ?_
          refine Lt.ofWL.step rfl rfl rfl (OpV.move rfl) ?_
          refine Lt.ofWL.step rfl rfl rfl (OpV.move rfl) ?_
          refine Lt.ofWL.and 75 79 78 (p := ?pz9) (rest := ?qz9) (B := ?Bz9) rfl ?Tz9 ?Fz9 ?az9 ?bz9 ?cz9 ?dz9 ?ez9
          case Tz9 =>
            intro hcz9 hkz9
            refine Lt.ofWL.step rfl rfl rfl (OpV.fieldAddr rfl fo_57_3) ?_
            refine Lt.ofWL.step rfl rfl rfl (OpV.loadBox rfl pt_3 (.tail _ (.tail _ (.head _))) rfl) ?_
            refine Lt.ofWL.step rfl rfl rfl (OpV.leq rfl rfl) ?_
            refine hkz9 _ ?_ ?_
            exact rfl
            repeat (first | exact Sub.refl _ | refine Sub.skip rfl ?_)
          case Fz9 =>
            intro hcz9 hkz9
            refine Lt.ofWL.skip rfl rfl rfl ?_
            refine Lt.ofWL.skip rfl rfl rfl ?_
            refine Lt.ofWL.skip rfl rfl rfl ?_
            refine hkz9 _ ?_
            repeat (first | exact Sub.refl _ | refine Sub.skip rfl ?_)
          case az9 => exact rfl
          case bz9 => exact rfl
          case cz9 => exact rfl
          case dz9 => exact rfl
          refine Lt.ofWL.step rfl rfl rfl (OpV.move rfl) ?_
          refine Lt.ofWL.and 80 84 83 (p := ?pz10) (rest := ?qz10) (B := ?Bz10) rfl ?Tz10 ?Fz10 ?az10 ?bz10 ?cz10 ?dz10 ?ez10
          case Tz10 =>
            intro hcz10 hkz10
            refine Lt.ofWL.step rfl rfl rfl (OpV.fieldAddr rfl fo_57_4) ?_
            refine Lt.ofWL.step rfl rfl rfl (OpV.loadBox rfl pt_3 (.tail _ (.tail _ (.head _))) rfl) ?_
            refine Lt.ofWL.step rfl rfl rfl (OpV.leq rfl rfl) ?_
            refine hkz10 _ ?_ ?_
            exact rfl
            repeat (first | exact Sub.refl _ | refine Sub.skip rfl ?_)
          case Fz10 =>
            intro hcz10 hkz10
            refine Lt.ofWL.skip rfl rfl rfl ?_
            refine Lt.ofWL.skip rfl rfl rfl ?_
            refine Lt.ofWL.skip rfl rfl rfl ?_
            refine hkz10 _ ?_
            repeat (first | exact Sub.refl _ | refine Sub.skip rfl ?_)
          case az10 => exact rfl
          case bz10 => exact rfl
          case cz10 => exact rfl
          case dz10 => exact rfl
          refine Lt.ofWL.step rfl rfl rfl (OpV.assign rfl) ?_
          refine WL.nil ?_
          refine En.next ?_
          refine WC.ret ?_
          refine En.then_ret ?_
          refine En.ret1 rfl (Res.tmp rfl) ?_
          obtain rfl := Option.some.inj h
          intro w' hs
          exact ⟨rfl, hs.below⟩
        ·
          intro hc_4
          replace h := ifO_f hc_4 h
          refine WC.skip ?_
          refine En.next ?_
          refine WC.seq ?_
          refine WC.seq ?_
          refine WC.region ?_
          refine Lt.ofWL.step rfl rfl rfl (OpV.move rfl) ?_
          refine Lt.ofWL.step rfl rfl rfl (OpV.neq rfl rfl) ?_
          refine WL.nil ?_
          refine En.next ?_
          refine WC.cond rfl ?_ ?_
          ·
            intro hc_5
            replace h := ifO_t hc_5 h
            refine WC.seq ?_
            refine WC.region ?_
            refine Lt.ofWL.step rfl rfl rfl (OpV.assign rfl) ?_
            refine WL.nil ?_
            refine En.next ?_
            refine WC.ret ?_
            refine En.then_ret ?_
            refine En.ret1 rfl (Res.tmp rfl) ?_
            obtain rfl := Option.some.inj h
            intro w' hs
            exact ⟨rfl, hs.below⟩
          ·
            intro hc_5
            replace h := ifO_f hc_5 h
            refine WC.skip ?_
            refine En.next ?_
            refine WC.seq ?_
            refine WC.seq ?_
            refine WC.region ?_
            refine Lt.ofWL.step rfl rfl rfl (OpV.assign rfl) ?_
            refine WL.nil ?_
            refine En.next ?_
            refine WC.block ?_
            obtain ⟨zy0, ezy0, h⟩ := bnd h
            refine WC.cut (X := (Unit) × (Unit)) (.exit 0) (fun x => zy0 = .inl x.1) (fun x => match x with | ((), ()) => [(2, .int .i64 a_p2), (3, .int .i64 a_p3), (5, .pointer (some ⟨b0_0, 0, .none⟩)), (11, .bool ((((decide (a_p1.Orient = 0)) && (decide (a_p1.ToW = 0))) && (decide (a_p1.ToH = 0))) && (decide (a_p1.Alpha = 255))))]) (fun x => match x with | ((), ()) => [Chunk.box b0_0 57 [.bool a_p1.On, .int .i64 a_p1.X, .int .i64 a_p1.Y, .int .i64 a_p1.W, .int .i64 a_p1.H, .int .i64 a_p1.Layout, .slice q1_0 a_p1.Words.length k1_0, .int .i64 a_p1.Alpha, .int .i64 a_p1.Orient, .int .i64 a_p1.ToW, .int .i64 a_p1.ToH]]) ?_ ?_
            ·
              rintro ⟨⟨⟩, ⟨⟩⟩ hx
              replace hx : .inl () = zy0 := hx.symm
              subst hx
              replace h := fork_l h
              show En _ _ _ _ [(2, .int .i64 a_p2), (3, .int .i64 a_p3), (5, .pointer (some ⟨b0_0, 0, .none⟩)), (11, .bool ((((decide (a_p1.Orient = 0)) && (decide (a_p1.ToW = 0))) && (decide (a_p1.ToH = 0))) && (decide (a_p1.Alpha = 255))))] [Chunk.box b0_0 57 [.bool a_p1.On, .int .i64 a_p1.X, .int .i64 a_p1.Y, .int .i64 a_p1.W, .int .i64 a_p1.H, .int .i64 a_p1.Layout, .slice q1_0 a_p1.Words.length k1_0, .int .i64 a_p1.Alpha, .int .i64 a_p1.Orient, .int .i64 a_p1.ToW, .int .i64 a_p1.ToH]]
              refine En.block_exit ?_
              refine En.next ?_
              refine WC.seq ?_
              refine WC.region ?_
              refine Lt.ofWL.step rfl rfl rfl (OpV.move rfl) ?_
              refine Lt.ofWL.step rfl rfl rfl (OpV.move rfl) ?_
              refine Lt.ofWL.and 102 106 105 (p := ?pz11) (rest := ?qz11) (B := ?Bz11) rfl ?Tz11 ?Fz11 ?az11 ?bz11 ?cz11 ?dz11 ?ez11
              case Tz11 =>
                intro hcz11 hkz11
                refine Lt.ofWL.step rfl rfl rfl (OpV.fieldAddr rfl fo_57_1) ?_
                refine Lt.ofWL.step rfl rfl rfl (OpV.loadBox rfl pt_3 (.head _) rfl) ?_
                refine Lt.ofWL.step rfl rfl rfl (OpV.eql rfl rfl) ?_
                refine hkz11 _ ?_ ?_
                exact rfl
                repeat (first | exact Sub.refl _ | refine Sub.skip rfl ?_)
              case Fz11 =>
                intro hcz11 hkz11
                refine Lt.ofWL.skip rfl rfl rfl ?_
                refine Lt.ofWL.skip rfl rfl rfl ?_
                refine Lt.ofWL.skip rfl rfl rfl ?_
                refine hkz11 _ ?_
                repeat (first | exact Sub.refl _ | refine Sub.skip rfl ?_)
              case az11 => exact rfl
              case bz11 => exact rfl
              case cz11 => exact rfl
              case dz11 => exact rfl
              refine Lt.ofWL.step rfl rfl rfl (OpV.move rfl) ?_
              refine Lt.ofWL.and 107 111 110 (p := ?pz12) (rest := ?qz12) (B := ?Bz12) rfl ?Tz12 ?Fz12 ?az12 ?bz12 ?cz12 ?dz12 ?ez12
              case Tz12 =>
                intro hcz12 hkz12
                refine Lt.ofWL.step rfl rfl rfl (OpV.fieldAddr rfl fo_57_2) ?_
                refine Lt.ofWL.step rfl rfl rfl (OpV.loadBox rfl pt_3 (.head _) rfl) ?_
                refine Lt.ofWL.step rfl rfl rfl (OpV.eql rfl rfl) ?_
                refine hkz12 _ ?_ ?_
                exact rfl
                repeat (first | exact Sub.refl _ | refine Sub.skip rfl ?_)
              case Fz12 =>
                intro hcz12 hkz12
                refine Lt.ofWL.skip rfl rfl rfl ?_
                refine Lt.ofWL.skip rfl rfl rfl ?_
                refine Lt.ofWL.skip rfl rfl rfl ?_
                refine hkz12 _ ?_
                repeat (first | exact Sub.refl _ | refine Sub.skip rfl ?_)
              case az12 => exact rfl
              case bz12 => exact rfl
              case cz12 => exact rfl
              case dz12 => exact rfl
              refine Lt.ofWL.step rfl rfl rfl (OpV.move rfl) ?_
              refine Lt.ofWL.and 112 117 116 (p := ?pz13) (rest := ?qz13) (B := ?Bz13) rfl ?Tz13 ?Fz13 ?az13 ?bz13 ?cz13 ?dz13 ?ez13
              case Tz13 =>
                intro hcz13 hkz13
                refine Lt.ofWL.step rfl rfl rfl (OpV.fieldAddr rfl fo_57_3) ?_
                refine Lt.ofWL.step rfl rfl rfl (OpV.loadBox rfl pt_3 (.head _) rfl) ?_
                refine Lt.ofWL.step rfl rfl rfl (OpV.move rfl) ?_
                refine Lt.ofWL.step rfl rfl rfl (OpV.eql rfl rfl) ?_
                refine hkz13 _ ?_ ?_
                exact rfl
                repeat (first | exact Sub.refl _ | refine Sub.skip rfl ?_)
              case Fz13 =>
                intro hcz13 hkz13
                refine Lt.ofWL.skip rfl rfl rfl ?_
                refine Lt.ofWL.skip rfl rfl rfl ?_
                refine Lt.ofWL.skip rfl rfl rfl ?_
                refine Lt.ofWL.skip rfl rfl rfl ?_
                refine hkz13 _ ?_
                repeat (first | exact Sub.refl _ | refine Sub.skip rfl ?_)
              case az13 => exact rfl
              case bz13 => exact rfl
              case cz13 => exact rfl
              case dz13 => exact rfl
              refine Lt.ofWL.step rfl rfl rfl (OpV.move rfl) ?_
              refine Lt.ofWL.and 118 123 122 (p := ?pz14) (rest := ?qz14) (B := ?Bz14) rfl ?Tz14 ?Fz14 ?az14 ?bz14 ?cz14 ?dz14 ?ez14
              case Tz14 =>
                intro hcz14 hkz14
                refine Lt.ofWL.step rfl rfl rfl (OpV.fieldAddr rfl fo_57_4) ?_
                refine Lt.ofWL.step rfl rfl rfl (OpV.loadBox rfl pt_3 (.head _) rfl) ?_
                refine Lt.ofWL.step rfl rfl rfl (OpV.move rfl) ?_
                refine Lt.ofWL.step rfl rfl rfl (OpV.eql rfl rfl) ?_
                refine hkz14 _ ?_ ?_
                exact rfl
                repeat (first | exact Sub.refl _ | refine Sub.skip rfl ?_)
              case Fz14 =>
                intro hcz14 hkz14
                refine Lt.ofWL.skip rfl rfl rfl ?_
                refine Lt.ofWL.skip rfl rfl rfl ?_
                refine Lt.ofWL.skip rfl rfl rfl ?_
                refine Lt.ofWL.skip rfl rfl rfl ?_
                refine hkz14 _ ?_
                repeat (first | exact Sub.refl _ | refine Sub.skip rfl ?_)
              case az14 => exact rfl
              case bz14 => exact rfl
              case cz14 => exact rfl
              case dz14 => exact rfl
              refine Lt.ofWL.step rfl rfl rfl (OpV.assign rfl) ?_
              refine WL.nil ?_
              refine En.next ?_
              refine WC.ret ?_
              refine En.ret1 rfl (Res.tmp rfl) ?_
              obtain rfl := Option.some.inj h
              intro w' hs
              exact ⟨rfl, hs.below⟩
            ·
              intro zK0_0
              refine WC.loopP (G := Unit) (fun s g => match s, g with | v_0, () => [(2, .int .i64 a_p2), (3, .int .i64 a_p3), (5, .pointer (some ⟨b0_0, 0, .none⟩)), (9, .pointer (some ⟨b5_5, 0, .none⟩)), (11, .bool ((((decide (a_p1.Orient = 0)) && (decide (a_p1.ToW = 0))) && (decide (a_p1.ToH = 0))) && (decide (a_p1.Alpha = 255)))), (12, .int .i64 v_0)]) (fun s g => match s, g with | v_0, () => [Chunk.box b0_0 57 [.bool a_p1.On, .int .i64 a_p1.X, .int .i64 a_p1.Y, .int .i64 a_p1.W, .int .i64 a_p1.H, .int .i64 a_p1.Layout, .slice q1_0 a_p1.Words.length k1_0, .int .i64 a_p1.Alpha, .int .i64 a_p1.Orient, .int .i64 a_p1.ToW, .int .i64 a_p1.ToH], Chunk.box b5_5 36 [.int .i64 x5_1a.W, .int .i64 x5_1a.H, .slice a5_100 n5_100 c5_100], Chunk.own tInt f5_100 a5_100 n5_100 c5_100 x5_1a.Data]) 0 () ezy0 (by exact Sub.cons rfl (Sub.cons rfl (Sub.cons rfl (Sub.cons rfl (Sub.cons rfl (Sub.cons rfl (Sub.nil _))))))) (by exact (fun _ h => (((h).perm (List.perm_middle (l₁ := [_]))).perm (List.perm_middle (l₁ := [_]))).perm (List.perm_middle (l₁ := [_, _])))) ?_
              rintro zm0 v_0 ⟨⟩ zo0 zf0 zb0 ze0
              have zh0 : spec_PlaneOk_L0 x5_1a v_0 = some zo0 := zf0
              unfold spec_PlaneOk_L0 at zh0
              show WC _ _ _ _ _ [(2, .int .i64 a_p2), (3, .int .i64 a_p3), (5, .pointer (some ⟨b0_0, 0, .none⟩)), (9, .pointer (some ⟨b5_5, 0, .none⟩)), (11, .bool ((((decide (a_p1.Orient = 0)) && (decide (a_p1.ToW = 0))) && (decide (a_p1.ToH = 0))) && (decide (a_p1.Alpha = 255)))), (12, .int .i64 v_0)] [Chunk.box b0_0 57 [.bool a_p1.On, .int .i64 a_p1.X, .int .i64 a_p1.Y, .int .i64 a_p1.W, .int .i64 a_p1.H, .int .i64 a_p1.Layout, .slice q1_0 a_p1.Words.length k1_0, .int .i64 a_p1.Alpha, .int .i64 a_p1.Orient, .int .i64 a_p1.ToW, .int .i64 a_p1.ToH], Chunk.box b5_5 36 [.int .i64 x5_1a.W, .int .i64 x5_1a.H, .slice a5_100 n5_100 c5_100], Chunk.own tInt f5_100 a5_100 n5_100 c5_100 x5_1a.Data]
              refine WC.seq ?_
              refine WC.seq ?_
              refine WC.region ?_
              refine Lt.ofWL.step rfl rfl rfl (OpV.move rfl) ?_
              refine Lt.ofWL.step rfl rfl rfl (OpV.fieldAddr rfl fo_36_2) ?_
              refine Lt.ofWL.step rfl rfl rfl (OpV.loadBox rfl pt_32 (.tail _ (.head _)) rfl) ?_
              refine Lt.ofWL.step rfl rfl rfl (OpV.inhF fun hin => OpV.lenO (xs := x5_1a.Data) rfl si_32 rfl (ownLen hin (.tail _ (.tail _ (.head _))))) ?_
              refine Lt.ofWL.step rfl rfl rfl (OpV.lss rfl rfl) ?_
              refine WL.nil ?_
              refine En.next ?_
              refine WC.cond rfl ?_ ?_
              ·
                intro hc_6
                replace zh0 := ifO_t hc_6 zh0
                refine WC.skip ?_
                refine En.next ?_
                refine WC.seq ?_
                refine WC.block ?_
                refine WC.seq ?_
                refine WC.inh fun hin16 => ?_
                obtain ⟨x16_3, e16_3, zh0⟩ := bnd zh0
                obtain ⟨g16_3, ha16_3⟩ := ownAddr hin16 (.tail _ (.tail _ (.head _))) e16_3
                have hn16_3 := ownLen hin16 (.tail _ (.tail _ (.head _)))
                obtain ⟨x16_5, e16_5, zh0⟩ := bnd zh0
                refine WC.region ?_
                refine Lt.ofWL.step rfl rfl rfl (OpV.fieldAddr rfl fo_36_2) ?_
                refine Lt.ofWL.step rfl rfl rfl (OpV.loadBox rfl pt_32 (.tail _ (.head _)) rfl) ?_
                refine Lt.ofWL.step rfl rfl rfl (OpV.move rfl) ?_
                refine Lt.ofWL.step rfl rfl rfl (OpV.idxA rfl rfl se_32 ha16_3 ⟨(idx_some e16_3).1, by rw [hn16_3]; exact (idx_some e16_3).2.1⟩) ?_
                refine Lt.ofWL.step rfl rfl rfl (OpV.load1 rfl pt_3 (fun w hs => Rd.cell1 tInt_flat (Ow.rd (hs.mem (.tail _ (.tail _ (.head _))))) e16_3 ha16_3 rfl)) ?_
                refine Lt.ofWL.step rfl rfl rfl (OpV.call (evs.cons rfl (evs.nil)) ca_110 (fun w hs => w_spec_l10Opaque e16_5)) ?_
                refine Lt.ofWL.step rfl rfl rfl (OpV.not rfl) ?_
                refine WL.nil ?_
                refine En.next ?_
                refine WC.cond rfl ?_ ?_
                ·
                  intro hc_7
                  replace zh0 := ifO_t hc_7 zh0
                  refine WC.seq ?_
                  refine WC.region ?_
                  refine Lt.ofWL.step rfl rfl rfl (OpV.assign rfl) ?_
                  refine WL.nil ?_
                  refine En.next ?_
                  refine WC.ret ?_
                  refine En.block_ret ?_
                  refine En.then_ret ?_
                  refine En.then_ret ?_
                  refine En.block_ret ?_
                  refine En.then_ret ?_
                  refine En.ret1 rfl (Res.tmp rfl) ?_
                  have hx := exitP ze0 zh0
                  subst hx
                  replace h := fork_r h
                  obtain rfl := Option.some.inj h
                  intro w' hs
                  exact ⟨rfl, hs.below⟩
                ·
                  intro hc_7
                  replace zh0 := ifO_f hc_7 zh0
                  refine WC.skip ?_
                  refine En.block_norm ?_
                  refine En.next ?_
                  refine WC.region ?_
                  refine Lt.ofWL.step rfl rfl rfl (OpV.move rfl) ?_
                  refine Lt.ofWL.step rfl rfl rfl (OpV.addR rfl rfl) ?_
                  refine Lt.ofWL.step rfl rfl rfl (OpV.assign rfl) ?_
                  refine WL.nil ?_
                  exact En.backP zb0 zh0 () (Sub.cons rfl (Sub.cons rfl (Sub.cons rfl (Sub.cons rfl (Sub.cons rfl (Sub.cons rfl (Sub.nil _))))))) (fun _ h => h)
              ·
                intro hc_6
                replace zh0 := ifO_f hc_6 zh0
                refine WC.exit ?_
                refine En.then_exit ?_
                refine En.then_exit ?_
                have hx := exitP ze0 zh0
                exact En.wk _ _ (Sub.cons rfl (Sub.cons rfl (Sub.cons rfl (Sub.cons rfl (Sub.nil _))))) (fun _ h => (h).sub (.cons_cons _ (.cons _ (.cons _ (.slnil))))) (zK0_0 ((), ()) hx.symm)

theorem w_impl_samePlane {a_p0 : PlaneT} {a_p1 : PlaneT} {r : Bool} {q0_0 : Option Addr} {n0_0 k0_0 : Nat} {q1_0 : Option Addr} {n1_0 k1_0 : Nat} (h : impl_samePlane a_p0 a_p1 = some r) {w : World} (r0_0 : Rd tInt w q0_0 n0_0 k0_0 a_p0.Words) (r1_0 : Rd tInt w q1_0 n1_0 k1_0 a_p1.Words)   :
    Calls Try.prog 93 #[.agg #[.bool a_p0.On, .int .i64 a_p0.X, .int .i64 a_p0.Y, .int .i64 a_p0.W, .int .i64 a_p0.H, .int .i64 a_p0.Layout, .slice q0_0 n0_0 k0_0, .int .i64 a_p0.Alpha, .int .i64 a_p0.Orient, .int .i64 a_p0.ToW, .int .i64 a_p0.ToH], .agg #[.bool a_p1.On, .int .i64 a_p1.X, .int .i64 a_p1.Y, .int .i64 a_p1.W, .int .i64 a_p1.H, .int .i64 a_p1.Layout, .slice q1_0 n1_0 k1_0, .int .i64 a_p1.Alpha, .int .i64 a_p1.Orient, .int .i64 a_p1.ToW, .int .i64 a_p1.ToH]] w (fun en w' => en = .returned (.bool r) ∧ Ext w w') := by
  obtain rfl := r0_0.1
  obtain rfl := r1_0.1
  unfold impl_samePlane at h
  refine enter (vs := [_, _]) Try.func93 rfl rfl rfl rfl ?_
  refine WC.seq ?_
  refine WC.region ?_
  refine WL.heavy rfl rfl rfl (OpH.box rfl rfl ?_)
  intro b0_0
  refine WL.heavy rfl rfl rfl (OpH.box rfl rfl ?_)
  intro b0_1
  refine Lt.ofWL.step rfl rfl rfl (OpV.assign rfl) ?_
  refine WL.nil ?_
  refine En.next ?_
  refine WC.seq ?_
  obtain ⟨q1_74, e1_74, h⟩ := bnd h
  refine WC.region ?_
  refine Lt.ofWL.step rfl rfl rfl (OpV.fieldAddr rfl fo_57_0) ?_
  refine Lt.ofWL.step rfl rfl rfl (OpV.loadBox rfl pt_4 (.tail _ (.head _)) rfl) ?_
  refine Lt.ofWL.step rfl rfl rfl (OpV.fieldAddr rfl fo_57_0) ?_
  refine Lt.ofWL.step rfl rfl rfl (OpV.loadBox rfl pt_4 (.head _) rfl) ?_
  refine Lt.ofWL.step rfl rfl rfl (OpV.beql rfl rfl ub_4) ?_
  refine Lt.ofWL.step rfl rfl rfl (OpV.move rfl) ?_
  refine Lt.ofWL.and 10 16 15 (p := ?pz1) (rest := ?qz1) (B := ?Bz1) rfl ?Tz1 ?Fz1 ?az1 ?bz1 ?cz1 ?dz1 ?ez1
  case Tz1 =>
    intro hcz1 hkz1
    refine Lt.ofWL.step rfl rfl rfl (OpV.fieldAddr rfl fo_57_1) ?_
    refine Lt.ofWL.step rfl rfl rfl (OpV.loadBox rfl pt_3 (.tail _ (.head _)) rfl) ?_
    refine Lt.ofWL.step rfl rfl rfl (OpV.fieldAddr rfl fo_57_1) ?_
    refine Lt.ofWL.step rfl rfl rfl (OpV.loadBox rfl pt_3 (.head _) rfl) ?_
    refine Lt.ofWL.step rfl rfl rfl (OpV.eql rfl rfl) ?_
    refine hkz1 _ ?_ ?_
    exact rfl
    repeat (first | exact Sub.refl _ | refine Sub.skip rfl ?_)
  case Fz1 =>
    intro hcz1 hkz1
    refine Lt.ofWL.skip rfl rfl rfl ?_
    refine Lt.ofWL.skip rfl rfl rfl ?_
    refine Lt.ofWL.skip rfl rfl rfl ?_
    refine Lt.ofWL.skip rfl rfl rfl ?_
    refine Lt.ofWL.skip rfl rfl rfl ?_
    refine hkz1 _ ?_
    repeat (first | exact Sub.refl _ | refine Sub.skip rfl ?_)
  case az1 => exact rfl
  case bz1 => exact rfl
  case cz1 => exact rfl
  case dz1 => exact rfl
  refine Lt.ofWL.step rfl rfl rfl (OpV.move rfl) ?_
  refine Lt.ofWL.and 17 23 22 (p := ?pz2) (rest := ?qz2) (B := ?Bz2) rfl ?Tz2 ?Fz2 ?az2 ?bz2 ?cz2 ?dz2 ?ez2
  case Tz2 =>
    intro hcz2 hkz2
    refine Lt.ofWL.step rfl rfl rfl (OpV.fieldAddr rfl fo_57_2) ?_
    refine Lt.ofWL.step rfl rfl rfl (OpV.loadBox rfl pt_3 (.tail _ (.head _)) rfl) ?_
    refine Lt.ofWL.step rfl rfl rfl (OpV.fieldAddr rfl fo_57_2) ?_
    refine Lt.ofWL.step rfl rfl rfl (OpV.loadBox rfl pt_3 (.head _) rfl) ?_
    refine Lt.ofWL.step rfl rfl rfl (OpV.eql rfl rfl) ?_
    refine hkz2 _ ?_ ?_
    exact rfl
    repeat (first | exact Sub.refl _ | refine Sub.skip rfl ?_)
  case Fz2 =>
    intro hcz2 hkz2
    refine Lt.ofWL.skip rfl rfl rfl ?_
    refine Lt.ofWL.skip rfl rfl rfl ?_
    refine Lt.ofWL.skip rfl rfl rfl ?_
    refine Lt.ofWL.skip rfl rfl rfl ?_
    refine Lt.ofWL.skip rfl rfl rfl ?_
    refine hkz2 _ ?_
    repeat (first | exact Sub.refl _ | refine Sub.skip rfl ?_)
  case az2 => exact rfl
  case bz2 => exact rfl
  case cz2 => exact rfl
  case dz2 => exact rfl
  refine Lt.ofWL.step rfl rfl rfl (OpV.move rfl) ?_
  refine Lt.ofWL.and 24 30 29 (p := ?pz3) (rest := ?qz3) (B := ?Bz3) rfl ?Tz3 ?Fz3 ?az3 ?bz3 ?cz3 ?dz3 ?ez3
  case Tz3 =>
    intro hcz3 hkz3
    refine Lt.ofWL.step rfl rfl rfl (OpV.fieldAddr rfl fo_57_3) ?_
    refine Lt.ofWL.step rfl rfl rfl (OpV.loadBox rfl pt_3 (.tail _ (.head _)) rfl) ?_
    refine Lt.ofWL.step rfl rfl rfl (OpV.fieldAddr rfl fo_57_3) ?_
    refine Lt.ofWL.step rfl rfl rfl (OpV.loadBox rfl pt_3 (.head _) rfl) ?_
    refine Lt.ofWL.step rfl rfl rfl (OpV.eql rfl rfl) ?_
    refine hkz3 _ ?_ ?_
    exact rfl
    repeat (first | exact Sub.refl _ | refine Sub.skip rfl ?_)
  case Fz3 =>
    intro hcz3 hkz3
    refine Lt.ofWL.skip rfl rfl rfl ?_
    refine Lt.ofWL.skip rfl rfl rfl ?_
    refine Lt.ofWL.skip rfl rfl rfl ?_
    refine Lt.ofWL.skip rfl rfl rfl ?_
    refine Lt.ofWL.skip rfl rfl rfl ?_
    refine hkz3 _ ?_
    repeat (first | exact Sub.refl _ | refine Sub.skip rfl ?_)
  case az3 => exact rfl
  case bz3 => exact rfl
  case cz3 => exact rfl
  case dz3 => exact rfl
  refine Lt.ofWL.step rfl rfl rfl (OpV.move rfl) ?_
  refine Lt.ofWL.and 31 37 36 (p := ?pz4) (rest := ?qz4) (B := ?Bz4) rfl ?Tz4 ?Fz4 ?az4 ?bz4 ?cz4 ?dz4 ?ez4
  case Tz4 =>
    intro hcz4 hkz4
    refine Lt.ofWL.step rfl rfl rfl (OpV.fieldAddr rfl fo_57_4) ?_
    refine Lt.ofWL.step rfl rfl rfl (OpV.loadBox rfl pt_3 (.tail _ (.head _)) rfl) ?_
    refine Lt.ofWL.step rfl rfl rfl (OpV.fieldAddr rfl fo_57_4) ?_
    refine Lt.ofWL.step rfl rfl rfl (OpV.loadBox rfl pt_3 (.head _) rfl) ?_
    refine Lt.ofWL.step rfl rfl rfl (OpV.eql rfl rfl) ?_
    refine hkz4 _ ?_ ?_
    exact rfl
    repeat (first | exact Sub.refl _ | refine Sub.skip rfl ?_)
  case Fz4 =>
    intro hcz4 hkz4
    refine Lt.ofWL.skip rfl rfl rfl ?_
    refine Lt.ofWL.skip rfl rfl rfl ?_
    refine Lt.ofWL.skip rfl rfl rfl ?_
    refine Lt.ofWL.skip rfl rfl rfl ?_
    refine Lt.ofWL.skip rfl rfl rfl ?_
    refine hkz4 _ ?_
    repeat (first | exact Sub.refl _ | refine Sub.skip rfl ?_)
  case az4 => exact rfl
  case bz4 => exact rfl
  case cz4 => exact rfl
  case dz4 => exact rfl
  refine Lt.ofWL.step rfl rfl rfl (OpV.move rfl) ?_
  refine Lt.ofWL.and 38 44 43 (p := ?pz5) (rest := ?qz5) (B := ?Bz5) rfl ?Tz5 ?Fz5 ?az5 ?bz5 ?cz5 ?dz5 ?ez5
  case Tz5 =>
    intro hcz5 hkz5
    refine Lt.ofWL.step rfl rfl rfl (OpV.fieldAddr rfl fo_57_5) ?_
    refine Lt.ofWL.step rfl rfl rfl (OpV.loadBox rfl pt_3 (.tail _ (.head _)) rfl) ?_
    refine Lt.ofWL.step rfl rfl rfl (OpV.fieldAddr rfl fo_57_5) ?_
    refine Lt.ofWL.step rfl rfl rfl (OpV.loadBox rfl pt_3 (.head _) rfl) ?_
    refine Lt.ofWL.step rfl rfl rfl (OpV.eql rfl rfl) ?_
    refine hkz5 _ ?_ ?_
    exact rfl
    repeat (first | exact Sub.refl _ | refine Sub.skip rfl ?_)
  case Fz5 =>
    intro hcz5 hkz5
    refine Lt.ofWL.skip rfl rfl rfl ?_
    refine Lt.ofWL.skip rfl rfl rfl ?_
    refine Lt.ofWL.skip rfl rfl rfl ?_
    refine Lt.ofWL.skip rfl rfl rfl ?_
    refine Lt.ofWL.skip rfl rfl rfl ?_
    refine hkz5 _ ?_
    repeat (first | exact Sub.refl _ | refine Sub.skip rfl ?_)
  case az5 => exact rfl
  case bz5 => exact rfl
  case cz5 => exact rfl
  case dz5 => exact rfl
  refine Lt.ofWL.step rfl rfl rfl (OpV.move rfl) ?_
  refine Lt.ofWL.and 45 51 50 (p := ?pz6) (rest := ?qz6) (B := ?Bz6) rfl ?Tz6 ?Fz6 ?az6 ?bz6 ?cz6 ?dz6 ?ez6
  case Tz6 =>
    intro hcz6 hkz6
    refine Lt.ofWL.step rfl rfl rfl (OpV.fieldAddr rfl fo_57_7) ?_
    refine Lt.ofWL.step rfl rfl rfl (OpV.loadBox rfl pt_3 (.tail _ (.head _)) rfl) ?_
    refine Lt.ofWL.step rfl rfl rfl (OpV.fieldAddr rfl fo_57_7) ?_
    refine Lt.ofWL.step rfl rfl rfl (OpV.loadBox rfl pt_3 (.head _) rfl) ?_
    refine Lt.ofWL.step rfl rfl rfl (OpV.eql rfl rfl) ?_
    refine hkz6 _ ?_ ?_
    exact rfl
    repeat (first | exact Sub.refl _ | refine Sub.skip rfl ?_)
  case Fz6 =>
    intro hcz6 hkz6
    refine Lt.ofWL.skip rfl rfl rfl ?_
    refine Lt.ofWL.skip rfl rfl rfl ?_
    refine Lt.ofWL.skip rfl rfl rfl ?_
    refine Lt.ofWL.skip rfl rfl rfl ?_
    refine Lt.ofWL.skip rfl rfl rfl ?_
    refine hkz6 _ ?_
    repeat (first | exact Sub.refl _ | refine Sub.skip rfl ?_)
  case az6 => exact rfl
  case bz6 => exact rfl
  case cz6 => exact rfl
  case dz6 => exact rfl
  refine Lt.ofWL.step rfl rfl rfl (OpV.move rfl) ?_
  refine Lt.ofWL.and 52 58 57 (p := ?pz7) (rest := ?qz7) (B := ?Bz7) rfl ?Tz7 ?Fz7 ?az7 ?bz7 ?cz7 ?dz7 ?ez7
  case Tz7 =>
    intro hcz7 hkz7
    refine Lt.ofWL.step rfl rfl rfl (OpV.fieldAddr rfl fo_57_8) ?_
    refine Lt.ofWL.step rfl rfl rfl (OpV.loadBox rfl pt_3 (.tail _ (.head _)) rfl) ?_
    refine Lt.ofWL.step rfl rfl rfl (OpV.fieldAddr rfl fo_57_8) ?_
    refine Lt.ofWL.step rfl rfl rfl (OpV.loadBox rfl pt_3 (.head _) rfl) ?_
    refine Lt.ofWL.step rfl rfl rfl (OpV.eql rfl rfl) ?_
    refine hkz7 _ ?_ ?_
    exact rfl
    repeat (first | exact Sub.refl _ | refine Sub.skip rfl ?_)
  case Fz7 =>
    intro hcz7 hkz7
    refine Lt.ofWL.skip rfl rfl rfl ?_
    refine Lt.ofWL.skip rfl rfl rfl ?_
    refine Lt.ofWL.skip rfl rfl rfl ?_
    refine Lt.ofWL.skip rfl rfl rfl ?_
    refine Lt.ofWL.skip rfl rfl rfl ?_
    refine hkz7 _ ?_
    repeat (first | exact Sub.refl _ | refine Sub.skip rfl ?_)
  case az7 => exact rfl
  case bz7 => exact rfl
  case cz7 => exact rfl
  case dz7 => exact rfl
  refine Lt.ofWL.step rfl rfl rfl (OpV.move rfl) ?_
  refine Lt.ofWL.and 59 65 64 (p := ?pz8) (rest := ?qz8) (B := ?Bz8) rfl ?Tz8 ?Fz8 ?az8 ?bz8 ?cz8 ?dz8 ?ez8
  case Tz8 =>
    intro hcz8 hkz8
    refine Lt.ofWL.step rfl rfl rfl (OpV.fieldAddr rfl fo_57_9) ?_
    refine Lt.ofWL.step rfl rfl rfl (OpV.loadBox rfl pt_3 (.tail _ (.head _)) rfl) ?_
    refine Lt.ofWL.step rfl rfl rfl (OpV.fieldAddr rfl fo_57_9) ?_
    refine Lt.ofWL.step rfl rfl rfl (OpV.loadBox rfl pt_3 (.head _) rfl) ?_
    refine Lt.ofWL.step rfl rfl rfl (OpV.eql rfl rfl) ?_
    refine hkz8 _ ?_ ?_
    exact rfl
    repeat (first | exact Sub.refl _ | refine Sub.skip rfl ?_)
  case Fz8 =>
    intro hcz8 hkz8
    refine Lt.ofWL.skip rfl rfl rfl ?_
    refine Lt.ofWL.skip rfl rfl rfl ?_
    refine Lt.ofWL.skip rfl rfl rfl ?_
    refine Lt.ofWL.skip rfl rfl rfl ?_
    refine Lt.ofWL.skip rfl rfl rfl ?_
    refine hkz8 _ ?_
    repeat (first | exact Sub.refl _ | refine Sub.skip rfl ?_)
  case az8 => exact rfl
  case bz8 => exact rfl
  case cz8 => exact rfl
  case dz8 => exact rfl
  refine Lt.ofWL.step rfl rfl rfl (OpV.move rfl) ?_
  refine Lt.ofWL.and 66 72 71 (p := ?pz9) (rest := ?qz9) (B := ?Bz9) rfl ?Tz9 ?Fz9 ?az9 ?bz9 ?cz9 ?dz9 ?ez9
  case Tz9 =>
    intro hcz9 hkz9
    refine Lt.ofWL.step rfl rfl rfl (OpV.fieldAddr rfl fo_57_10) ?_
    refine Lt.ofWL.step rfl rfl rfl (OpV.loadBox rfl pt_3 (.tail _ (.head _)) rfl) ?_
    refine Lt.ofWL.step rfl rfl rfl (OpV.fieldAddr rfl fo_57_10) ?_
    refine Lt.ofWL.step rfl rfl rfl (OpV.loadBox rfl pt_3 (.head _) rfl) ?_
    refine Lt.ofWL.step rfl rfl rfl (OpV.eql rfl rfl) ?_
    refine hkz9 _ ?_ ?_
    exact rfl
    repeat (first | exact Sub.refl _ | refine Sub.skip rfl ?_)
  case Fz9 =>
    intro hcz9 hkz9
    refine Lt.ofWL.skip rfl rfl rfl ?_
    refine Lt.ofWL.skip rfl rfl rfl ?_
    refine Lt.ofWL.skip rfl rfl rfl ?_
    refine Lt.ofWL.skip rfl rfl rfl ?_
    refine Lt.ofWL.skip rfl rfl rfl ?_
    refine hkz9 _ ?_
    repeat (first | exact Sub.refl _ | refine Sub.skip rfl ?_)
  case az9 => exact rfl
  case bz9 => exact rfl
  case cz9 => exact rfl
  case dz9 => exact rfl
  refine Lt.ofWL.step rfl rfl rfl (OpV.move rfl) ?_
  refine Lt.ofWL.andQ 73 79 78 (p := ?pz10) (rest := ?qz10) (B := q1_74) rfl (fun hz => andO_f e1_74 hz) ?Tz10 ?Fz10 ?az10 ?bz10 ?cz10 ?dz10 ?ez10
  case Tz10 =>
    intro hcz10 hkz10
    have hqz10 := andO_t e1_74 hcz10
    obtain ⟨x1_73, e1_73, hqz10⟩ := bnd hqz10
    obtain rfl := Option.some.inj hqz10
    refine Lt.ofWL.step rfl rfl rfl (OpV.fieldAddr rfl fo_57_6) ?_
    refine Lt.ofWL.step rfl rfl rfl (OpV.loadBox rfl pt_32 (.tail _ (.head _)) rfl) ?_
    refine Lt.ofWL.step rfl rfl rfl (OpV.fieldAddr rfl fo_57_6) ?_
    refine Lt.ofWL.step rfl rfl rfl (OpV.loadBox rfl pt_32 (.head _) rfl) ?_
    refine Lt.ofWL.step rfl rfl rfl (OpV.call (evs.cons rfl (evs.cons rfl (evs.nil))) ca_141 (fun w hs => w_slices_Equal_S_int_int e1_73 (r0_0.ext hs.below) (r1_0.ext hs.below))) ?_
    refine hkz10 _ ?_ ?_
    exact rfl
    repeat (first | exact Sub.refl _ | refine Sub.skip rfl ?_)
  case Fz10 =>
    intro hcz10 hkz10
    refine Lt.ofWL.skip rfl rfl rfl ?_
    refine Lt.ofWL.skip rfl rfl rfl ?_
    refine Lt.ofWL.skip rfl rfl rfl ?_
    refine Lt.ofWL.skip rfl rfl rfl ?_
    refine Lt.ofWL.skip rfl rfl rfl ?_
    refine hkz10 _ ?_
    repeat (first | exact Sub.refl _ | refine Sub.skip rfl ?_)
  case az10 => exact rfl
  case bz10 => exact rfl
  case cz10 => exact rfl
  case dz10 => exact rfl
  refine Lt.ofWL.step rfl rfl rfl (OpV.assign rfl) ?_
  refine WL.nil ?_
  refine En.next ?_
  refine WC.ret ?_
  refine En.ret1 rfl (Res.tmp rfl) ?_
  obtain rfl := Option.some.inj h
  intro w' hs
  exact ⟨rfl, hs.below⟩

theorem w_slices_IndexFunc_S_int_int {s_p0 : List Int} {f_p1 : Int → Option Bool} {r : Int} {q0_0 : Option Addr} {n0_0 k0_0 : Nat} {fv1 : Value} (h : slices_IndexFunc_S_int_int s_p0 f_p1 = some r) {w : World} (r0_0 : Rd tInt w q0_0 n0_0 k0_0 s_p0)  (hF1 : ∀ {y0 : Int} {r1 : Bool}  {w1 : World}, Ext w w1 → f_p1 y0 = some r1 → CallsV Try.prog fv1 [.int .i64 y0] w1 (fun en w2 => en = .returned (.bool r1) ∧ Ext w1 w2)) :
    Calls Try.prog 142 #[.slice q0_0 n0_0 k0_0, fv1] w (fun en w' => en = .returned (.int .i64 r) ∧ Ext w w') := by
  obtain rfl := r0_0.1
  unfold slices_IndexFunc_S_int_int at h
  refine enter (vs := [_, _]) Try.func142 rfl rfl rfl rfl ?_
  refine WC.seq ?_
  refine WC.region ?_
  refine Lt.ofWL.step rfl rfl rfl (OpV.assign rfl) ?_
  refine WL.nil ?_
  refine En.next ?_
  refine WC.seq ?_
  refine WC.seq ?_
  refine WC.region ?_
  refine Lt.ofWL.step rfl rfl rfl (OpV.move rfl) ?_
  refine Lt.ofWL.step rfl rfl rfl (OpV.len rfl si_32 rfl) ?_
  refine Lt.ofWL.step rfl rfl rfl (OpV.move rfl) ?_
  refine WL.nil ?_
  refine En.next ?_
  refine WC.block ?_
  obtain ⟨zy0, ezy0, h⟩ := bnd h
  refine WC.cut (X := (Unit) × (Unit)) (.exit 0) (fun x => zy0 = .inl x.1) (fun x => match x with | ((), ()) => []) (fun x => match x with | ((), ()) => []) ?_ ?_
  ·
    rintro ⟨⟨⟩, ⟨⟩⟩ hx
    replace hx : .inl () = zy0 := hx.symm
    subst hx
    replace h := fork_l h
    show En _ _ _ _ [] []
    refine En.block_exit ?_
    refine En.next ?_
    refine WC.seq ?_
    refine WC.region ?_
    refine Lt.ofWL.step rfl rfl rfl (OpV.assign rfl) ?_
    refine WL.nil ?_
    refine En.next ?_
    refine WC.ret ?_
    refine En.ret1 rfl (Res.tmp rfl) ?_
    obtain rfl := Option.some.inj h
    intro w' hs
    exact ⟨rfl, hs.below⟩
  ·
    intro zK0_0
    refine WC.loopP (G := Unit) (fun s g => match s, g with | v_0, () => [(0, .slice q0_0 s_p0.length k0_0), (1, fv1), (7, .int .i64 (s_p0.length : Int)), (8, .int .i64 v_0)]) (fun s g => match s, g with | v_0, () => []) 0 () ezy0 (by exact Sub.cons rfl (Sub.cons rfl (Sub.cons rfl (Sub.cons rfl (Sub.nil _))))) (by exact (fun _ h => h)) ?_
    rintro zm0 v_0 ⟨⟩ zo0 zf0 zb0 ze0
    have zh0 : slices_IndexFunc_S_int_int_L0 s_p0 f_p1 v_0 = some zo0 := zf0
    unfold slices_IndexFunc_S_int_int_L0 at zh0
    show WC _ _ _ _ _ [(0, .slice q0_0 s_p0.length k0_0), (1, fv1), (7, .int .i64 (s_p0.length : Int)), (8, .int .i64 v_0)] []
    refine WC.seq ?_
    refine WC.region ?_
    refine Lt.ofWL.step rfl rfl rfl (OpV.lss rfl rfl) ?_
    refine WL.nil ?_
    refine En.next ?_
    refine WC.seq ?_
    refine WC.cond rfl ?_ ?_
    ·
      intro hc_1
      replace zh0 := ifO_t hc_1 zh0
      refine WC.skip ?_
      refine En.next ?_
      refine WC.seq ?_
      refine WC.block ?_
      refine WC.seq ?_
      refine WC.region ?_
      refine Lt.ofWL.step rfl rfl rfl (OpV.move rfl) ?_
      refine Lt.ofWL.step rfl rfl rfl (OpV.assign rfl) ?_
      refine WL.nil ?_
      refine En.next ?_
      refine WC.seq ?_
      obtain ⟨x4_3, e4_3, zh0⟩ := bnd zh0
      obtain ⟨g4_3, o4_3, _, ha4_3, rfl, hd4_3⟩ := Rd.atIdx r0_0 e4_3
      replace hd4_3 : ∀ (j : Nat) v, ([.int .i64 x4_3] : List Value)[j]? = some v → w.cell? ⟨g4_3, o4_3 + v_0.toNat * 1 + j, .none⟩ = some v := hd4_3
      obtain ⟨x4_5, e4_5, zh0⟩ := bnd zh0
      refine WC.region ?_
      refine Lt.ofWL.step rfl rfl rfl (OpV.move rfl) ?_
      refine Lt.ofWL.step rfl rfl rfl (OpV.move rfl) ?_
      refine Lt.ofWL.step rfl rfl rfl (OpV.move rfl) ?_
      refine Lt.ofWL.step rfl rfl rfl (OpV.idxA rfl rfl se_32 ha4_3 ⟨(idx_some e4_3).1, (idx_some e4_3).2.1⟩) ?_
      refine Lt.ofWL.step rfl rfl rfl (OpV.load1 rfl pt_3 (fun w hs => hs.cell (hd4_3 0 _ rfl))) ?_
      refine Lt.ofWL.step rfl rfl rfl (OpV.callV rfl (evs.cons rfl (evs.nil)) (fun w hs => hF1 hs.below e4_5)) ?_
      refine WL.nil ?_
      refine En.next ?_
      refine WC.cond rfl ?_ ?_
      ·
        intro hc_2
        replace zh0 := ifO_t hc_2 zh0
        refine WC.seq ?_
        refine WC.region ?_
        refine Lt.ofWL.step rfl rfl rfl (OpV.move rfl) ?_
        refine Lt.ofWL.step rfl rfl rfl (OpV.assign rfl) ?_
        refine WL.nil ?_
        refine En.next ?_
        refine WC.ret ?_
        refine En.block_ret ?_
        refine En.then_ret ?_
        refine En.then_ret ?_
        refine En.block_ret ?_
        refine En.then_ret ?_
        refine En.ret1 rfl (Res.tmp rfl) ?_
        have hx := exitP ze0 zh0
        subst hx
        replace h := fork_r h
        obtain rfl := Option.some.inj h
        intro w' hs
        exact ⟨rfl, hs.below⟩
      ·
        intro hc_2
        replace zh0 := ifO_f hc_2 zh0
        refine WC.skip ?_
        refine En.block_norm ?_
        refine En.next ?_
        refine WC.region ?_
        refine Lt.ofWL.step rfl rfl rfl (OpV.addR rfl rfl) ?_
        refine Lt.ofWL.step rfl rfl rfl (OpV.move rfl) ?_
        refine WL.nil ?_
        exact En.backP zb0 zh0 () (Sub.cons rfl (Sub.cons rfl (Sub.cons rfl (Sub.cons rfl (Sub.nil _))))) (fun _ h => h)
    ·
      intro hc_1
      replace zh0 := ifO_f hc_1 zh0
      refine WC.exit ?_
      refine En.then_exit ?_
      refine En.then_exit ?_
      have hx := exitP ze0 zh0
      exact En.wk _ _ (Sub.nil _) (fun _ h => h) (zK0_0 ((), ()) hx.symm)

theorem w_slices_ContainsFunc_S_int_int {s_p0 : List Int} {f_p1 : Int → Option Bool} {r : Bool} {q0_0 : Option Addr} {n0_0 k0_0 : Nat} {fv1 : Value} (h : slices_ContainsFunc_S_int_int s_p0 f_p1 = some r) {w : World} (r0_0 : Rd tInt w q0_0 n0_0 k0_0 s_p0)  (hF1 : ∀ {y0 : Int} {r1 : Bool}  {w1 : World}, Ext w w1 → f_p1 y0 = some r1 → CallsV Try.prog fv1 [.int .i64 y0] w1 (fun en w2 => en = .returned (.bool r1) ∧ Ext w1 w2)) :
    Calls Try.prog 94 #[.slice q0_0 n0_0 k0_0, fv1] w (fun en w' => en = .returned (.bool r) ∧ Ext w w') := by
  obtain rfl := r0_0.1
  unfold slices_ContainsFunc_S_int_int at h
  refine enter (vs := [_, _]) Try.func94 rfl rfl rfl rfl ?_
  refine WC.seq ?_
  refine WC.region ?_
  refine Lt.ofWL.step rfl rfl rfl (OpV.assign rfl) ?_
  refine WL.nil ?_
  refine En.next ?_
  refine WC.seq ?_
  obtain ⟨x1_2, e1_2, h⟩ := bnd h
  refine WC.region ?_
  refine Lt.ofWL.step rfl rfl rfl (OpV.move rfl) ?_
  refine Lt.ofWL.step rfl rfl rfl (OpV.move rfl) ?_
  refine Lt.ofWL.step rfl rfl rfl (OpV.call (evs.cons rfl (evs.cons rfl (evs.nil))) ca_142 (fun w hs => w_slices_IndexFunc_S_int_int e1_2 (r0_0.ext hs.below) (fun hx he  => hF1 (Ext.trans hs.below hx) he ))) ?_
  refine Lt.ofWL.step rfl rfl rfl (OpV.geq rfl rfl) ?_
  refine Lt.ofWL.step rfl rfl rfl (OpV.assign rfl) ?_
  refine WL.nil ?_
  refine En.next ?_
  refine WC.ret ?_
  refine En.ret1 rfl (Res.tmp rfl) ?_
  obtain rfl := Option.some.inj h
  intro w' hs
  exact ⟨rfl, hs.below⟩

theorem w_impl_isOpaquePixel {p_p0 : Int} {r : Bool}  (h : impl_isOpaquePixel p_p0 = some r) {w : World}    :
    Calls Try.prog 96 #[.int .i64 p_p0] w (fun en w' => en = .returned (.bool r) ∧ Ext w w') := by
  unfold impl_isOpaquePixel at h
  refine enter (vs := [_]) Try.func96 rfl rfl rfl rfl ?_
  refine WC.seq ?_
  refine WC.region ?_
  refine Lt.ofWL.step rfl rfl rfl (OpV.assign rfl) ?_
  refine WL.nil ?_
  refine En.next ?_
  refine WC.seq ?_
  obtain ⟨x1_1, e1_1, h⟩ := bnd h
  obtain ⟨q1_6, e1_6, h⟩ := bnd h
  refine WC.region ?_
  refine Lt.ofWL.step rfl rfl rfl (OpV.move rfl) ?_
  refine Lt.ofWL.step rfl rfl rfl (OpV.call (evs.cons rfl (evs.nil)) ca_143 (fun w hs => w_impl_isPixel e1_1)) ?_
  refine Lt.ofWL.step rfl rfl rfl (OpV.move rfl) ?_
  refine Lt.ofWL.andQ 5 9 8 (p := ?pz1) (rest := ?qz1) (B := q1_6) rfl (fun hz => andO_f e1_6 hz) ?Tz1 ?Fz1 ?az1 ?bz1 ?cz1 ?dz1 ?ez1
  case Tz1 =>
    intro hcz1 hkz1
    have hqz1 := andO_t e1_6 hcz1
    obtain ⟨x1_4, e1_4, hqz1⟩ := bnd hqz1
    obtain rfl := Option.some.inj hqz1
    refine Lt.ofWL.step rfl rfl rfl (OpV.move rfl) ?_
    refine Lt.ofWL.step rfl rfl rfl (OpV.call (evs.cons rfl (evs.cons rfl (evs.nil))) ca_144 (fun w hs => w_impl_channel e1_4)) ?_
    refine Lt.ofWL.step rfl rfl rfl (OpV.eql rfl rfl) ?_
    refine hkz1 _ ?_ ?_
    exact rfl
    repeat (first | exact Sub.refl _ | refine Sub.skip rfl ?_)
  case Fz1 =>
    intro hcz1 hkz1
    refine Lt.ofWL.skip rfl rfl rfl ?_
    refine Lt.ofWL.skip rfl rfl rfl ?_
    refine Lt.ofWL.skip rfl rfl rfl ?_
    refine hkz1 _ ?_
    repeat (first | exact Sub.refl _ | refine Sub.skip rfl ?_)
  case az1 => exact rfl
  case bz1 => exact rfl
  case cz1 => exact rfl
  case dz1 => exact rfl
  refine Lt.ofWL.step rfl rfl rfl (OpV.assign rfl) ?_
  refine WL.nil ?_
  refine En.next ?_
  refine WC.ret ?_
  refine En.ret1 rfl (Res.tmp rfl) ?_
  obtain rfl := Option.some.inj h
  intro w' hs
  exact ⟨rfl, hs.below⟩

theorem w_impl_PlaneOk_1 {p_p0 : Int} {r : Bool}  (h : impl_PlaneOk_1 p_p0 = some r) {w : World}    :
    Calls Try.prog 95 #[.int .i64 p_p0] w (fun en w' => en = .returned (.bool r) ∧ Ext w w') := by
  unfold impl_PlaneOk_1 at h
  refine enter (vs := [_]) Try.func95 rfl rfl rfl rfl ?_
  refine WC.seq ?_
  refine WC.region ?_
  refine Lt.ofWL.step rfl rfl rfl (OpV.assign rfl) ?_
  refine WL.nil ?_
  refine En.next ?_
  refine WC.seq ?_
  obtain ⟨x1_1, e1_1, h⟩ := bnd h
  refine WC.region ?_
  refine Lt.ofWL.step rfl rfl rfl (OpV.move rfl) ?_
  refine Lt.ofWL.step rfl rfl rfl (OpV.call (evs.cons rfl (evs.nil)) ca_96 (fun w hs => w_impl_isOpaquePixel e1_1)) ?_
  refine Lt.ofWL.step rfl rfl rfl (OpV.not rfl) ?_
  refine Lt.ofWL.step rfl rfl rfl (OpV.assign rfl) ?_
  refine WL.nil ?_
  refine En.next ?_
  refine WC.ret ?_
  refine En.ret1 rfl (Res.tmp rfl) ?_
  obtain rfl := Option.some.inj h
  intro w' hs
  exact ⟨rfl, hs.below⟩

theorem w_impl_PlaneOk {a_p0 : Int} {a_p1 : PlaneT} {a_p2 : Int} {a_p3 : Int} {r : Bool} {q1_0 : Option Addr} {n1_0 k1_0 : Nat} (h : impl_PlaneOk a_p0 a_p1 a_p2 a_p3 = some r) {w : World} (r1_0 : Rd tInt w q1_0 n1_0 k1_0 a_p1.Words)   :
    Calls Try.prog 38 #[.int .i64 a_p0, .agg #[.bool a_p1.On, .int .i64 a_p1.X, .int .i64 a_p1.Y, .int .i64 a_p1.W, .int .i64 a_p1.H, .int .i64 a_p1.Layout, .slice q1_0 n1_0 k1_0, .int .i64 a_p1.Alpha, .int .i64 a_p1.Orient, .int .i64 a_p1.ToW, .int .i64 a_p1.ToH], .int .i64 a_p2, .int .i64 a_p3] w (fun en w' => en = .returned (.bool r) ∧ Ext w w') := by
  obtain rfl := r1_0.1
  unfold impl_PlaneOk at h
  refine enter (vs := [_, _, _, _]) Try.func38 rfl rfl rfl rfl ?_
  refine WC.seq ?_
  refine WC.region ?_
  refine WL.heavy rfl rfl rfl (OpH.box rfl rfl ?_)
  intro b0_0
  refine Lt.ofWL.step rfl rfl rfl (OpV.assign rfl) ?_
  refine WL.nil ?_
  refine En.next ?_
  refine WC.seq ?_
  refine WC.seq ?_
  obtain ⟨x1_1, e1_1, h⟩ := bnd h
  obtain ⟨q1_7, e1_7, h⟩ := bnd h
  obtain ⟨q1_12, e1_12, h⟩ := bnd h
  refine WC.region ?_
  refine Lt.ofWL.step rfl rfl rfl (OpV.move rfl) ?_
  refine Lt.ofWL.step rfl rfl rfl (OpV.call (evs.cons rfl (evs.cons rfl (evs.cons rfl (evs.nil)))) ca_91 (fun w hs => w_impl_within e1_1)) ?_
  refine Lt.ofWL.step rfl rfl rfl (OpV.not rfl) ?_
  refine Lt.ofWL.step rfl rfl rfl (OpV.move rfl) ?_
  refine Lt.ofWL.orQ 15 19 18 (p := ?pz1) (rest := ?qz1) (B := q1_7) rfl (fun hz => orO_t e1_7 hz) ?Tz1 ?Fz1 ?az1 ?bz1 ?cz1 ?dz1 ?ez1
  case Tz1 =>
    intro hcz1 hkz1
    refine Lt.ofWL.skip rfl rfl rfl ?_
    refine Lt.ofWL.skip rfl rfl rfl ?_
    refine Lt.ofWL.skip rfl rfl rfl ?_
    refine hkz1 _ ?_
    repeat (first | exact Sub.refl _ | refine Sub.skip rfl ?_)
  case Fz1 =>
    intro hcz1 hkz1
    have hqz1 := orO_f e1_7 hcz1
    obtain ⟨x1_5, e1_5, hqz1⟩ := bnd hqz1
    obtain rfl := Option.some.inj hqz1
    refine Lt.ofWL.step rfl rfl rfl (OpV.move rfl) ?_
    refine Lt.ofWL.step rfl rfl rfl (OpV.call (evs.cons rfl (evs.nil)) ca_92 (fun w hs => w_impl_isSide e1_5)) ?_
    refine Lt.ofWL.step rfl rfl rfl (OpV.not rfl) ?_
    refine hkz1 _ ?_ ?_
    exact rfl
    repeat (first | exact Sub.refl _ | refine Sub.skip rfl ?_)
  case az1 => exact rfl
  case bz1 => exact rfl
  case cz1 => exact rfl
  case dz1 => exact rfl
  refine Lt.ofWL.step rfl rfl rfl (OpV.move rfl) ?_
  refine Lt.ofWL.orQ 20 24 23 (p := ?pz2) (rest := ?qz2) (B := q1_12) rfl (fun hz => orO_t e1_12 hz) ?Tz2 ?Fz2 ?az2 ?bz2 ?cz2 ?dz2 ?ez2
  case Tz2 =>
    intro hcz2 hkz2
    refine Lt.ofWL.skip rfl rfl rfl ?_
    refine Lt.ofWL.skip rfl rfl rfl ?_
    refine Lt.ofWL.skip rfl rfl rfl ?_
    refine hkz2 _ ?_
    repeat (first | exact Sub.refl _ | refine Sub.skip rfl ?_)
  case Fz2 =>
    intro hcz2 hkz2
    have hqz2 := orO_f e1_12 hcz2
    obtain ⟨x1_10, e1_10, hqz2⟩ := bnd hqz2
    obtain rfl := Option.some.inj hqz2
    refine Lt.ofWL.step rfl rfl rfl (OpV.move rfl) ?_
    refine Lt.ofWL.step rfl rfl rfl (OpV.call (evs.cons rfl (evs.nil)) ca_92 (fun w hs => w_impl_isSide e1_10)) ?_
    refine Lt.ofWL.step rfl rfl rfl (OpV.not rfl) ?_
    refine hkz2 _ ?_ ?_
    exact rfl
    repeat (first | exact Sub.refl _ | refine Sub.skip rfl ?_)
  case az2 => exact rfl
  case bz2 => exact rfl
  case cz2 => exact rfl
  case dz2 => exact rfl
  refine WL.nil ?_
  refine En.next ?_
  refine WC.cond rfl ?_ ?_
  ·
    intro hc_1
    replace h := ifO_t hc_1 h
    refine WC.seq ?_
    refine WC.region ?_
    refine Lt.ofWL.step rfl rfl rfl (OpV.assign rfl) ?_
    refine WL.nil ?_
    refine En.next ?_
    refine WC.ret ?_
    refine En.then_ret ?_
    refine En.ret1 rfl (Res.tmp rfl) ?_
    obtain rfl := Option.some.inj h
    intro w' hs
    exact ⟨rfl, hs.below⟩
  ·
    intro hc_1
    replace h := ifO_f hc_1 h
    refine WC.skip ?_
    refine En.next ?_
    refine WC.seq ?_
    refine WC.seq ?_
    refine WC.region ?_
    refine Lt.ofWL.step rfl rfl rfl (OpV.fieldAddr rfl fo_57_0) ?_
    refine Lt.ofWL.step rfl rfl rfl (OpV.loadBox rfl pt_4 (.head _) rfl) ?_
    refine Lt.ofWL.step rfl rfl rfl (OpV.not rfl) ?_
    refine WL.nil ?_
    refine En.next ?_
    refine WC.cond rfl ?_ ?_
    ·
      intro hc_2
      replace h := ifO_t hc_2 h
      refine WC.seq ?_
      obtain ⟨q4_6, e4_6, h⟩ := bnd h
      refine WC.region ?_
      refine Lt.ofWL.step rfl rfl rfl (OpV.move rfl) ?_
      refine Lt.ofWL.step rfl rfl rfl (OpV.neq rfl rfl) ?_
      refine Lt.ofWL.step rfl rfl rfl (OpV.move rfl) ?_
      refine Lt.ofWL.andQ 30 34 33 (p := ?pz3) (rest := ?qz3) (B := q4_6) rfl (fun hz => andO_f e4_6 hz) ?Tz3 ?Fz3 ?az3 ?bz3 ?cz3 ?dz3 ?ez3
      case Tz3 =>
        intro hcz3 hkz3
        have hqz3 := andO_t e4_6 hcz3
        obtain ⟨x4_5, e4_5, hqz3⟩ := bnd hqz3
        obtain rfl := Option.some.inj hqz3
        refine Lt.ofWL.step rfl rfl rfl (OpV.loadAll rfl (.head _) ag_57) ?_
        refine Lt.ofWL.step rfl rfl rfl (OpV.build (evps.nil) bd_57_) ?_
        refine Lt.ofWL.step rfl rfl rfl (OpV.call (evs.cons rfl (evs.cons rfl (evs.nil))) ca_93 (fun w hs => w_impl_samePlane e4_5 (r1_0.ext hs.below) (Rd.nil _))) ?_
        refine hkz3 _ ?_ ?_
        exact rfl
        repeat (first | exact Sub.refl _ | refine Sub.skip rfl ?_)
      case Fz3 =>
        intro hcz3 hkz3
        refine Lt.ofWL.skip rfl rfl rfl ?_
        refine Lt.ofWL.skip rfl rfl rfl ?_
        refine Lt.ofWL.skip rfl rfl rfl ?_
        refine hkz3 _ ?_
        repeat (first | exact Sub.refl _ | refine Sub.skip rfl ?_)
      case az3 => exact rfl
      case bz3 => exact rfl
      case cz3 => exact rfl
      case dz3 => exact rfl
      refine Lt.ofWL.step rfl rfl rfl (OpV.assign rfl) ?_
      refine WL.nil ?_
      refine En.next ?_
      refine WC.ret ?_
      refine En.then_ret ?_
      refine En.ret1 rfl (Res.tmp rfl) ?_
      obtain rfl := Option.some.inj h
      intro w' hs
      exact ⟨rfl, hs.below⟩
    ·
      intro hc_2
      replace h := ifO_f hc_2 h
      refine WC.skip ?_
      refine En.next ?_
      refine WC.seq ?_
      obtain ⟨⟨x5_1a, x5_1b⟩, e5_1, h⟩ := bnd h
      refine WC.region ?_
      refine Lt.ofWL.step rfl rfl rfl (OpV.loadAll rfl (.head _) ag_57) ?_
      refine WL.heavy rfl rfl rfl (OpH.callR (evs.cons rfl (evs.nil)) ca_42 (fun w hs => w_impl_PlaneImage e5_1 (r1_0.ext hs.below)) ?_)
      rintro _ _ ⟨a5_100, n5_100, c5_100, f5_100, rfl, rfl⟩
      refine Lt.ofWL.step rfl rfl rfl (OpV.move rfl) ?_
      refine Lt.ofWL.step rfl rfl rfl (OpV.extract rfl rfl) ?_
      refine Lt.ofWL.step rfl rfl rfl (OpV.extract rfl rfl) ?_
      refine WL.heavy rfl rfl rfl (OpH.alloc zc_36 ?_)
      intro b5_5
      refine WL.heavy0 rfl rfl (OpH.storeTo (A := []) [_, _, _] rfl rfl rfl ts_36 rfl rfl rfl ?_)
      refine Lt.ofWL.step rfl rfl rfl (OpV.assign rfl) ?_
      refine WL.nil ?_
      refine En.next ?_
      refine WC.seq ?_
      refine WC.seq ?_
      obtain ⟨q6_7, e6_7, h⟩ := bnd h
      obtain ⟨q6_13, e6_13, h⟩ := bnd h
      refine WC.region ?_
      refine Lt.ofWL.step rfl rfl rfl (OpV.move rfl) ?_
      refine Lt.ofWL.step rfl rfl rfl (OpV.not rfl) ?_
      refine Lt.ofWL.step rfl rfl rfl (OpV.move rfl) ?_
      refine Lt.ofWL.orQ 42 47 46 (p := ?pz4) (rest := ?qz4) (B := q6_7) rfl (fun hz => orO_t e6_7 hz) ?Tz4 ?Fz4 ?az4 ?bz4 ?cz4 ?dz4 ?ez4
      case Tz4 =>
        intro hcz4 hkz4
        refine Lt.ofWL.skip rfl rfl rfl ?_
        refine Lt.ofWL.skip rfl rfl rfl ?_
        refine Lt.ofWL.skip rfl rfl rfl ?_
        refine Lt.ofWL.skip rfl rfl rfl ?_
        refine hkz4 _ ?_
        repeat (first | exact Sub.refl _ | refine Sub.skip rfl ?_)
      case Fz4 =>
        intro hcz4 hkz4
        have hqz4 := orO_f e6_7 hcz4
        obtain ⟨x6_5, e6_5, hqz4⟩ := bnd hqz4
        obtain rfl := Option.some.inj hqz4
        refine Lt.ofWL.step rfl rfl rfl (OpV.fieldAddr rfl fo_57_1) ?_
        refine Lt.ofWL.step rfl rfl rfl (OpV.loadBox rfl pt_3 (.tail _ (.tail _ (.head _))) rfl) ?_
        refine Lt.ofWL.step rfl rfl rfl (OpV.call (evs.cons rfl (evs.cons rfl (evs.cons rfl (evs.nil)))) ca_91 (fun w hs => w_impl_within e6_5)) ?_
        refine Lt.ofWL.step rfl rfl rfl (OpV.not rfl) ?_
        refine hkz4 _ ?_ ?_
        exact rfl
        repeat (first | exact Sub.refl _ | refine Sub.skip rfl ?_)
      case az4 => exact rfl
      case bz4 => exact rfl
      case cz4 => exact rfl
      case dz4 => exact rfl
      refine Lt.ofWL.step rfl rfl rfl (OpV.move rfl) ?_
      refine Lt.ofWL.orQ 48 53 52 (p := ?pz5) (rest := ?qz5) (B := q6_13) rfl (fun hz => orO_t e6_13 hz) ?Tz5 ?Fz5 ?az5 ?bz5 ?cz5 ?dz5 ?ez5
      case Tz5 =>
        intro hcz5 hkz5
        refine Lt.ofWL.skip rfl rfl rfl ?_
        refine Lt.ofWL.skip rfl rfl rfl ?_
        refine Lt.ofWL.skip rfl rfl rfl ?_
        refine Lt.ofWL.skip rfl rfl rfl ?_
        refine hkz5 _ ?_
        repeat (first | exact Sub.refl _ | refine Sub.skip rfl ?_)
      case Fz5 =>
        intro hcz5 hkz5
        have hqz5 := orO_f e6_13 hcz5
        obtain ⟨x6_11, e6_11, hqz5⟩ := bnd hqz5
        obtain rfl := Option.some.inj hqz5
        refine Lt.ofWL.step rfl rfl rfl (OpV.fieldAddr rfl fo_57_2) ?_
        refine Lt.ofWL.step rfl rfl rfl (OpV.loadBox rfl pt_3 (.tail _ (.tail _ (.head _))) rfl) ?_
        refine Lt.ofWL.step rfl rfl rfl (OpV.call (evs.cons rfl (evs.cons rfl (evs.cons rfl (evs.nil)))) ca_91 (fun w hs => w_impl_within e6_11)) ?_
        refine Lt.ofWL.step rfl rfl rfl (OpV.not rfl) ?_
        refine hkz5 _ ?_ ?_
        exact rfl
        repeat (first | exact Sub.refl _ | refine Sub.skip rfl ?_)
      case az5 => exact rfl
      case bz5 => exact rfl
      case cz5 => exact rfl
      case dz5 => exact rfl
      refine WL.nil ?_
      refine En.next ?_
      refine WC.cond rfl ?_ ?_
      ·
        intro hc_3
        replace h := ifO_t hc_3 h
        refine WC.seq ?_
        refine WC.region ?_
        refine Lt.ofWL.step rfl rfl rfl (OpV.assign rfl) ?_
        refine WL.nil ?_
        refine En.next ?_
        refine WC.ret ?_
        refine En.then_ret ?_
        refine En.ret1 rfl (Res.tmp rfl) ?_
        obtain rfl := Option.some.inj h
        intro w' hs
        exact ⟨rfl, hs.below⟩
      ·
        intro hc_3
        replace h := ifO_f hc_3 h
        refine WC.skip ?_
        refine En.next ?_
        refine WC.seq ?_
        refine WC.region ?_
        refine Lt.ofWL.step rfl rfl rfl (OpV.fieldAddr rfl fo_57_8) ?_
        refine Lt.ofWL.step rfl rfl rfl (OpV.loadBox rfl pt_3 (.tail _ (.tail _ (.head _))) rfl) ?_
        refine Lt.ofWL.step rfl rfl rfl (OpV.eql rfl rfl) ?_
        refine Lt.ofWL.step rfl rfl rfl (OpV.move rfl) ?_
        refine Lt.ofWL.and 57 61 60 (p := ?pz6) (rest := ?qz6) (B := ?Bz6) rfl ?Tz6 ?Fz6 ?az6 ?bz6 ?cz6 ?dz6 ?ez6
        case Tz6 =>
          intro hcz6 hkz6
          refine Lt.ofWL.step rfl rfl rfl (OpV.fieldAddr rfl fo_57_9) ?_
          refine Lt.ofWL.step rfl rfl rfl (OpV.loadBox rfl pt_3 (.tail _ (.tail _ (.head _))) rfl) ?_
          refine Lt.ofWL.step rfl rfl rfl (OpV.eql rfl rfl) ?_
          refine hkz6 _ ?_ ?_
          exact rfl
          repeat (first | exact Sub.refl _ | refine Sub.skip rfl ?_)
        case Fz6 =>
          intro hcz6 hkz6
          refine Lt.ofWL.skip rfl rfl rfl ?_
          refine Lt.ofWL.skip rfl rfl rfl ?_
          refine Lt.ofWL.skip rfl rfl rfl ?_
          refine hkz6 _ ?_
          repeat (first | exact Sub.refl _ | refine Sub.skip rfl ?_)
        case az6 => exact rfl
        case bz6 => exact rfl
        case cz6 => exact rfl
        case dz6 => exact rfl
        refine Lt.ofWL.step rfl rfl rfl (OpV.move rfl) ?_
        refine Lt.ofWL.and 62 66 65 (p := ?pz7) (rest := ?qz7) (B := ?Bz7) rfl ?Tz7 ?Fz7 ?az7 ?bz7 ?cz7 ?dz7 ?ez7
        case Tz7 =>
          intro hcz7 hkz7
          refine Lt.ofWL.step rfl rfl rfl (OpV.fieldAddr rfl fo_57_10) ?_
          refine Lt.ofWL.step rfl rfl rfl (OpV.loadBox rfl pt_3 (.tail _ (.tail _ (.head _))) rfl) ?_
          refine Lt.ofWL.step rfl rfl rfl (OpV.eql rfl rfl) ?_
          refine hkz7 _ ?_ ?_
          exact rfl
          repeat (first | exact Sub.refl _ | refine Sub.skip rfl ?_)
        case Fz7 =>
          intro hcz7 hkz7
          refine Lt.ofWL.skip rfl rfl rfl ?_
          refine Lt.ofWL.skip rfl rfl rfl ?_
          refine Lt.ofWL.skip rfl rfl rfl ?_
          refine hkz7 _ ?_
          repeat (first | exact Sub.refl _ | refine Sub.skip rfl ?_)
        case az7 => exact rfl
        case bz7 => exact rfl
        case cz7 => exact rfl
        case dz7 => exact rfl
        refine Lt.ofWL.step rfl rfl rfl (OpV.move rfl) ?_
        refine Lt.ofWL.and 67 71 70 (p := ?pz8) (rest := ?qz8) (B := ?Bz8) rfl ?Tz8 ?Fz8 ?az8 ?bz8 ?cz8 ?dz8 ?ez8
        case Tz8 =>
          intro hcz8 hkz8
          refine Lt.ofWL.step rfl rfl rfl (OpV.fieldAddr rfl fo_57_7) ?_
          refine Lt.ofWL.step rfl rfl rfl (OpV.loadBox rfl pt_3 (.tail _ (.tail _ (.head _))) rfl) ?_
          refine Lt.ofWL.step rfl rfl rfl (OpV.eql rfl rfl) ?_
          refine hkz8 _ ?_ ?_
          exact rfl
          repeat (first | exact Sub.refl _ | refine Sub.skip rfl ?_)
        case Fz8 =>
          intro hcz8 hkz8
          refine Lt.ofWL.skip rfl rfl rfl ?_
          refine Lt.ofWL.skip rfl rfl rfl ?_
          refine Lt.ofWL.skip rfl rfl rfl ?_
          refine hkz8 _ ?_
          repeat (first | exact Sub.refl _ | refine Sub.skip rfl ?_)
        case az8 => exact rfl
        case bz8 => exact rfl
        case cz8 => exact rfl
        case dz8 => exact rfl
        refine Lt.ofWL.step rfl rfl rfl (OpV.assign rfl) ?_
        refine WL.nil ?_
        refine En.next ?_
        refine WC.seq ?_
        refine WC.seq ?_
        refine WC.region ?_
        refine Lt.ofWL.step rfl rfl rfl (OpV.move rfl) ?_
        refine WL.nil ?_
        refine En.next ?_
        refine WC.block ?_
        refine WC.seq ?_
        refine WC.region ?_
        refine Lt.ofWL.step rfl rfl rfl (OpV.eql rfl rfl) ?_
        refine Lt.ofWL.step rfl rfl rfl (OpV.assign rfl) ?_
        refine WL.nil ?_
        refine En.next ?_
        refine WC.cond rfl ?_ ?_
        ·
          intro hc_4
          replace h := ifO_t hc_4 h
          refine WC.seq ?_
          obtain ⟨q11_28, e11_28, h⟩ := bnd h
          refine WC.region ?_
          refine Lt.ofWL.step rfl rfl rfl (OpV.move rfl) ?_
          refine Lt.ofWL.step rfl rfl rfl (OpV.move rfl) ?_
          refine Lt.ofWL.and 76 80 79 (p := ?pz9) (rest := ?qz9) (B := ?Bz9) rfl ?Tz9 ?Fz9 ?az9 ?bz9 ?cz9 ?dz9 ?ez9
          case Tz9 =>
            intro hcz9 hkz9
            refine Lt.ofWL.step rfl rfl rfl (OpV.fieldAddr rfl fo_57_1) ?_
            refine Lt.ofWL.step rfl rfl rfl (OpV.loadBox rfl pt_3 (.tail _ (.tail _ (.head _))) rfl) ?_
            refine Lt.ofWL.step rfl rfl rfl (OpV.eql rfl rfl) ?_
            refine hkz9 _ ?_ ?_
            exact rfl
            repeat (first | exact Sub.refl _ | refine Sub.skip rfl ?_)
          case Fz9 =>
            intro hcz9 hkz9
            refine Lt.ofWL.skip rfl rfl rfl ?_
            refine Lt.ofWL.skip rfl rfl rfl ?_
            refine Lt.ofWL.skip rfl rfl rfl ?_
            refine hkz9 _ ?_
            repeat (first | exact Sub.refl _ | refine Sub.skip rfl ?_)
          case az9 => exact rfl
          case bz9 => exact rfl
          case cz9 => exact rfl
          case dz9 => exact rfl
          refine Lt.ofWL.step rfl rfl rfl (OpV.move rfl) ?_
          refine Lt.ofWL.and 81 85 84 (p := ?pz10) (rest := ?qz10) (B := ?Bz10) rfl ?Tz10 ?Fz10 ?az10 ?bz10 ?cz10 ?dz10 ?ez10
          case Tz10 =>
            intro hcz10 hkz10
            refine Lt.ofWL.step rfl rfl rfl (OpV.fieldAddr rfl fo_57_2) ?_
            refine Lt.ofWL.step rfl rfl rfl (OpV.loadBox rfl pt_3 (.tail _ (.tail _ (.head _))) rfl) ?_
            refine Lt.ofWL.step rfl rfl rfl (OpV.eql rfl rfl) ?_
            refine hkz10 _ ?_ ?_
            exact rfl
            repeat (first | exact Sub.refl _ | refine Sub.skip rfl ?_)
          case Fz10 =>
            intro hcz10 hkz10
            refine Lt.ofWL.skip rfl rfl rfl ?_
            refine Lt.ofWL.skip rfl rfl rfl ?_
            refine Lt.ofWL.skip rfl rfl rfl ?_
            refine hkz10 _ ?_
            repeat (first | exact Sub.refl _ | refine Sub.skip rfl ?_)
          case az10 => exact rfl
          case bz10 => exact rfl
          case cz10 => exact rfl
          case dz10 => exact rfl
          refine Lt.ofWL.step rfl rfl rfl (OpV.move rfl) ?_
          refine Lt.ofWL.and 86 91 90 (p := ?pz11) (rest := ?qz11) (B := ?Bz11) rfl ?Tz11 ?Fz11 ?az11 ?bz11 ?cz11 ?dz11 ?ez11
          case Tz11 =>
            intro hcz11 hkz11
            refine Lt.ofWL.step rfl rfl rfl (OpV.fieldAddr rfl fo_57_3) ?_
            refine Lt.ofWL.step rfl rfl rfl (OpV.loadBox rfl pt_3 (.tail _ (.tail _ (.head _))) rfl) ?_
            refine Lt.ofWL.step rfl rfl rfl (OpV.move rfl) ?_
            refine Lt.ofWL.step rfl rfl rfl (OpV.eql rfl rfl) ?_
            refine hkz11 _ ?_ ?_
            exact rfl
            repeat (first | exact Sub.refl _ | refine Sub.skip rfl ?_)
          case Fz11 =>
            intro hcz11 hkz11
            refine Lt.ofWL.skip rfl rfl rfl ?_
            refine Lt.ofWL.skip rfl rfl rfl ?_
            refine Lt.ofWL.skip rfl rfl rfl ?_
            refine Lt.ofWL.skip rfl rfl rfl ?_
            refine hkz11 _ ?_
            repeat (first | exact Sub.refl _ | refine Sub.skip rfl ?_)
          case az11 => exact rfl
          case bz11 => exact rfl
          case cz11 => exact rfl
          case dz11 => exact rfl
          refine Lt.ofWL.step rfl rfl rfl (OpV.move rfl) ?_
          refine Lt.ofWL.and 92 97 96 (p := ?pz12) (rest := ?qz12) (B := ?Bz12) rfl ?Tz12 ?Fz12 ?az12 ?bz12 ?cz12 ?dz12 ?ez12
          case Tz12 =>
            intro hcz12 hkz12
            refine Lt.ofWL.step rfl rfl rfl (OpV.fieldAddr rfl fo_57_4) ?_
            refine Lt.ofWL.step rfl rfl rfl (OpV.loadBox rfl pt_3 (.tail _ (.tail _ (.head _))) rfl) ?_
            refine Lt.ofWL.step rfl rfl rfl (OpV.move rfl) ?_
            refine Lt.ofWL.step rfl rfl rfl (OpV.eql rfl rfl) ?_
            refine hkz12 _ ?_ ?_
            exact rfl
            repeat (first | exact Sub.refl _ | refine Sub.skip rfl ?_)
          case Fz12 =>
            intro hcz12 hkz12
            refine Lt.ofWL.skip rfl rfl rfl ?_
            refine Lt.ofWL.skip rfl rfl rfl ?_
            refine Lt.ofWL.skip rfl rfl rfl ?_
            refine Lt.ofWL.skip rfl rfl rfl ?_
            refine hkz12 _ ?_
            repeat (first | exact Sub.refl _ | refine Sub.skip rfl ?_)
          case az12 => exact rfl
          case bz12 => exact rfl
          case cz12 => exact rfl
          case dz12 => exact rfl
          refine Lt.ofWL.step rfl rfl rfl (OpV.move rfl) ?_
          refine Lt.ofWL.andQ 98 103 102 (p := ?pz13) (rest := ?qz13) (B := q11_28) rfl (fun hz => andO_f e11_28 hz) ?Tz13 ?Fz13 ?az13 ?bz13 ?cz13 ?dz13 ?ez13
          case Tz13 =>
            intro hcz13 hkz13
            have hqz13 := andO_t e11_28 hcz13
            obtain ⟨x11_26, e11_26, hqz13⟩ := bnd hqz13
            obtain rfl := Option.some.inj hqz13
            refine Lt.ofWL.step rfl rfl rfl (OpV.fieldAddr rfl fo_36_2) ?_
            refine Lt.ofWL.step rfl rfl rfl (OpV.loadBox rfl pt_32 (.head _) rfl) ?_
            refine Lt.ofWL.step rfl rfl rfl (OpV.call (evs.cons rfl (evs.cons rfl (evs.nil))) ca_94 (fun w hs => w_slices_ContainsFunc_S_int_int e11_26 (Ow.rd (hs.mem (.tail _ (.head _)))) (fun _ he  => CallsV.of ca_95 (w_impl_PlaneOk_1 he )))) ?_
            refine Lt.ofWL.step rfl rfl rfl (OpV.not rfl) ?_
            refine hkz13 _ ?_ ?_
            exact rfl
            repeat (first | exact Sub.refl _ | refine Sub.skip rfl ?_)
          case Fz13 =>
            intro hcz13 hkz13
            refine Lt.ofWL.skip rfl rfl rfl ?_
            refine Lt.ofWL.skip rfl rfl rfl ?_
            refine Lt.ofWL.skip rfl rfl rfl ?_
            refine Lt.ofWL.skip rfl rfl rfl ?_
            refine hkz13 _ ?_
            repeat (first | exact Sub.refl _ | refine Sub.skip rfl ?_)
          case az13 => exact rfl
          case bz13 => exact rfl
          case cz13 => exact rfl
          case dz13 => exact rfl
          refine Lt.ofWL.step rfl rfl rfl (OpV.assign rfl) ?_
          refine WL.nil ?_
          refine En.next ?_
          refine WC.ret ?_
          refine En.block_ret ?_
          refine En.then_ret ?_
          refine En.ret1 rfl (Res.tmp rfl) ?_
          obtain rfl := Option.some.inj h
          intro w' hs
          exact ⟨rfl, hs.below⟩
        ·
          intro hc_4
          replace h := ifO_f hc_4 h
          refine WC.seq ?_
          refine WC.region ?_
          refine Lt.ofWL.step rfl rfl rfl (OpV.eql rfl rfl) ?_
          refine Lt.ofWL.step rfl rfl rfl (OpV.assign rfl) ?_
          refine WL.nil ?_
          refine En.next ?_
          refine WC.cond rfl ?_ ?_
          ·
            intro hc_5
            replace h := ifO_t hc_5 h
            refine WC.seq ?_
            refine WC.region ?_
            refine Lt.ofWL.step rfl rfl rfl (OpV.move rfl) ?_
            refine Lt.ofWL.step rfl rfl rfl (OpV.move rfl) ?_
            refine Lt.ofWL.and 107 111 110 (p := ?pz14) (rest := ?qz14) (B := ?Bz14) rfl ?Tz14 ?Fz14 ?az14 ?bz14 ?cz14 ?dz14 ?ez14
            case Tz14 =>
              intro hcz14 hkz14
              refine Lt.ofWL.step rfl rfl rfl (OpV.fieldAddr rfl fo_57_3) ?_
              refine Lt.ofWL.step rfl rfl rfl (OpV.loadBox rfl pt_3 (.tail _ (.tail _ (.head _))) rfl) ?_
              refine Lt.ofWL.step rfl rfl rfl (OpV.leq rfl rfl) ?_
              refine hkz14 _ ?_ ?_
              exact rfl
              repeat (first | exact Sub.refl _ | refine Sub.skip rfl ?_)
            case Fz14 =>
              intro hcz14 hkz14
              refine Lt.ofWL.skip rfl rfl rfl ?_
              refine Lt.ofWL.skip rfl rfl rfl ?_
              refine Lt.ofWL.skip rfl rfl rfl ?_
              refine hkz14 _ ?_
              repeat (first | exact Sub.refl _ | refine Sub.skip rfl ?_)
            case az14 => exact rfl
            case bz14 => exact rfl
            case cz14 => exact rfl
            case dz14 => exact rfl
            refine Lt.ofWL.step rfl rfl rfl (OpV.move rfl) ?_
            refine Lt.ofWL.and 112 116 115 (p := ?pz15) (rest := ?qz15) (B := ?Bz15) rfl ?Tz15 ?Fz15 ?az15 ?bz15 ?cz15 ?dz15 ?ez15
            case Tz15 =>
              intro hcz15 hkz15
              refine Lt.ofWL.step rfl rfl rfl (OpV.fieldAddr rfl fo_57_4) ?_
              refine Lt.ofWL.step rfl rfl rfl (OpV.loadBox rfl pt_3 (.tail _ (.tail _ (.head _))) rfl) ?_
              refine Lt.ofWL.step rfl rfl rfl (OpV.leq rfl rfl) ?_
              refine hkz15 _ ?_ ?_
              exact rfl
              repeat (first | exact Sub.refl _ | refine Sub.skip rfl ?_)
            case Fz15 =>
              intro hcz15 hkz15
              refine Lt.ofWL.skip rfl rfl rfl ?_
              refine Lt.ofWL.skip rfl rfl rfl ?_
              refine Lt.ofWL.skip rfl rfl rfl ?_
              refine hkz15 _ ?_
              repeat (first | exact Sub.refl _ | refine Sub.skip rfl ?_)
            case az15 => exact rfl
            case bz15 => exact rfl
            case cz15 => exact rfl
            case dz15 => exact rfl
            refine Lt.ofWL.step rfl rfl rfl (OpV.assign rfl) ?_
            refine WL.nil ?_
            refine En.next ?_
            refine WC.ret ?_
            refine En.block_ret ?_
            refine En.then_ret ?_
            refine En.ret1 rfl (Res.tmp rfl) ?_
            obtain rfl := Option.some.inj h
            intro w' hs
            exact ⟨rfl, hs.below⟩
          ·
            intro hc_5
            replace h := ifO_f hc_5 h
            refine WC.skip ?_
            refine En.block_norm ?_
            refine En.next ?_
            refine WC.seq ?_
            refine WC.region ?_
            refine Lt.ofWL.step rfl rfl rfl (OpV.assign rfl) ?_
            refine WL.nil ?_
            refine En.next ?_
            refine WC.ret ?_
            refine En.ret1 rfl (Res.tmp rfl) ?_
            obtain rfl := Option.some.inj h
            intro w' hs
            exact ⟨rfl, hs.below⟩

theorem w_laws_FnExactPlaneOk {aK_p0 : Int} {aP_p1 : PlaneT} {aW_p2 : Int} {aH_p3 : Int} {r : Bool} {q1_0 : Option Addr} {n1_0 k1_0 : Nat} (h : laws_FnExactPlaneOk aK_p0 aP_p1 aW_p2 aH_p3 = some r) {w : World} (r1_0 : Rd tInt w q1_0 n1_0 k1_0 aP_p1.Words)   :
    Calls Try.prog 8 #[.int .i64 aK_p0, .agg #[.bool aP_p1.On, .int .i64 aP_p1.X, .int .i64 aP_p1.Y, .int .i64 aP_p1.W, .int .i64 aP_p1.H, .int .i64 aP_p1.Layout, .slice q1_0 n1_0 k1_0, .int .i64 aP_p1.Alpha, .int .i64 aP_p1.Orient, .int .i64 aP_p1.ToW, .int .i64 aP_p1.ToH], .int .i64 aW_p2, .int .i64 aH_p3] w (fun en w' => en = .returned (.bool r) ∧ Ext w w') := by
  obtain rfl := r1_0.1
  unfold laws_FnExactPlaneOk at h
  refine enter (vs := [_, _, _, _]) Try.func8 rfl rfl rfl rfl ?_
  refine WC.seq ?_
  refine WC.region ?_
  refine WL.heavy rfl rfl rfl (OpH.box rfl rfl ?_)
  intro b0_0
  refine Lt.ofWL.step rfl rfl rfl (OpV.assign rfl) ?_
  refine WL.nil ?_
  refine En.next ?_
  refine WC.seq ?_
  refine WC.region ?_
  refine Lt.ofWL.step rfl rfl rfl (OpV.assign rfl) ?_
  refine WL.nil ?_
  refine En.next ?_
  refine WC.seq ?_
  obtain ⟨x2_2, e2_2, h⟩ := bnd h
  refine WC.region ?_
  refine Lt.ofWL.step rfl rfl rfl (OpV.loadAll rfl (.head _) ag_63) ?_
  refine Lt.ofWL.step rfl rfl rfl (OpV.move rfl) ?_
  refine Lt.ofWL.step rfl rfl rfl (OpV.call (evs.cons rfl (evs.cons rfl (evs.nil))) ca_39 (fun w hs => w_laws_szPlane e2_2 (r1_0.ext hs.below))) ?_
  refine Lt.ofWL.step rfl rfl rfl (OpV.assign rfl) ?_
  refine WL.nil ?_
  refine En.next ?_
  refine WC.seq ?_
  refine WC.seq ?_
  refine WC.region ?_
  refine Lt.ofWL.step rfl rfl rfl (OpV.move rfl) ?_
  refine Lt.ofWL.step rfl rfl rfl (OpV.lss rfl rfl) ?_
  refine WL.nil ?_
  refine En.next ?_
  refine WC.cond rfl ?_ ?_
  ·
    intro hc_1
    replace h := ifO_t hc_1 h
    refine WC.seq ?_
    refine WC.region ?_
    refine Lt.ofWL.step rfl rfl rfl (OpV.assign rfl) ?_
    refine WL.nil ?_
    refine En.next ?_
    refine WC.ret ?_
    refine En.then_ret ?_
    refine En.ret1 rfl (Res.tmp rfl) ?_
    obtain rfl := Option.some.inj h
    intro w' hs
    exact ⟨rfl, hs.below⟩
  ·
    intro hc_1
    replace h := ifO_f hc_1 h
    refine WC.skip ?_
    refine En.next ?_
    refine WC.seq ?_
    obtain ⟨x5_2, e5_2, h⟩ := bnd h
    obtain ⟨x5_5, e5_5, h⟩ := bnd h
    refine WC.region ?_
    refine Lt.ofWL.step rfl rfl rfl (OpV.move rfl) ?_
    refine Lt.ofWL.step rfl rfl rfl (OpV.loadAll rfl (.head _) ag_63) ?_
    refine WL.heavy rfl rfl rfl (OpH.callR (evs.cons rfl (evs.nil)) ca_41 (fun w hs => w_laws_toPlane e5_2 (r1_0.ext hs.below)) ?_)
    rintro _ _ ⟨a5_200, n5_200, c5_200, f5_200, rfl, rfl⟩
    refine Lt.ofWL.step rfl rfl rfl (OpV.move rfl) ?_
    refine Lt.ofWL.step rfl rfl rfl (OpV.move rfl) ?_
    refine Lt.ofWL.step rfl rfl rfl (OpV.call (evs.cons rfl (evs.cons rfl (evs.cons rfl (evs.cons rfl (evs.nil))))) ca_48 (fun w hs => w_spec_PlaneOk e5_5 (Ow.rd (hs.mem (.head _))))) ?_
    refine Lt.ofWL.step rfl rfl rfl (OpV.assign rfl) ?_
    refine WL.nil ?_
    refine En.next ?_
    refine WC.seq ?_
    obtain ⟨x6_1, e6_1, h⟩ := bnd h
    refine WC.region ?_
    refine Lt.ofWL.step rfl rfl rfl (OpV.loadAll rfl (.tail _ (.head _)) ag_63) ?_
    refine WL.heavy rfl rfl rfl (OpH.callR (evs.cons rfl (evs.nil)) ca_41 (fun w hs => w_laws_toPlane e6_1 (r1_0.ext hs.below)) ?_)
    rintro _ _ ⟨a6_100, n6_100, c6_100, f6_100, rfl, rfl⟩
    refine WL.heavy rfl rfl rfl (OpH.alloc zc_57 ?_)
    intro b6_2
    refine WL.heavy0 rfl rfl (OpH.storeTo (A := []) [_, _, _, _, _, _, _, _, _, _, _] rfl rfl rfl ts_57 rfl rfl rfl ?_)
    refine WL.nil ?_
    refine En.next ?_
    refine WC.seq ?_
    obtain ⟨x7_4, e7_4, h⟩ := bnd h
    refine WC.region ?_
    refine Lt.ofWL.step rfl rfl rfl (OpV.move rfl) ?_
    refine Lt.ofWL.step rfl rfl rfl (OpV.loadAll rfl (.head _) ag_57) ?_
    refine Lt.ofWL.step rfl rfl rfl (OpV.move rfl) ?_
    refine Lt.ofWL.step rfl rfl rfl (OpV.move rfl) ?_
    refine Lt.ofWL.step rfl rfl rfl (OpV.call (evs.cons rfl (evs.cons rfl (evs.cons rfl (evs.cons rfl (evs.nil))))) ca_38 (fun w hs => w_impl_PlaneOk e7_4 (Ow.rd (hs.mem (.tail _ (.head _)))))) ?_
    refine Lt.ofWL.step rfl rfl rfl (OpV.assign rfl) ?_
    refine WL.nil ?_
    refine En.next ?_
    refine WC.seq ?_
    refine WC.seq ?_
    refine WC.region ?_
    refine Lt.ofWL.step rfl rfl rfl (OpV.move rfl) ?_
    refine Lt.ofWL.step rfl rfl rfl (OpV.move rfl) ?_
    refine Lt.ofWL.step rfl rfl rfl (OpV.bneq rfl rfl ub_4) ?_
    refine WL.nil ?_
    refine En.next ?_
    refine WC.cond rfl ?_ ?_
    ·
      intro hc_2
      replace h := ifO_t hc_2 h
      refine WC.seq ?_
      refine WC.region ?_
      refine Lt.ofWL.step rfl rfl rfl (OpV.assign rfl) ?_
      refine WL.nil ?_
      refine En.next ?_
      refine WC.ret ?_
      refine En.then_ret ?_
      refine En.ret1 rfl (Res.tmp rfl) ?_
      obtain rfl := Option.some.inj h
      intro w' hs
      exact ⟨rfl, hs.below⟩
    ·
      intro hc_2
      replace h := ifO_f hc_2 h
      refine WC.skip ?_
      refine En.next ?_
      refine WC.seq ?_
      refine WC.seq ?_
      obtain ⟨x10_2, e10_2, h⟩ := bnd h
      obtain ⟨x10_3, e10_3, h⟩ := bnd h
      refine WC.drawnH [] ([_, _, _, _]) (fun _ h => h) (by kernel_rfl) ?_
      refine WAE.take (i := 0) rfl (by kernel_rfl) (by kernel_rfl) (by kernel_rfl) rfl rfl rfl (OpV.loadAll rfl (.head _) ag_57) ?_
      refine WAE.take (i := 1) rfl (by kernel_rfl) (by kernel_rfl) (by kernel_rfl) rfl rfl rfl (OpV.loadAll rfl (.tail _ (.tail _ (.tail _ (.head _)))) ag_63) ?_
      refine WAE.all (rs := [2]) (by kernel_rfl) rfl (AllR.cons rfl rfl rfl rfl ?_ AllR.nil)
      refine OpH.callR (evs.cons rfl (evs.nil)) ca_41 (fun w hs => w_laws_toPlane e10_2 (r1_0.ext hs.below)) ?_
      rintro _ _ ⟨a10_200, n10_200, c10_200, f10_200, rfl, rfl⟩
      refine ⟨[_], rfl, ?_⟩
      refine WAE.rebase (H := []) ?_
      refine WAE.take (i := 3) rfl (by kernel_rfl) (by kernel_rfl) (by kernel_rfl) rfl rfl rfl (OpV.call (evs.cons rfl (evs.cons rfl (evs.nil))) ca_44 (fun w hs => w_laws_eqPlane e10_3 (Ow.rd (hs.mem (.tail _ (.tail _ (.head _))))) (Ow.rd (hs.mem (.head _))))) ?_
      refine WAE.take (i := 4) rfl (by kernel_rfl) (by kernel_rfl) (by kernel_rfl) rfl rfl rfl (OpV.not rfl) ?_
      refine WAE.done (by kernel_rfl) ?_ _
      refine En.next ?_
      refine WC.cond rfl ?_ ?_
      ·
        intro hc_3
        replace h := ifO_t hc_3 h
        refine WC.seq ?_
        refine WC.region ?_
        refine Lt.ofWL.step rfl rfl rfl (OpV.assign rfl) ?_
        refine WL.nil ?_
        refine En.next ?_
        refine WC.ret ?_
        refine En.then_ret ?_
        refine En.ret1 rfl (Res.tmp rfl) ?_
        obtain rfl := Option.some.inj h
        intro w' hs
        exact ⟨rfl, hs.below⟩
      ·
        intro hc_3
        replace h := ifO_f hc_3 h
        refine WC.skip ?_
        refine En.next ?_
        refine WC.seq ?_
        refine WC.region ?_
        refine Lt.ofWL.step rfl rfl rfl (OpV.assign rfl) ?_
        refine WL.nil ?_
        refine En.next ?_
        refine WC.ret ?_
        refine En.ret1 rfl (Res.tmp rfl) ?_
        obtain rfl := Option.some.inj h
        intro w' hs
        exact ⟨rfl, hs.below⟩

theorem w_laws_szPlaneS {a_p0 : List PlaneT} {left_p1 : Int} {r : Int} {q0_0 : Option Addr} {n0_0 k0_0 : Nat} (h : laws_szPlaneS a_p0 left_p1 = some r) {w : World} (r0_0 : Rd tPlane w q0_0 n0_0 k0_0 a_p0)   :
    Calls Try.prog 49 #[.slice q0_0 n0_0 k0_0, .int .i64 left_p1] w (fun en w' => en = .returned (.int .i64 r) ∧ Ext w w') := by
  obtain rfl := r0_0.1
  unfold laws_szPlaneS at h
  refine enter (vs := [_, _]) Try.func49 rfl rfl rfl rfl ?_
  refine WC.seq ?_
  refine WC.region ?_
  refine Lt.ofWL.step rfl rfl rfl (OpV.assign rfl) ?_
  refine WL.nil ?_
  refine En.next ?_
  refine WC.seq ?_
  refine WC.region ?_
  refine Lt.ofWL.step rfl rfl rfl (OpV.move rfl) ?_
  refine Lt.ofWL.step rfl rfl rfl (OpV.move rfl) ?_
  refine Lt.ofWL.step rfl rfl rfl (OpV.len rfl si_74 rfl) ?_
  refine Lt.ofWL.step rfl rfl rfl (OpV.subR rfl rfl) ?_
  refine Lt.ofWL.step rfl rfl rfl (OpV.assign rfl) ?_
  refine WL.nil ?_
  refine En.next ?_
  refine WC.seq ?_
  refine WC.seq ?_
  refine WC.region ?_
  refine Lt.ofWL.step rfl rfl rfl (OpV.move rfl) ?_
  refine Lt.ofWL.step rfl rfl rfl (OpV.lss rfl rfl) ?_
  refine WL.nil ?_
  refine En.next ?_
  refine WC.cond rfl ?_ ?_
  ·
    intro hc_1
    replace h := ifO_t hc_1 h
    refine WC.seq ?_
    refine WC.region ?_
    refine Lt.ofWL.step rfl rfl rfl (OpV.assign rfl) ?_
    refine WL.nil ?_
    refine En.next ?_
    refine WC.ret ?_
    refine En.then_ret ?_
    refine En.ret1 rfl (Res.tmp rfl) ?_
    obtain rfl := Option.some.inj h
    intro w' hs
    exact ⟨rfl, hs.below⟩
  ·
    intro hc_1
    replace h := ifO_f hc_1 h
    refine WC.skip ?_
    refine En.next ?_
    refine WC.seq ?_
    refine WC.seq ?_
    refine WC.region ?_
    refine Lt.ofWL.step rfl rfl rfl (OpV.assign rfl) ?_
    refine WL.nil ?_
    refine En.next ?_
    refine WC.block ?_
    obtain ⟨zy0, ezy0, h⟩ := bnd h
    refine WC.cut (X := (Int) × (Unit)) (.exit 0) (fun x => zy0 = .inl x.1) (fun x => match x with | (left_0e, ()) => [(1, .int .i64 left_0e)]) (fun x => match x with | (left_0e, ()) => []) ?_ ?_
    ·
      rintro ⟨left_0e, ⟨⟩⟩ hx
      replace hx : .inl left_0e = zy0 := hx.symm
      subst hx
      replace h := fork_l h
      show En _ _ _ _ [(1, .int .i64 left_0e)] []
      refine En.block_exit ?_
      refine En.next ?_
      refine WC.seq ?_
      refine WC.region ?_
      refine Lt.ofWL.step rfl rfl rfl (OpV.move rfl) ?_
      refine Lt.ofWL.step rfl rfl rfl (OpV.assign rfl) ?_
      refine WL.nil ?_
      refine En.next ?_
      refine WC.ret ?_
      refine En.ret1 rfl (Res.tmp rfl) ?_
      obtain rfl := Option.some.inj h
      intro w' hs
      exact ⟨rfl, hs.below⟩
    ·
      intro zK0_0
      refine WC.loopP (G := Unit) (fun s g => match s, g with | (left_0, i_0), () => [(0, .slice q0_0 a_p0.length k0_0), (1, .int .i64 left_0), (5, .int .i64 i_0)]) (fun s g => match s, g with | (left_0, i_0), () => []) ((wr (left_p1 - (a_p0.length : Int))), 0) () ezy0 (by exact Sub.cons rfl (Sub.cons rfl (Sub.cons rfl (Sub.nil _)))) (by exact (fun _ h => h)) ?_
      rintro zm0 ⟨left_0, i_0⟩ ⟨⟩ zo0 zf0 zb0 ze0
      have zh0 : laws_szPlaneS_L0 a_p0 left_0 i_0 = some zo0 := zf0
      unfold laws_szPlaneS_L0 at zh0
      show WC _ _ _ _ _ [(0, .slice q0_0 a_p0.length k0_0), (1, .int .i64 left_0), (5, .int .i64 i_0)] []
      refine WC.seq ?_
      refine WC.seq ?_
      refine WC.region ?_
      refine Lt.ofWL.step rfl rfl rfl (OpV.move rfl) ?_
      refine Lt.ofWL.step rfl rfl rfl (OpV.move rfl) ?_
      refine Lt.ofWL.step rfl rfl rfl (OpV.len rfl si_74 rfl) ?_
      refine Lt.ofWL.step rfl rfl rfl (OpV.lss rfl rfl) ?_
      refine WL.nil ?_
      refine En.next ?_
      refine WC.cond rfl ?_ ?_
      ·
        intro hc_2
        replace zh0 := ifO_t hc_2 zh0
        refine WC.skip ?_
        refine En.next ?_
        refine WC.seq ?_
        refine WC.block ?_
        refine WC.seq ?_
        obtain ⟨x7_2, e7_2, zh0⟩ := bnd zh0
        obtain ⟨g7_2, o7_2, _, ha7_2, ⟨a7_2_1, c7_2_1, rfl, r7_2_1⟩, hd7_2⟩ := Rd.atIdx r0_0 e7_2
        replace hd7_2 : ∀ (j : Nat) v, ([.bool x7_2.On, .int .i64 x7_2.X, .int .i64 x7_2.Y, .int .i64 x7_2.W, .int .i64 x7_2.H, .int .i64 x7_2.Layout, .slice a7_2_1 x7_2.Words.length c7_2_1, .int .i64 x7_2.Alpha, .int .i64 x7_2.Orient, .int .i64 x7_2.ToW, .int .i64 x7_2.ToH] : List Value)[j]? = some v → w.cell? ⟨g7_2, o7_2 + i_0.toNat * 11 + j, .none⟩ = some v := hd7_2
        obtain ⟨x7_5, e7_5, zh0⟩ := bnd zh0
        refine WC.region ?_
        refine Lt.ofWL.step rfl rfl rfl (OpV.move rfl) ?_
        refine Lt.ofWL.step rfl rfl rfl (OpV.move rfl) ?_
        refine Lt.ofWL.step rfl rfl rfl (OpV.idxA rfl rfl se_74 ha7_2 ⟨(idx_some e7_2).1, (idx_some e7_2).2.1⟩) ?_
        refine Lt.ofWL.step rfl rfl rfl (OpV.loadN rfl ag_63 rfl (fun w hs => hs.cellsAt hd7_2)) ?_
        refine Lt.ofWL.step rfl rfl rfl (OpV.move rfl) ?_
        refine Lt.ofWL.step rfl rfl rfl (OpV.call (evs.cons rfl (evs.cons rfl (evs.nil))) ca_39 (fun w hs => w_laws_szPlane e7_5 (r7_2_1.ext hs.below))) ?_
        refine Lt.ofWL.step rfl rfl rfl (OpV.assign rfl) ?_
        refine WL.nil ?_
        refine En.next ?_
        refine WC.seq ?_
        refine WC.region ?_
        refine Lt.ofWL.step rfl rfl rfl (OpV.move rfl) ?_
        refine Lt.ofWL.step rfl rfl rfl (OpV.lss rfl rfl) ?_
        refine WL.nil ?_
        refine En.next ?_
        refine WC.cond rfl ?_ ?_
        ·
          intro hc_3
          replace zh0 := ifO_t hc_3 zh0
          refine WC.seq ?_
          refine WC.region ?_
          refine Lt.ofWL.step rfl rfl rfl (OpV.assign rfl) ?_
          refine WL.nil ?_
          refine En.next ?_
          refine WC.ret ?_
          refine En.block_ret ?_
          refine En.then_ret ?_
          refine En.then_ret ?_
          refine En.block_ret ?_
          refine En.then_ret ?_
          refine En.ret1 rfl (Res.tmp rfl) ?_
          have hx := exitP ze0 zh0
          subst hx
          replace h := fork_r h
          obtain rfl := Option.some.inj h
          intro w' hs
          exact ⟨rfl, hs.below⟩
        ·
          intro hc_3
          replace zh0 := ifO_f hc_3 zh0
          refine WC.skip ?_
          refine En.block_norm ?_
          refine En.next ?_
          refine WC.region ?_
          refine Lt.ofWL.step rfl rfl rfl (OpV.move rfl) ?_
          refine Lt.ofWL.step rfl rfl rfl (OpV.addR rfl rfl) ?_
          refine Lt.ofWL.step rfl rfl rfl (OpV.assign rfl) ?_
          refine WL.nil ?_
          exact En.backP zb0 zh0 () (Sub.cons rfl (Sub.cons rfl (Sub.cons rfl (Sub.nil _)))) (fun _ h => h)
      ·
        intro hc_2
        replace zh0 := ifO_f hc_2 zh0
        refine WC.exit ?_
        refine En.then_exit ?_
        refine En.then_exit ?_
        have hx := exitP ze0 zh0
        exact En.wk _ _ (Sub.cons rfl (Sub.nil _)) (fun _ h => h) (zK0_0 (left_0, ()) hx.symm)

theorem w_laws_toPlaneS {a_p0 : List PlaneT} {r : (List PlaneT)} {q0_0 : Option Addr} {n0_0 k0_0 : Nat} (h : laws_toPlaneS a_p0 = some r) {w : World} (r0_0 : Rd tPlane w q0_0 n0_0 k0_0 a_p0)   :
    Calls Try.prog 51 #[.slice q0_0 n0_0 k0_0] w (fun en w' => ∃ rv G, en = .returned rv ∧ (∃ (a0_0 : Option Addr) (n0_0 : Nat) (c0_0 : Nat) (f0_0 : List Nat), rv = .slice a0_0 n0_0 c0_0 ∧ G = [Chunk.own tPlane f0_0 a0_0 n0_0 c0_0 r]) ∧ St w G w') := by
  obtain rfl := r0_0.1
  unfold laws_toPlaneS at h
  refine enter (vs := [_]) Try.func51 rfl rfl rfl rfl ?_
  refine WC.seq ?_
  refine WC.region ?_
  refine Lt.ofWL.step rfl rfl rfl (OpV.assign rfl) ?_
  refine WL.nil ?_
  refine En.next ?_
  refine WC.seq ?_
  obtain ⟨x1_2, e1_2, h⟩ := bnd h
  refine WC.region ?_
  refine Lt.ofWL.step rfl rfl rfl (OpV.move rfl) ?_
  refine Lt.ofWL.step rfl rfl rfl (OpV.len rfl si_74 rfl) ?_
  refine WL.heavy rfl rfl rfl (OpH.makeO (A := tPlane) rfl rfl mi_53 tPlane_zero (by decide) e1_2 ⟨Int.le_refl _, (mkO_some e1_2).1.2⟩ ?_)
  intro b1_2
  refine Lt.ofWL.step rfl rfl rfl (OpV.assign rfl) ?_
  refine WL.nil ?_
  refine En.next ?_
  refine WC.seq ?_
  refine WC.seq ?_
  refine WC.region ?_
  refine Lt.ofWL.step rfl rfl rfl (OpV.assign rfl) ?_
  refine WL.nil ?_
  refine En.next ?_
  refine WC.block ?_
  obtain ⟨zy0, ezy0, h⟩ := bnd h
  refine WC.cut (X := ((List PlaneT)) × ((List Nat))) (.exit 0) (fun x => zy0 = x.1) (fun x => match x with | (out_0e, fout_0e) => [(3, .slice (some ⟨b1_2, 0, .none⟩) x1_2.length ((a_p0.length : Int).toNat))]) (fun x => match x with | (out_0e, fout_0e) => [Chunk.own tPlane fout_0e (some ⟨b1_2, 0, .none⟩) x1_2.length ((a_p0.length : Int).toNat) out_0e]) ?_ ?_
  ·
    rintro ⟨out_0e, fout_0e⟩ hx
    replace hx : out_0e = zy0 := hx.symm
    subst hx
    show En _ _ _ _ [(3, .slice (some ⟨b1_2, 0, .none⟩) x1_2.length ((a_p0.length : Int).toNat))] [Chunk.own tPlane fout_0e (some ⟨b1_2, 0, .none⟩) x1_2.length ((a_p0.length : Int).toNat) out_0e]
    refine En.block_exit ?_
    refine En.next ?_
    refine WC.seq ?_
    refine WC.region ?_
    refine Lt.ofWL.step rfl rfl rfl (OpV.move rfl) ?_
    refine Lt.ofWL.step rfl rfl rfl (OpV.assign rfl) ?_
    refine WL.nil ?_
    refine En.next ?_
    refine WC.ret ?_
    refine En.ret1 rfl (Res.tmp rfl) ?_
    obtain rfl := Option.some.inj h
    intro w' hs
    have hs := hs
    exact ⟨_, _, rfl, ⟨(some ⟨b1_2, 0, .none⟩), x1_2.length, ((a_p0.length : Int).toNat), fout_0e, rfl, rfl⟩, hs⟩
  ·
    intro zK0_0
    refine WC.loopP (G := (List Nat)) (fun s g => match s, g with | (out_0, i_0), fout_0 => [(0, .slice q0_0 a_p0.length k0_0), (3, .slice (some ⟨b1_2, 0, .none⟩) x1_2.length ((a_p0.length : Int).toNat)), (4, .int .i64 i_0)]) (fun s g => match s, g with | (out_0, i_0), fout_0 => [Chunk.own tPlane fout_0 (some ⟨b1_2, 0, .none⟩) x1_2.length ((a_p0.length : Int).toNat) out_0]) (x1_2, 0) [b1_2] ezy0 (by exact Sub.cons rfl (Sub.cons rfl (Sub.cons rfl (Sub.nil _)))) (by exact (fun _ h => h)) ?_
    rintro zm0 ⟨out_0, i_0⟩ fout_0 zo0 zf0 zb0 ze0
    have zh0 : laws_toPlaneS_L0 a_p0 out_0 i_0 = some zo0 := zf0
    unfold laws_toPlaneS_L0 at zh0
    show WC _ _ _ _ _ [(0, .slice q0_0 a_p0.length k0_0), (3, .slice (some ⟨b1_2, 0, .none⟩) x1_2.length ((a_p0.length : Int).toNat)), (4, .int .i64 i_0)] [Chunk.own tPlane fout_0 (some ⟨b1_2, 0, .none⟩) x1_2.length ((a_p0.length : Int).toNat) out_0]
    refine WC.seq ?_
    refine WC.seq ?_
    refine WC.region ?_
    refine Lt.ofWL.step rfl rfl rfl (OpV.move rfl) ?_
    refine Lt.ofWL.step rfl rfl rfl (OpV.move rfl) ?_
    refine Lt.ofWL.step rfl rfl rfl (OpV.len rfl si_74 rfl) ?_
    refine Lt.ofWL.step rfl rfl rfl (OpV.lss rfl rfl) ?_
    refine WL.nil ?_
    refine En.next ?_
    refine WC.cond rfl ?_ ?_
    ·
      intro hc_1
      replace zh0 := ifO_t hc_1 zh0
      refine WC.skip ?_
      refine En.next ?_
      refine WC.seq ?_
      refine WC.block ?_
      refine WC.inh fun hin5 => ?_
      obtain ⟨x5_4, e5_4, zh0⟩ := bnd zh0
      obtain ⟨g5_4, o5_4, _, ha5_4, ⟨a5_4_1, c5_4_1, rfl, r5_4_1⟩, hd5_4⟩ := Rd.atIdx r0_0 e5_4
      replace hd5_4 : ∀ (j : Nat) v, ([.bool x5_4.On, .int .i64 x5_4.X, .int .i64 x5_4.Y, .int .i64 x5_4.W, .int .i64 x5_4.H, .int .i64 x5_4.Layout, .slice a5_4_1 x5_4.Words.length c5_4_1, .int .i64 x5_4.Alpha, .int .i64 x5_4.Orient, .int .i64 x5_4.ToW, .int .i64 x5_4.ToH] : List Value)[j]? = some v → w.cell? ⟨g5_4, o5_4 + i_0.toNat * 11 + j, .none⟩ = some v := hd5_4
      obtain ⟨x5_6, e5_6, zh0⟩ := bnd zh0
      have hn5_7 := ownLen hin5 (.head _)
      obtain ⟨x5_8, e5_8, zh0⟩ := bnd zh0
      obtain ⟨g5_7, ha5_7⟩ := ownAddrU hin5 (.head _) e5_8
      refine WC.region ?_
      refine Lt.ofWL.step rfl rfl rfl (OpV.move rfl) ?_
      refine Lt.ofWL.step rfl rfl rfl (OpV.move rfl) ?_
      refine Lt.ofWL.step rfl rfl rfl (OpV.move rfl) ?_
      refine Lt.ofWL.step rfl rfl rfl (OpV.move rfl) ?_
      refine Lt.ofWL.step rfl rfl rfl (OpV.idxA rfl rfl se_74 ha5_4 ⟨(idx_some e5_4).1, (idx_some e5_4).2.1⟩) ?_
      refine Lt.ofWL.step rfl rfl rfl (OpV.loadN rfl ag_63 rfl (fun w hs => hs.cellsAt hd5_4)) ?_
      refine WL.heavy rfl rfl rfl (OpH.callR (evs.cons rfl (evs.nil)) ca_41 (fun w hs => w_laws_toPlane e5_6 (r5_4_1.ext hs.below)) ?_)
      rintro _ _ ⟨a5_600, n5_600, c5_600, f5_600, rfl, rfl⟩
      refine Lt.ofWL.step rfl rfl rfl (OpV.idxA rfl rfl se_53 ha5_7 ⟨(upd_some e5_8).1.1, by rw [hn5_7]; exact (upd_some e5_8).1.2⟩) ?_
      refine WL.wkF (fun _ h => tPlane_mk x5_6.On x5_6.X x5_6.Y x5_6.W x5_6.H x5_6.Layout x5_6.Words x5_6.Alpha x5_6.Orient x5_6.ToW x5_6.ToH h) ?_
      refine WL.heavy0 rfl rfl (OpH.setEl (A := tPlane) ha5_7 rfl rfl rfl ts_57 e5_8 ?_)
      intro f5_8
      refine WL.nil ?_
      refine En.block_norm ?_
      refine En.next ?_
      refine WC.region ?_
      refine Lt.ofWL.step rfl rfl rfl (OpV.move rfl) ?_
      refine Lt.ofWL.step rfl rfl rfl (OpV.addR rfl rfl) ?_
      refine Lt.ofWL.step rfl rfl rfl (OpV.assign rfl) ?_
      refine WL.nil ?_
      exact En.backP zb0 zh0 f5_8 (Sub.cons rfl (Sub.cons rfl (Sub.cons rfl (Sub.nil _)))) (fun _ h => h)
    ·
      intro hc_1
      replace zh0 := ifO_f hc_1 zh0
      refine WC.exit ?_
      refine En.then_exit ?_
      refine En.then_exit ?_
      have hx := exitP ze0 zh0
      exact En.wk _ _ (Sub.cons rfl (Sub.nil _)) (fun _ h => h) (zK0_0 (out_0, fout_0) hx.symm)

theorem w_spec_PlanesOk {list_p0 : List PlaneT} {w_p1 : Int} {h_p2 : Int} {r : Bool} {q0_0 : Option Addr} {n0_0 k0_0 : Nat} (h : spec_PlanesOk list_p0 w_p1 h_p2 = some r) {w : World} (r0_0 : Rd tPlane w q0_0 n0_0 k0_0 list_p0)   :
    Calls Try.prog 50 #[.slice q0_0 n0_0 k0_0, .int .i64 w_p1, .int .i64 h_p2] w (fun en w' => en = .returned (.bool r) ∧ Ext w w') := by
  obtain rfl := r0_0.1
  unfold spec_PlanesOk at h
  refine enter (vs := [_, _, _]) Try.func50 rfl rfl rfl rfl ?_
  refine WC.seq ?_
  refine WC.region ?_
  refine Lt.ofWL.step rfl rfl rfl (OpV.assign rfl) ?_
  refine WL.nil ?_
  refine En.next ?_
  refine WC.seq ?_
  refine WC.seq ?_
  refine WC.region ?_
  refine Lt.ofWL.step rfl rfl rfl (OpV.move rfl) ?_
  refine Lt.ofWL.step rfl rfl rfl (OpV.len rfl si_53 rfl) ?_
  refine Lt.ofWL.step rfl rfl rfl (OpV.neq rfl rfl) ?_
  refine WL.nil ?_
  refine En.next ?_
  refine WC.cond rfl ?_ ?_
  ·
    intro hc_1
    replace h := ifO_t hc_1 h
    refine WC.seq ?_
    refine WC.region ?_
    refine Lt.ofWL.step rfl rfl rfl (OpV.assign rfl) ?_
    refine WL.nil ?_
    refine En.next ?_
    refine WC.ret ?_
    refine En.then_ret ?_
    refine En.ret1 rfl (Res.tmp rfl) ?_
    obtain rfl := Option.some.inj h
    intro w' hs
    exact ⟨rfl, hs.below⟩
  ·
    intro hc_1
    replace h := ifO_f hc_1 h
    refine WC.skip ?_
    refine En.next ?_
    refine WC.seq ?_
    refine WC.seq ?_
    refine WC.region ?_
    refine Lt.ofWL.step rfl rfl rfl (OpV.assign rfl) ?_
    refine WL.nil ?_
    refine En.next ?_
    refine WC.block ?_
    obtain ⟨zy0, ezy0, h⟩ := bnd h
    refine WC.cut (X := (Unit) × (Unit)) (.exit 0) (fun x => zy0 = .inl x.1) (fun x => match x with | ((), ()) => [(0, .slice q0_0 list_p0.length k0_0)]) (fun x => match x with | ((), ()) => []) ?_ ?_
    ·
      rintro ⟨⟨⟩, ⟨⟩⟩ hx
      replace hx : .inl () = zy0 := hx.symm
      subst hx
      replace h := fork_l h
      show En _ _ _ _ [(0, .slice q0_0 list_p0.length k0_0)] []
      refine En.block_exit ?_
      refine En.next ?_
      refine WC.seq ?_
      obtain ⟨x8_1, e8_1, h⟩ := bnd h
      obtain ⟨g8_1, o8_1, _, ha8_1, ⟨a8_1_1, c8_1_1, rfl, r8_1_1⟩, hd8_1⟩ := Rd.atIdx r0_0 e8_1
      replace hd8_1 : ∀ (j : Nat) v, ([.bool x8_1.On, .int .i64 x8_1.X, .int .i64 x8_1.Y, .int .i64 x8_1.W, .int .i64 x8_1.H, .int .i64 x8_1.Layout, .slice a8_1_1 x8_1.Words.length c8_1_1, .int .i64 x8_1.Alpha, .int .i64 x8_1.Orient, .int .i64 x8_1.ToW, .int .i64 x8_1.ToH] : List Value)[j]? = some v → w.cell? ⟨g8_1, o8_1 + (Int.toNat 1) * 11 + j, .none⟩ = some v := hd8_1
      obtain ⟨q8_11, e8_11, h⟩ := bnd h
      refine WC.region ?_
      refine Lt.ofWL.step rfl rfl rfl (OpV.move rfl) ?_
      refine Lt.ofWL.step rfl rfl rfl (OpV.idxA rfl rfl se_53 ha8_1 ⟨(idx_some e8_1).1, (idx_some e8_1).2.1⟩) ?_
      refine Lt.ofWL.step rfl rfl rfl (OpV.fieldAddr rfl fo_57_9) ?_
      refine Lt.ofWL.step rfl rfl rfl (OpV.load1 rfl pt_3 (fun w hs => hs.cell (hd8_1 9 _ rfl))) ?_
      refine Lt.ofWL.step rfl rfl rfl (OpV.eql rfl rfl) ?_
      refine Lt.ofWL.step rfl rfl rfl (OpV.move rfl) ?_
      refine Lt.ofWL.orQ 31 37 36 (p := ?pz1) (rest := ?qz1) (B := q8_11) rfl (fun hz => orO_t e8_11 hz) ?Tz1 ?Fz1 ?az1 ?bz1 ?cz1 ?dz1 ?ez1
      case Tz1 =>
        intro hcz1 hkz1
        refine Lt.ofWL.skip rfl rfl rfl ?_
        refine Lt.ofWL.skip rfl rfl rfl ?_
        refine Lt.ofWL.skip rfl rfl rfl ?_
        refine Lt.ofWL.skip rfl rfl rfl ?_
        refine Lt.ofWL.skip rfl rfl rfl ?_
        refine hkz1 _ ?_
        repeat (first | exact Sub.refl _ | refine Sub.skip rfl ?_)
      case Fz1 =>
        intro hcz1 hkz1
        have hqz1 := orO_f e8_11 hcz1
        obtain ⟨x8_7, e8_7, hqz1⟩ := bnd hqz1
        obtain ⟨g8_7, o8_7, _, ha8_7, ⟨a8_7_1, c8_7_1, rfl, r8_7_1⟩, hd8_7⟩ := Rd.atIdx r0_0 e8_7
        replace hd8_7 : ∀ (j : Nat) v, ([.bool x8_7.On, .int .i64 x8_7.X, .int .i64 x8_7.Y, .int .i64 x8_7.W, .int .i64 x8_7.H, .int .i64 x8_7.Layout, .slice a8_7_1 x8_7.Words.length c8_7_1, .int .i64 x8_7.Alpha, .int .i64 x8_7.Orient, .int .i64 x8_7.ToW, .int .i64 x8_7.ToH] : List Value)[j]? = some v → w.cell? ⟨g8_7, o8_7 + (Int.toNat 2) * 11 + j, .none⟩ = some v := hd8_7
        obtain rfl := Option.some.inj hqz1
        refine Lt.ofWL.step rfl rfl rfl (OpV.move rfl) ?_
        refine Lt.ofWL.step rfl rfl rfl (OpV.idxA rfl rfl se_53 ha8_7 ⟨(idx_some e8_7).1, (idx_some e8_7).2.1⟩) ?_
        refine Lt.ofWL.step rfl rfl rfl (OpV.fieldAddr rfl fo_57_9) ?_
        refine Lt.ofWL.step rfl rfl rfl (OpV.load1 rfl pt_3 (fun w hs => hs.cell (hd8_7 9 _ rfl))) ?_
        refine Lt.ofWL.step rfl rfl rfl (OpV.eql rfl rfl) ?_
        refine hkz1 _ ?_ ?_
        exact rfl
        repeat (first | exact Sub.refl _ | refine Sub.skip rfl ?_)
      case az1 => exact rfl
      case bz1 => exact rfl
      case cz1 => exact rfl
      case dz1 => exact rfl
      refine Lt.ofWL.step rfl rfl rfl (OpV.assign rfl) ?_
      refine WL.nil ?_
      refine En.next ?_
      refine WC.ret ?_
      refine En.ret1 rfl (Res.tmp rfl) ?_
      obtain rfl := Option.some.inj h
      intro w' hs
      exact ⟨rfl, hs.below⟩
    ·
      intro zK0_0
      refine WC.loopP (G := Unit) (fun s g => match s, g with | k_0, () => [(0, .slice q0_0 list_p0.length k0_0), (1, .int .i64 w_p1), (2, .int .i64 h_p2), (7, .int .i64 k_0)]) (fun s g => match s, g with | k_0, () => []) 0 () ezy0 (by exact Sub.cons rfl (Sub.cons rfl (Sub.cons rfl (Sub.cons rfl (Sub.nil _))))) (by exact (fun _ h => h)) ?_
      rintro zm0 k_0 ⟨⟩ zo0 zf0 zb0 ze0
      have zh0 : spec_PlanesOk_L0 list_p0 w_p1 h_p2 k_0 = some zo0 := zf0
      unfold spec_PlanesOk_L0 at zh0
      show WC _ _ _ _ _ [(0, .slice q0_0 list_p0.length k0_0), (1, .int .i64 w_p1), (2, .int .i64 h_p2), (7, .int .i64 k_0)] []
      refine WC.seq ?_
      refine WC.seq ?_
      refine WC.region ?_
      refine Lt.ofWL.step rfl rfl rfl (OpV.move rfl) ?_
      refine Lt.ofWL.step rfl rfl rfl (OpV.move rfl) ?_
      refine Lt.ofWL.step rfl rfl rfl (OpV.len rfl si_53 rfl) ?_
      refine Lt.ofWL.step rfl rfl rfl (OpV.lss rfl rfl) ?_
      refine WL.nil ?_
      refine En.next ?_
      refine WC.cond rfl ?_ ?_
      ·
        intro hc_2
        replace zh0 := ifO_t hc_2 zh0
        refine WC.skip ?_
        refine En.next ?_
        refine WC.seq ?_
        refine WC.block ?_
        refine WC.seq ?_
        obtain ⟨x6_3, e6_3, zh0⟩ := bnd zh0
        obtain ⟨g6_3, o6_3, _, ha6_3, ⟨a6_3_1, c6_3_1, rfl, r6_3_1⟩, hd6_3⟩ := Rd.atIdx r0_0 e6_3
        replace hd6_3 : ∀ (j : Nat) v, ([.bool x6_3.On, .int .i64 x6_3.X, .int .i64 x6_3.Y, .int .i64 x6_3.W, .int .i64 x6_3.H, .int .i64 x6_3.Layout, .slice a6_3_1 x6_3.Words.length c6_3_1, .int .i64 x6_3.Alpha, .int .i64 x6_3.Orient, .int .i64 x6_3.ToW, .int .i64 x6_3.ToH] : List Value)[j]? = some v → w.cell? ⟨g6_3, o6_3 + k_0.toNat * 11 + j, .none⟩ = some v := hd6_3
        obtain ⟨x6_7, e6_7, zh0⟩ := bnd zh0
        refine WC.region ?_
        refine Lt.ofWL.step rfl rfl rfl (OpV.move rfl) ?_
        refine Lt.ofWL.step rfl rfl rfl (OpV.move rfl) ?_
        refine Lt.ofWL.step rfl rfl rfl (OpV.move rfl) ?_
        refine Lt.ofWL.step rfl rfl rfl (OpV.idxA rfl rfl se_53 ha6_3 ⟨(idx_some e6_3).1, (idx_some e6_3).2.1⟩) ?_
        refine Lt.ofWL.step rfl rfl rfl (OpV.loadN rfl ag_57 rfl (fun w hs => hs.cellsAt hd6_3)) ?_
        refine Lt.ofWL.step rfl rfl rfl (OpV.move rfl) ?_
        refine Lt.ofWL.step rfl rfl rfl (OpV.move rfl) ?_
        refine Lt.ofWL.step rfl rfl rfl (OpV.call (evs.cons rfl (evs.cons rfl (evs.cons rfl (evs.cons rfl (evs.nil))))) ca_48 (fun w hs => w_spec_PlaneOk e6_7 (r6_3_1.ext hs.below))) ?_
        refine Lt.ofWL.step rfl rfl rfl (OpV.not rfl) ?_
        refine WL.nil ?_
        refine En.next ?_
        refine WC.cond rfl ?_ ?_
        ·
          intro hc_3
          replace zh0 := ifO_t hc_3 zh0
          refine WC.seq ?_
          refine WC.region ?_
          refine Lt.ofWL.step rfl rfl rfl (OpV.assign rfl) ?_
          refine WL.nil ?_
          refine En.next ?_
          refine WC.ret ?_
          refine En.block_ret ?_
          refine En.then_ret ?_
          refine En.then_ret ?_
          refine En.block_ret ?_
          refine En.then_ret ?_
          refine En.ret1 rfl (Res.tmp rfl) ?_
          have hx := exitP ze0 zh0
          subst hx
          replace h := fork_r h
          obtain rfl := Option.some.inj h
          intro w' hs
          exact ⟨rfl, hs.below⟩
        ·
          intro hc_3
          replace zh0 := ifO_f hc_3 zh0
          refine WC.skip ?_
          refine En.block_norm ?_
          refine En.next ?_
          refine WC.region ?_
          refine Lt.ofWL.step rfl rfl rfl (OpV.move rfl) ?_
          refine Lt.ofWL.step rfl rfl rfl (OpV.addR rfl rfl) ?_
          refine Lt.ofWL.step rfl rfl rfl (OpV.assign rfl) ?_
          refine WL.nil ?_
          exact En.backP zb0 zh0 () (Sub.cons rfl (Sub.cons rfl (Sub.cons rfl (Sub.cons rfl (Sub.nil _))))) (fun _ h => h)
      ·
        intro hc_2
        replace zh0 := ifO_f hc_2 zh0
        refine WC.exit ?_
        refine En.then_exit ?_
        refine En.then_exit ?_
        have hx := exitP ze0 zh0
        exact En.wk _ _ (Sub.cons rfl (Sub.nil _)) (fun _ h => h) (zK0_0 ((), ()) hx.symm)

theorem w_impl_PlanesOk {list_p0 : List PlaneT} {w_p1 : Int} {h_p2 : Int} {r : Bool} {q0_0 : Option Addr} {n0_0 k0_0 : Nat} (h : impl_PlanesOk list_p0 w_p1 h_p2 = some r) {w : World} (r0_0 : Rd tPlane w q0_0 n0_0 k0_0 list_p0)   :
    Calls Try.prog 37 #[.slice q0_0 n0_0 k0_0, .int .i64 w_p1, .int .i64 h_p2] w (fun en w' => en = .returned (.bool r) ∧ Ext w w') := by
  obtain rfl := r0_0.1
  unfold impl_PlanesOk at h
  refine enter (vs := [_, _, _]) Try.func37 rfl rfl rfl rfl ?_
  refine WC.seq ?_
  refine WC.region ?_
  refine Lt.ofWL.step rfl rfl rfl (OpV.assign rfl) ?_
  refine WL.nil ?_
  refine En.next ?_
  refine WC.seq ?_
  refine WC.seq ?_
  obtain ⟨q1_16, e1_16, h⟩ := bnd h
  refine WC.region ?_
  refine Lt.ofWL.step rfl rfl rfl (OpV.move rfl) ?_
  refine Lt.ofWL.step rfl rfl rfl (OpV.len rfl si_53 rfl) ?_
  refine Lt.ofWL.step rfl rfl rfl (OpV.neq rfl rfl) ?_
  refine Lt.ofWL.step rfl rfl rfl (OpV.move rfl) ?_
  refine Lt.ofWL.orQ 12 25 24 (p := ?pz1) (rest := ?qz1) (B := q1_16) rfl (fun hz => orO_t e1_16 hz) ?Tz1 ?Fz1 ?az1 ?bz1 ?cz1 ?dz1 ?ez1
  case Tz1 =>
    intro hcz1 hkz1
    refine Lt.ofWL.skip rfl rfl rfl ?_
    refine Lt.ofWL.skip rfl rfl rfl ?_
    refine Lt.ofWL.skip rfl rfl rfl ?_
    refine Lt.ofWL.skip rfl rfl rfl ?_
    refine Lt.ofWL.skip rfl rfl rfl ?_
    refine Lt.ofWL.skip rfl rfl rfl ?_
    refine Lt.ofWL.skip rfl rfl rfl ?_
    refine Lt.ofWL.skip rfl rfl rfl ?_
    refine Lt.ofWL.skip rfl rfl rfl ?_
    refine Lt.ofWL.skip rfl rfl rfl ?_
    refine Lt.ofWL.skip rfl rfl rfl ?_
    refine Lt.ofWL.skip rfl rfl rfl ?_
    refine hkz1 _ ?_
    repeat (first | exact Sub.refl _ | refine Sub.skip rfl ?_)
  case Fz1 =>
    intro hcz1 hkz1
    have hqz1 := orO_f e1_16 hcz1
    obtain ⟨x1_5, e1_5, hqz1⟩ := bnd hqz1
    obtain ⟨g1_5, o1_5, _, ha1_5, ⟨a1_5_1, c1_5_1, rfl, r1_5_1⟩, hd1_5⟩ := Rd.atIdx r0_0 e1_5
    replace hd1_5 : ∀ (j : Nat) v, ([.bool x1_5.On, .int .i64 x1_5.X, .int .i64 x1_5.Y, .int .i64 x1_5.W, .int .i64 x1_5.H, .int .i64 x1_5.Layout, .slice a1_5_1 x1_5.Words.length c1_5_1, .int .i64 x1_5.Alpha, .int .i64 x1_5.Orient, .int .i64 x1_5.ToW, .int .i64 x1_5.ToH] : List Value)[j]? = some v → w.cell? ⟨g1_5, o1_5 + (Int.toNat 1) * 11 + j, .none⟩ = some v := hd1_5
    obtain ⟨q1_15, e1_15, hqz1⟩ := bnd hqz1
    obtain rfl := Option.some.inj hqz1
    refine Lt.ofWL.step rfl rfl rfl (OpV.move rfl) ?_
    refine Lt.ofWL.step rfl rfl rfl (OpV.idxA rfl rfl se_53 ha1_5 ⟨(idx_some e1_5).1, (idx_some e1_5).2.1⟩) ?_
    refine Lt.ofWL.step rfl rfl rfl (OpV.fieldAddr rfl fo_57_9) ?_
    refine Lt.ofWL.step rfl rfl rfl (OpV.load1 rfl pt_3 (fun w hs => hs.cell (hd1_5 9 _ rfl))) ?_
    refine Lt.ofWL.step rfl rfl rfl (OpV.neq rfl rfl) ?_
    refine Lt.ofWL.step rfl rfl rfl (OpV.move rfl) ?_
    refine Lt.ofWL.andQ 18 24 23 (p := ?pz2) (rest := ?qz2) (B := q1_15) rfl (fun hz => andO_f e1_15 hz) ?Tz2 ?Fz2 ?az2 ?bz2 ?cz2 ?dz2 ?ez2
    case Tz2 =>
      intro hcz2 hkz2
      have hqz2 := andO_t e1_15 hcz2
      obtain ⟨x1_11, e1_11, hqz2⟩ := bnd hqz2
      obtain ⟨g1_11, o1_11, _, ha1_11, ⟨a1_11_1, c1_11_1, rfl, r1_11_1⟩, hd1_11⟩ := Rd.atIdx r0_0 e1_11
      replace hd1_11 : ∀ (j : Nat) v, ([.bool x1_11.On, .int .i64 x1_11.X, .int .i64 x1_11.Y, .int .i64 x1_11.W, .int .i64 x1_11.H, .int .i64 x1_11.Layout, .slice a1_11_1 x1_11.Words.length c1_11_1, .int .i64 x1_11.Alpha, .int .i64 x1_11.Orient, .int .i64 x1_11.ToW, .int .i64 x1_11.ToH] : List Value)[j]? = some v → w.cell? ⟨g1_11, o1_11 + (Int.toNat 2) * 11 + j, .none⟩ = some v := hd1_11
      obtain rfl := Option.some.inj hqz2
      refine Lt.ofWL.step rfl rfl rfl (OpV.move rfl) ?_
      refine Lt.ofWL.step rfl rfl rfl (OpV.idxA rfl rfl se_53 ha1_11 ⟨(idx_some e1_11).1, (idx_some e1_11).2.1⟩) ?_
      refine Lt.ofWL.step rfl rfl rfl (OpV.fieldAddr rfl fo_57_9) ?_
      refine Lt.ofWL.step rfl rfl rfl (OpV.load1 rfl pt_3 (fun w hs => hs.cell (hd1_11 9 _ rfl))) ?_
      refine Lt.ofWL.step rfl rfl rfl (OpV.neq rfl rfl) ?_
      refine hkz2 _ ?_ ?_
      exact rfl
      repeat (first | exact Sub.refl _ | refine Sub.skip rfl ?_)
    case Fz2 =>
      intro hcz2 hkz2
      refine Lt.ofWL.skip rfl rfl rfl ?_
      refine Lt.ofWL.skip rfl rfl rfl ?_
      refine Lt.ofWL.skip rfl rfl rfl ?_
      refine Lt.ofWL.skip rfl rfl rfl ?_
      refine Lt.ofWL.skip rfl rfl rfl ?_
      refine hkz2 _ ?_
      repeat (first | exact Sub.refl _ | refine Sub.skip rfl ?_)
    case az2 => exact rfl
    case bz2 => exact rfl
    case cz2 => exact rfl
    case dz2 => exact rfl
    refine hkz1 _ ?_ ?_
    exact rfl
    repeat (first | exact Sub.refl _ | refine Sub.skip rfl ?_)
  case az1 => exact rfl
  case bz1 => exact rfl
  case cz1 => exact rfl
  case dz1 => exact rfl
  refine WL.nil ?_
  refine En.next ?_
  refine WC.cond rfl ?_ ?_
  ·
    intro hc_1
    replace h := ifO_t hc_1 h
    refine WC.seq ?_
    refine WC.region ?_
    refine Lt.ofWL.step rfl rfl rfl (OpV.assign rfl) ?_
    refine WL.nil ?_
    refine En.next ?_
    refine WC.ret ?_
    refine En.then_ret ?_
    refine En.ret1 rfl (Res.tmp rfl) ?_
    obtain rfl := Option.some.inj h
    intro w' hs
    exact ⟨rfl, hs.below⟩
  ·
    intro hc_1
    replace h := ifO_f hc_1 h
    refine WC.skip ?_
    refine En.next ?_
    refine WC.seq ?_
    refine WC.seq ?_
    refine WC.region ?_
    refine Lt.ofWL.step rfl rfl rfl (OpV.move rfl) ?_
    refine Lt.ofWL.step rfl rfl rfl (OpV.len rfl si_53 rfl) ?_
    refine Lt.ofWL.step rfl rfl rfl (OpV.move rfl) ?_
    refine WL.nil ?_
    refine En.next ?_
    refine WC.block ?_
    obtain ⟨zy0, ezy0, h⟩ := bnd h
    refine WC.cut (X := (Unit) × (Unit)) (.exit 0) (fun x => zy0 = .inl x.1) (fun x => match x with | ((), ()) => []) (fun x => match x with | ((), ()) => []) ?_ ?_
    ·
      rintro ⟨⟨⟩, ⟨⟩⟩ hx
      replace hx : .inl () = zy0 := hx.symm
      subst hx
      replace h := fork_l h
      show En _ _ _ _ [] []
      refine En.block_exit ?_
      refine En.next ?_
      refine WC.seq ?_
      refine WC.region ?_
      refine Lt.ofWL.step rfl rfl rfl (OpV.assign rfl) ?_
      refine WL.nil ?_
      refine En.next ?_
      refine WC.ret ?_
      refine En.ret1 rfl (Res.tmp rfl) ?_
      obtain rfl := Option.some.inj h
      intro w' hs
      exact ⟨rfl, hs.below⟩
    ·
      intro zK0_0
      refine WC.loopP (G := Unit) (fun s g => match s, g with | v_0, () => [(1, .int .i64 w_p1), (2, .int .i64 h_p2), (26, .slice q0_0 list_p0.length k0_0), (27, .int .i64 (list_p0.length : Int)), (28, .int .i64 v_0)]) (fun s g => match s, g with | v_0, () => []) 0 () ezy0 (by exact Sub.cons rfl (Sub.cons rfl (Sub.cons rfl (Sub.cons rfl (Sub.cons rfl (Sub.nil _)))))) (by exact (fun _ h => h)) ?_
      rintro zm0 v_0 ⟨⟩ zo0 zf0 zb0 ze0
      have zh0 : impl_PlanesOk_L0 list_p0 w_p1 h_p2 v_0 = some zo0 := zf0
      unfold impl_PlanesOk_L0 at zh0
      show WC _ _ _ _ _ [(1, .int .i64 w_p1), (2, .int .i64 h_p2), (26, .slice q0_0 list_p0.length k0_0), (27, .int .i64 (list_p0.length : Int)), (28, .int .i64 v_0)] []
      refine WC.seq ?_
      refine WC.region ?_
      refine Lt.ofWL.step rfl rfl rfl (OpV.lss rfl rfl) ?_
      refine WL.nil ?_
      refine En.next ?_
      refine WC.seq ?_
      refine WC.cond rfl ?_ ?_
      ·
        intro hc_2
        replace zh0 := ifO_t hc_2 zh0
        refine WC.skip ?_
        refine En.next ?_
        refine WC.seq ?_
        refine WC.block ?_
        refine WC.seq ?_
        obtain ⟨x5_1, e5_1, zh0⟩ := bnd zh0
        obtain ⟨g5_1, o5_1, _, ha5_1, ⟨a5_1_1, c5_1_1, rfl, r5_1_1⟩, hd5_1⟩ := Rd.atIdx r0_0 e5_1
        replace hd5_1 : ∀ (j : Nat) v, ([.bool x5_1.On, .int .i64 x5_1.X, .int .i64 x5_1.Y, .int .i64 x5_1.W, .int .i64 x5_1.H, .int .i64 x5_1.Layout, .slice a5_1_1 x5_1.Words.length c5_1_1, .int .i64 x5_1.Alpha, .int .i64 x5_1.Orient, .int .i64 x5_1.ToW, .int .i64 x5_1.ToH] : List Value)[j]? = some v → w.cell? ⟨g5_1, o5_1 + v_0.toNat * 11 + j, .none⟩ = some v := hd5_1
        refine WC.region ?_
        refine Lt.ofWL.step rfl rfl rfl (OpV.move rfl) ?_
        refine Lt.ofWL.step rfl rfl rfl (OpV.idxA rfl rfl se_53 ha5_1 ⟨(idx_some e5_1).1, (idx_some e5_1).2.1⟩) ?_
        refine Lt.ofWL.step rfl rfl rfl (OpV.loadN rfl ag_57 rfl (fun w hs => hs.cellsAt hd5_1)) ?_
        refine WL.heavy rfl rfl rfl (OpH.alloc zc_57 ?_)
        intro b5_3
        refine Lt.ofWL.step rfl rfl rfl (OpV.assign rfl) ?_
        refine WL.heavy0 rfl rfl (OpH.storeTo (A := []) [_, _, _, _, _, _, _, _, _, _, _] rfl rfl rfl ts_57 rfl rfl rfl ?_)
        refine WL.nil ?_
        refine En.next ?_
        refine WC.seq ?_
        obtain ⟨x6_4, e6_4, zh0⟩ := bnd zh0
        refine WC.region ?_
        refine Lt.ofWL.step rfl rfl rfl (OpV.move rfl) ?_
        refine Lt.ofWL.step rfl rfl rfl (OpV.loadAll rfl (.head _) ag_57) ?_
        refine Lt.ofWL.step rfl rfl rfl (OpV.move rfl) ?_
        refine Lt.ofWL.step rfl rfl rfl (OpV.move rfl) ?_
        refine Lt.ofWL.step rfl rfl rfl (OpV.call (evs.cons rfl (evs.cons rfl (evs.cons rfl (evs.cons rfl (evs.nil))))) ca_38 (fun w hs => w_impl_PlaneOk e6_4 (r5_1_1.ext hs.below))) ?_
        refine Lt.ofWL.step rfl rfl rfl (OpV.not rfl) ?_
        refine WL.nil ?_
        refine En.next ?_
        refine WC.cond rfl ?_ ?_
        ·
          intro hc_3
          replace zh0 := ifO_t hc_3 zh0
          refine WC.seq ?_
          refine WC.region ?_
          refine Lt.ofWL.step rfl rfl rfl (OpV.assign rfl) ?_
          refine WL.nil ?_
          refine En.next ?_
          refine WC.ret ?_
          refine En.block_ret ?_
          refine En.then_ret ?_
          refine En.then_ret ?_
          refine En.block_ret ?_
          refine En.then_ret ?_
          refine En.ret1 rfl (Res.tmp rfl) ?_
          have hx := exitP ze0 zh0
          subst hx
          replace h := fork_r h
          obtain rfl := Option.some.inj h
          intro w' hs
          exact ⟨rfl, hs.below⟩
        ·
          intro hc_3
          replace zh0 := ifO_f hc_3 zh0
          refine WC.skip ?_
          refine En.block_norm ?_
          refine En.next ?_
          refine WC.region ?_
          refine Lt.ofWL.step rfl rfl rfl (OpV.addR rfl rfl) ?_
          refine Lt.ofWL.step rfl rfl rfl (OpV.move rfl) ?_
          refine WL.nil ?_
          exact En.backP zb0 zh0 () (Sub.cons rfl (Sub.cons rfl (Sub.cons rfl (Sub.cons rfl (Sub.cons rfl (Sub.nil _)))))) (fun _ h => (h).sub (.cons _ (.slnil)))
      ·
        intro hc_2
        replace zh0 := ifO_f hc_2 zh0
        refine WC.exit ?_
        refine En.then_exit ?_
        refine En.then_exit ?_
        have hx := exitP ze0 zh0
        exact En.wk _ _ (Sub.nil _) (fun _ h => h) (zK0_0 ((), ()) hx.symm)

theorem w_laws_eqPlaneS {a_p0 : List PlaneT} {b_p1 : List PlaneT} {r : Bool} {q0_0 : Option Addr} {n0_0 k0_0 : Nat} {q1_0 : Option Addr} {n1_0 k1_0 : Nat} (h : laws_eqPlaneS a_p0 b_p1 = some r) {w : World} (r0_0 : Rd tPlane w q0_0 n0_0 k0_0 a_p0) (r1_0 : Rd tPlane w q1_0 n1_0 k1_0 b_p1)   :
    Calls Try.prog 52 #[.slice q0_0 n0_0 k0_0, .slice q1_0 n1_0 k1_0] w (fun en w' => en = .returned (.bool r) ∧ Ext w w') := by
  obtain rfl := r0_0.1
  obtain rfl := r1_0.1
  unfold laws_eqPlaneS at h
  refine enter (vs := [_, _]) Try.func52 rfl rfl rfl rfl ?_
  refine WC.seq ?_
  refine WC.region ?_
  refine Lt.ofWL.step rfl rfl rfl (OpV.assign rfl) ?_
  refine WL.nil ?_
  refine En.next ?_
  refine WC.seq ?_
  refine WC.seq ?_
  refine WC.region ?_
  refine Lt.ofWL.step rfl rfl rfl (OpV.move rfl) ?_
  refine Lt.ofWL.step rfl rfl rfl (OpV.len rfl si_53 rfl) ?_
  refine Lt.ofWL.step rfl rfl rfl (OpV.move rfl) ?_
  refine Lt.ofWL.step rfl rfl rfl (OpV.len rfl si_53 rfl) ?_
  refine Lt.ofWL.step rfl rfl rfl (OpV.neq rfl rfl) ?_
  refine WL.nil ?_
  refine En.next ?_
  refine WC.cond rfl ?_ ?_
  ·
    intro hc_1
    replace h := ifO_t hc_1 h
    refine WC.seq ?_
    refine WC.region ?_
    refine Lt.ofWL.step rfl rfl rfl (OpV.assign rfl) ?_
    refine WL.nil ?_
    refine En.next ?_
    refine WC.ret ?_
    refine En.then_ret ?_
    refine En.ret1 rfl (Res.tmp rfl) ?_
    obtain rfl := Option.some.inj h
    intro w' hs
    exact ⟨rfl, hs.below⟩
  ·
    intro hc_1
    replace h := ifO_f hc_1 h
    refine WC.skip ?_
    refine En.next ?_
    refine WC.seq ?_
    refine WC.seq ?_
    refine WC.region ?_
    refine Lt.ofWL.step rfl rfl rfl (OpV.assign rfl) ?_
    refine WL.nil ?_
    refine En.next ?_
    refine WC.block ?_
    obtain ⟨zy0, ezy0, h⟩ := bnd h
    refine WC.cut (X := (Unit) × (Unit)) (.exit 0) (fun x => zy0 = .inl x.1) (fun x => match x with | ((), ()) => []) (fun x => match x with | ((), ()) => []) ?_ ?_
    ·
      rintro ⟨⟨⟩, ⟨⟩⟩ hx
      replace hx : .inl () = zy0 := hx.symm
      subst hx
      replace h := fork_l h
      show En _ _ _ _ [] []
      refine En.block_exit ?_
      refine En.next ?_
      refine WC.seq ?_
      refine WC.region ?_
      refine Lt.ofWL.step rfl rfl rfl (OpV.assign rfl) ?_
      refine WL.nil ?_
      refine En.next ?_
      refine WC.ret ?_
      refine En.ret1 rfl (Res.tmp rfl) ?_
      obtain rfl := Option.some.inj h
      intro w' hs
      exact ⟨rfl, hs.below⟩
    ·
      intro zK0_0
      refine WC.loopP (G := Unit) (fun s g => match s, g with | i_0, () => [(0, .slice q0_0 a_p0.length k0_0), (1, .slice q1_0 b_p1.length k1_0), (5, .int .i64 i_0)]) (fun s g => match s, g with | i_0, () => []) 0 () ezy0 (by exact Sub.cons rfl (Sub.cons rfl (Sub.cons rfl (Sub.nil _)))) (by exact (fun _ h => h)) ?_
      rintro zm0 i_0 ⟨⟩ zo0 zf0 zb0 ze0
      have zh0 : laws_eqPlaneS_L0 a_p0 b_p1 i_0 = some zo0 := zf0
      unfold laws_eqPlaneS_L0 at zh0
      show WC _ _ _ _ _ [(0, .slice q0_0 a_p0.length k0_0), (1, .slice q1_0 b_p1.length k1_0), (5, .int .i64 i_0)] []
      refine WC.seq ?_
      refine WC.seq ?_
      refine WC.region ?_
      refine Lt.ofWL.step rfl rfl rfl (OpV.move rfl) ?_
      refine Lt.ofWL.step rfl rfl rfl (OpV.move rfl) ?_
      refine Lt.ofWL.step rfl rfl rfl (OpV.len rfl si_53 rfl) ?_
      refine Lt.ofWL.step rfl rfl rfl (OpV.lss rfl rfl) ?_
      refine WL.nil ?_
      refine En.next ?_
      refine WC.cond rfl ?_ ?_
      ·
        intro hc_2
        replace zh0 := ifO_t hc_2 zh0
        refine WC.skip ?_
        refine En.next ?_
        refine WC.seq ?_
        refine WC.block ?_
        refine WC.seq ?_
        obtain ⟨x6_2, e6_2, zh0⟩ := bnd zh0
        obtain ⟨g6_2, o6_2, _, ha6_2, ⟨a6_2_1, c6_2_1, rfl, r6_2_1⟩, hd6_2⟩ := Rd.atIdx r0_0 e6_2
        replace hd6_2 : ∀ (j : Nat) v, ([.bool x6_2.On, .int .i64 x6_2.X, .int .i64 x6_2.Y, .int .i64 x6_2.W, .int .i64 x6_2.H, .int .i64 x6_2.Layout, .slice a6_2_1 x6_2.Words.length c6_2_1, .int .i64 x6_2.Alpha, .int .i64 x6_2.Orient, .int .i64 x6_2.ToW, .int .i64 x6_2.ToH] : List Value)[j]? = some v → w.cell? ⟨g6_2, o6_2 + i_0.toNat * 11 + j, .none⟩ = some v := hd6_2
        obtain ⟨x6_6, e6_6, zh0⟩ := bnd zh0
        obtain ⟨g6_6, o6_6, _, ha6_6, ⟨a6_6_1, c6_6_1, rfl, r6_6_1⟩, hd6_6⟩ := Rd.atIdx r1_0 e6_6
        replace hd6_6 : ∀ (j : Nat) v, ([.bool x6_6.On, .int .i64 x6_6.X, .int .i64 x6_6.Y, .int .i64 x6_6.W, .int .i64 x6_6.H, .int .i64 x6_6.Layout, .slice a6_6_1 x6_6.Words.length c6_6_1, .int .i64 x6_6.Alpha, .int .i64 x6_6.Orient, .int .i64 x6_6.ToW, .int .i64 x6_6.ToH] : List Value)[j]? = some v → w.cell? ⟨g6_6, o6_6 + i_0.toNat * 11 + j, .none⟩ = some v := hd6_6
        obtain ⟨x6_8, e6_8, zh0⟩ := bnd zh0
        refine WC.drawn [(0, ?r6v0), (1, ?r6v1), (5, ?r6v5), (26, ?r6v26)] (by kernel_rfl) (by kernel_rfl) ?dH6 ?dK6
        case dH6 =>
          intro W hW hk
          refine hW.step rfl rfl rfl (OpV.move rfl) ?_
          refine hW.step rfl rfl rfl (OpV.move rfl) ?_
          refine hW.step rfl rfl rfl (OpV.idxA rfl rfl se_53 ha6_2 ⟨(idx_some e6_2).1, (idx_some e6_2).2.1⟩) ?_
          refine hW.step rfl rfl rfl (OpV.loadN rfl ag_57 rfl (fun w hs => hs.cellsAt hd6_2)) ?_
          refine hW.step rfl rfl rfl (OpV.move rfl) ?_
          refine hW.step rfl rfl rfl (OpV.move rfl) ?_
          refine hW.step rfl rfl rfl (OpV.idxA rfl rfl se_53 ha6_6 ⟨(idx_some e6_6).1, (idx_some e6_6).2.1⟩) ?_
          refine hW.step rfl rfl rfl (OpV.loadN rfl ag_57 rfl (fun w hs => hs.cellsAt hd6_6)) ?_
          refine hW.step rfl rfl rfl (OpV.call (evs.cons rfl (evs.cons rfl (evs.nil))) ca_44 (fun w hs => w_laws_eqPlane e6_8 (r6_2_1.ext hs.below) (r6_6_1.ext hs.below))) ?_
          refine hW.step rfl rfl rfl (OpV.not rfl) ?_
          refine hk _ ?_
          refine Sub.cons ?_ (Sub.cons ?_ (Sub.cons ?_ (Sub.cons ?_ (Sub.nil _))))
          all_goals exact rfl
        refine En.next ?_
        refine WC.cond rfl ?_ ?_
        ·
          intro hc_3
          replace zh0 := ifO_t hc_3 zh0
          refine WC.seq ?_
          refine WC.region ?_
          refine Lt.ofWL.step rfl rfl rfl (OpV.assign rfl) ?_
          refine WL.nil ?_
          refine En.next ?_
          refine WC.ret ?_
          refine En.block_ret ?_
          refine En.then_ret ?_
          refine En.then_ret ?_
          refine En.block_ret ?_
          refine En.then_ret ?_
          refine En.ret1 rfl (Res.tmp rfl) ?_
          have hx := exitP ze0 zh0
          subst hx
          replace h := fork_r h
          obtain rfl := Option.some.inj h
          intro w' hs
          exact ⟨rfl, hs.below⟩
        ·
          intro hc_3
          replace zh0 := ifO_f hc_3 zh0
          refine WC.skip ?_
          refine En.block_norm ?_
          refine En.next ?_
          refine WC.region ?_
          refine Lt.ofWL.step rfl rfl rfl (OpV.move rfl) ?_
          refine Lt.ofWL.step rfl rfl rfl (OpV.addR rfl rfl) ?_
          refine Lt.ofWL.step rfl rfl rfl (OpV.assign rfl) ?_
          refine WL.nil ?_
          exact En.backP zb0 zh0 () (Sub.cons rfl (Sub.cons rfl (Sub.cons rfl (Sub.nil _)))) (fun _ h => h)
      ·
        intro hc_2
        replace zh0 := ifO_f hc_2 zh0
        refine WC.exit ?_
        refine En.then_exit ?_
        refine En.then_exit ?_
        have hx := exitP ze0 zh0
        exact En.wk _ _ (Sub.nil _) (fun _ h => h) (zK0_0 ((), ()) hx.symm)

theorem w_laws_FnExactPlanesOk {aList_p0 : List PlaneT} {aW_p1 : Int} {aH_p2 : Int} {r : Bool} {q0_0 : Option Addr} {n0_0 k0_0 : Nat} (h : laws_FnExactPlanesOk aList_p0 aW_p1 aH_p2 = some r) {w : World} (r0_0 : Rd tPlane w q0_0 n0_0 k0_0 aList_p0)   :
    Calls Try.prog 9 #[.slice q0_0 n0_0 k0_0, .int .i64 aW_p1, .int .i64 aH_p2] w (fun en w' => en = .returned (.bool r) ∧ Ext w w') := by
  obtain rfl := r0_0.1
  unfold laws_FnExactPlanesOk at h
  refine enter (vs := [_, _, _]) Try.func9 rfl rfl rfl rfl ?_
  refine WC.seq ?_
  refine WC.region ?_
  refine Lt.ofWL.step rfl rfl rfl (OpV.assign rfl) ?_
  refine WL.nil ?_
  refine En.next ?_
  refine WC.seq ?_
  refine WC.region ?_
  refine Lt.ofWL.step rfl rfl rfl (OpV.assign rfl) ?_
  refine WL.nil ?_
  refine En.next ?_
  refine WC.seq ?_
  obtain ⟨x2_2, e2_2, h⟩ := bnd h
  refine WC.region ?_
  refine Lt.ofWL.step rfl rfl rfl (OpV.move rfl) ?_
  refine Lt.ofWL.step rfl rfl rfl (OpV.move rfl) ?_
  refine Lt.ofWL.step rfl rfl rfl (OpV.call (evs.cons rfl (evs.cons rfl (evs.nil))) ca_49 (fun w hs => w_laws_szPlaneS e2_2 (r0_0.ext hs.below))) ?_
  refine Lt.ofWL.step rfl rfl rfl (OpV.assign rfl) ?_
  refine WL.nil ?_
  refine En.next ?_
  refine WC.seq ?_
  refine WC.seq ?_
  refine WC.region ?_
  refine Lt.ofWL.step rfl rfl rfl (OpV.move rfl) ?_
  refine Lt.ofWL.step rfl rfl rfl (OpV.lss rfl rfl) ?_
  refine WL.nil ?_
  refine En.next ?_
  refine WC.cond rfl ?_ ?_
  ·
    intro hc_1
    replace h := ifO_t hc_1 h
    refine WC.seq ?_
    refine WC.region ?_
    refine Lt.ofWL.step rfl rfl rfl (OpV.assign rfl) ?_
    refine WL.nil ?_
    refine En.next ?_
    refine WC.ret ?_
    refine En.then_ret ?_
    refine En.ret1 rfl (Res.tmp rfl) ?_
    obtain rfl := Option.some.inj h
    intro w' hs
    exact ⟨rfl, hs.below⟩
  ·
    intro hc_1
    replace h := ifO_f hc_1 h
    refine WC.skip ?_
    refine En.next ?_
    refine WC.seq ?_
    obtain ⟨x5_1, e5_1, h⟩ := bnd h
    obtain ⟨x5_4, e5_4, h⟩ := bnd h
    refine WC.region ?_
    refine Lt.ofWL.step rfl rfl rfl (OpV.move rfl) ?_
    refine WL.heavy rfl rfl rfl (OpH.callR (evs.cons rfl (evs.nil)) ca_51 (fun w hs => w_laws_toPlaneS e5_1 (r0_0.ext hs.below)) ?_)
    rintro _ _ ⟨a5_100, n5_100, c5_100, f5_100, rfl, rfl⟩
    refine Lt.ofWL.step rfl rfl rfl (OpV.move rfl) ?_
    refine Lt.ofWL.step rfl rfl rfl (OpV.move rfl) ?_
    refine Lt.ofWL.step rfl rfl rfl (OpV.call (evs.cons rfl (evs.cons rfl (evs.cons rfl (evs.nil)))) ca_50 (fun w hs => w_spec_PlanesOk e5_4 (Ow.rd (hs.mem (.head _))))) ?_
    refine Lt.ofWL.step rfl rfl rfl (OpV.assign rfl) ?_
    refine WL.nil ?_
    refine En.next ?_
    refine WC.seq ?_
    obtain ⟨x6_1, e6_1, h⟩ := bnd h
    refine WC.region ?_
    refine Lt.ofWL.step rfl rfl rfl (OpV.move rfl) ?_
    refine WL.heavy rfl rfl rfl (OpH.callR (evs.cons rfl (evs.nil)) ca_51 (fun w hs => w_laws_toPlaneS e6_1 (r0_0.ext hs.below)) ?_)
    rintro _ _ ⟨a6_100, n6_100, c6_100, f6_100, rfl, rfl⟩
    refine Lt.ofWL.step rfl rfl rfl (OpV.assign rfl) ?_
    refine WL.nil ?_
    refine En.next ?_
    refine WC.seq ?_
    obtain ⟨x7_3, e7_3, h⟩ := bnd h
    refine WC.region ?_
    refine Lt.ofWL.step rfl rfl rfl (OpV.move rfl) ?_
    refine Lt.ofWL.step rfl rfl rfl (OpV.move rfl) ?_
    refine Lt.ofWL.step rfl rfl rfl (OpV.move rfl) ?_
    refine Lt.ofWL.step rfl rfl rfl (OpV.call (evs.cons rfl (evs.cons rfl (evs.cons rfl (evs.nil)))) ca_37 (fun w hs => w_impl_PlanesOk e7_3 (Ow.rd (hs.mem (.head _))))) ?_
    refine Lt.ofWL.step rfl rfl rfl (OpV.assign rfl) ?_
    refine WL.nil ?_
    refine En.next ?_
    refine WC.seq ?_
    refine WC.seq ?_
    refine WC.region ?_
    refine Lt.ofWL.step rfl rfl rfl (OpV.move rfl) ?_
    refine Lt.ofWL.step rfl rfl rfl (OpV.move rfl) ?_
    refine Lt.ofWL.step rfl rfl rfl (OpV.bneq rfl rfl ub_4) ?_
    refine WL.nil ?_
    refine En.next ?_
    refine WC.cond rfl ?_ ?_
    ·
      intro hc_2
      replace h := ifO_t hc_2 h
      refine WC.seq ?_
      refine WC.region ?_
      refine Lt.ofWL.step rfl rfl rfl (OpV.assign rfl) ?_
      refine WL.nil ?_
      refine En.next ?_
      refine WC.ret ?_
      refine En.then_ret ?_
      refine En.ret1 rfl (Res.tmp rfl) ?_
      obtain rfl := Option.some.inj h
      intro w' hs
      exact ⟨rfl, hs.below⟩
    ·
      intro hc_2
      replace h := ifO_f hc_2 h
      refine WC.skip ?_
      refine En.next ?_
      refine WC.seq ?_
      refine WC.seq ?_
      obtain ⟨x10_2, e10_2, h⟩ := bnd h
      obtain ⟨x10_3, e10_3, h⟩ := bnd h
      refine WC.region ?_
      refine Lt.ofWL.step rfl rfl rfl (OpV.move rfl) ?_
      refine Lt.ofWL.step rfl rfl rfl (OpV.move rfl) ?_
      refine WL.heavy rfl rfl rfl (OpH.callR (evs.cons rfl (evs.nil)) ca_51 (fun w hs => w_laws_toPlaneS e10_2 (r0_0.ext hs.below)) ?_)
      rintro _ _ ⟨a10_200, n10_200, c10_200, f10_200, rfl, rfl⟩
      refine Lt.ofWL.step rfl rfl rfl (OpV.call (evs.cons rfl (evs.cons rfl (evs.nil))) ca_52 (fun w hs => w_laws_eqPlaneS e10_3 (Ow.rd (hs.mem (.tail _ (.head _)))) (Ow.rd (hs.mem (.head _))))) ?_
      refine Lt.ofWL.step rfl rfl rfl (OpV.not rfl) ?_
      refine WL.nil ?_
      refine En.next ?_
      refine WC.cond rfl ?_ ?_
      ·
        intro hc_3
        replace h := ifO_t hc_3 h
        refine WC.seq ?_
        refine WC.region ?_
        refine Lt.ofWL.step rfl rfl rfl (OpV.assign rfl) ?_
        refine WL.nil ?_
        refine En.next ?_
        refine WC.ret ?_
        refine En.then_ret ?_
        refine En.ret1 rfl (Res.tmp rfl) ?_
        obtain rfl := Option.some.inj h
        intro w' hs
        exact ⟨rfl, hs.below⟩
      ·
        intro hc_3
        replace h := ifO_f hc_3 h
        refine WC.skip ?_
        refine En.next ?_
        refine WC.seq ?_
        refine WC.region ?_
        refine Lt.ofWL.step rfl rfl rfl (OpV.assign rfl) ?_
        refine WL.nil ?_
        refine En.next ?_
        refine WC.ret ?_
        refine En.ret1 rfl (Res.tmp rfl) ?_
        obtain rfl := Option.some.inj h
        intro w' hs
        exact ⟨rfl, hs.below⟩

theorem w_spec_l05At {i_p0 : ImageT} {x_p1 : Int} {y_p2 : Int} {r : Int} {q0_0 : Option Addr} {n0_0 k0_0 : Nat} (h : spec_l05At i_p0 x_p1 y_p2 = some r) {w : World} (r0_0 : Rd tInt w q0_0 n0_0 k0_0 i_p0.Data)   :
    Calls Try.prog 117 #[.agg #[.int .i64 i_p0.W, .int .i64 i_p0.H, .slice q0_0 n0_0 k0_0], .int .i64 x_p1, .int .i64 y_p2] w (fun en w' => en = .returned (.int .i64 r) ∧ Ext w w') := by
  obtain rfl := r0_0.1
  unfold spec_l05At at h
  refine enter (vs := [_, _, _]) Try.func117 rfl rfl rfl rfl ?_
  refine WC.seq ?_
  refine WC.region ?_
  refine WL.heavy rfl rfl rfl (OpH.box rfl rfl ?_)
  intro b0_0
  refine Lt.ofWL.step rfl rfl rfl (OpV.assign rfl) ?_
  refine WL.nil ?_
  refine En.next ?_
  refine WC.seq ?_
  refine WC.seq ?_
  refine WC.region ?_
  refine Lt.ofWL.step rfl rfl rfl (OpV.move rfl) ?_
  refine Lt.ofWL.step rfl rfl rfl (OpV.lss rfl rfl) ?_
  refine Lt.ofWL.step rfl rfl rfl (OpV.move rfl) ?_
  refine Lt.ofWL.or 9 14 13 (p := ?pz1) (rest := ?qz1) (B := ?Bz1) rfl ?Tz1 ?Fz1 ?az1 ?bz1 ?cz1 ?dz1 ?ez1
  case Tz1 =>
    intro hcz1 hkz1
    refine Lt.ofWL.skip rfl rfl rfl ?_
    refine Lt.ofWL.skip rfl rfl rfl ?_
    refine Lt.ofWL.skip rfl rfl rfl ?_
    refine Lt.ofWL.skip rfl rfl rfl ?_
    refine hkz1 _ ?_
    repeat (first | exact Sub.refl _ | refine Sub.skip rfl ?_)
  case Fz1 =>
    intro hcz1 hkz1
    refine Lt.ofWL.step rfl rfl rfl (OpV.move rfl) ?_
    refine Lt.ofWL.step rfl rfl rfl (OpV.fieldAddr rfl fo_36_0) ?_
    refine Lt.ofWL.step rfl rfl rfl (OpV.loadBox rfl pt_3 (.head _) rfl) ?_
    refine Lt.ofWL.step rfl rfl rfl (OpV.geq rfl rfl) ?_
    refine hkz1 _ ?_ ?_
    exact rfl
    repeat (first | exact Sub.refl _ | refine Sub.skip rfl ?_)
  case az1 => exact rfl
  case bz1 => exact rfl
  case cz1 => exact rfl
  case dz1 => exact rfl
  refine Lt.ofWL.step rfl rfl rfl (OpV.move rfl) ?_
  refine Lt.ofWL.or 15 18 17 (p := ?pz2) (rest := ?qz2) (B := ?Bz2) rfl ?Tz2 ?Fz2 ?az2 ?bz2 ?cz2 ?dz2 ?ez2
  case Tz2 =>
    intro hcz2 hkz2
    refine Lt.ofWL.skip rfl rfl rfl ?_
    refine Lt.ofWL.skip rfl rfl rfl ?_
    refine hkz2 _ ?_
    repeat (first | exact Sub.refl _ | refine Sub.skip rfl ?_)
  case Fz2 =>
    intro hcz2 hkz2
    refine Lt.ofWL.step rfl rfl rfl (OpV.move rfl) ?_
    refine Lt.ofWL.step rfl rfl rfl (OpV.lss rfl rfl) ?_
    refine hkz2 _ ?_ ?_
    exact rfl
    repeat (first | exact Sub.refl _ | refine Sub.skip rfl ?_)
  case az2 => exact rfl
  case bz2 => exact rfl
  case cz2 => exact rfl
  case dz2 => exact rfl
  refine Lt.ofWL.step rfl rfl rfl (OpV.move rfl) ?_
  refine Lt.ofWL.or 19 24 23 (p := ?pz3) (rest := ?qz3) (B := ?Bz3) rfl ?Tz3 ?Fz3 ?az3 ?bz3 ?cz3 ?dz3 ?ez3
  case Tz3 =>
    intro hcz3 hkz3
    refine Lt.ofWL.skip rfl rfl rfl ?_
    refine Lt.ofWL.skip rfl rfl rfl ?_
    refine Lt.ofWL.skip rfl rfl rfl ?_
    refine Lt.ofWL.skip rfl rfl rfl ?_
    refine hkz3 _ ?_
    repeat (first | exact Sub.refl _ | refine Sub.skip rfl ?_)
  case Fz3 =>
    intro hcz3 hkz3
    refine Lt.ofWL.step rfl rfl rfl (OpV.move rfl) ?_
    refine Lt.ofWL.step rfl rfl rfl (OpV.fieldAddr rfl fo_36_1) ?_
    refine Lt.ofWL.step rfl rfl rfl (OpV.loadBox rfl pt_3 (.head _) rfl) ?_
    refine Lt.ofWL.step rfl rfl rfl (OpV.geq rfl rfl) ?_
    refine hkz3 _ ?_ ?_
    exact rfl
    repeat (first | exact Sub.refl _ | refine Sub.skip rfl ?_)
  case az3 => exact rfl
  case bz3 => exact rfl
  case cz3 => exact rfl
  case dz3 => exact rfl
  refine WL.nil ?_
  refine En.next ?_
  refine WC.cond rfl ?_ ?_
  ·
    intro hc_1
    replace h := ifO_t hc_1 h
    refine WC.seq ?_
    refine WC.region ?_
    refine Lt.ofWL.step rfl rfl rfl (OpV.assign rfl) ?_
    refine WL.nil ?_
    refine En.next ?_
    refine WC.ret ?_
    refine En.then_ret ?_
    refine En.ret1 rfl (Res.tmp rfl) ?_
    obtain rfl := Option.some.inj h
    intro w' hs
    exact ⟨rfl, hs.below⟩
  ·
    intro hc_1
    replace h := ifO_f hc_1 h
    refine WC.skip ?_
    refine En.next ?_
    refine WC.seq ?_
    obtain ⟨x3_8, e3_8, h⟩ := bnd h
    obtain ⟨g3_8, o3_8, _, ha3_8, rfl, hd3_8⟩ := Rd.atIdx r0_0 e3_8
    replace hd3_8 : ∀ (j : Nat) v, ([.int .i64 x3_8] : List Value)[j]? = some v → w.cell? ⟨g3_8, o3_8 + (wr ((wr (y_p2 * i_p0.W)) + x_p1)).toNat * 1 + j, .none⟩ = some v := hd3_8
    refine WC.region ?_
    refine Lt.ofWL.step rfl rfl rfl (OpV.fieldAddr rfl fo_36_2) ?_
    refine Lt.ofWL.step rfl rfl rfl (OpV.loadBox rfl pt_32 (.head _) rfl) ?_
    refine Lt.ofWL.step rfl rfl rfl (OpV.move rfl) ?_
    refine Lt.ofWL.step rfl rfl rfl (OpV.fieldAddr rfl fo_36_0) ?_
    refine Lt.ofWL.step rfl rfl rfl (OpV.loadBox rfl pt_3 (.head _) rfl) ?_
    refine Lt.ofWL.step rfl rfl rfl (OpV.mulR rfl rfl) ?_
    refine Lt.ofWL.step rfl rfl rfl (OpV.move rfl) ?_
    refine Lt.ofWL.step rfl rfl rfl (OpV.addR rfl rfl) ?_
    refine Lt.ofWL.step rfl rfl rfl (OpV.idxA rfl rfl se_32 ha3_8 ⟨(idx_some e3_8).1, (idx_some e3_8).2.1⟩) ?_
    refine Lt.ofWL.step rfl rfl rfl (OpV.load1 rfl pt_3 (fun w hs => hs.cell (hd3_8 0 _ rfl))) ?_
    refine Lt.ofWL.step rfl rfl rfl (OpV.assign rfl) ?_
    refine WL.nil ?_
    refine En.next ?_
    refine WC.ret ?_
    refine En.ret1 rfl (Res.tmp rfl) ?_
    obtain rfl := Option.some.inj h
    intro w' hs
    exact ⟨rfl, hs.below⟩

theorem w_spec_Over {top_p0 : Int} {bottom_p1 : Int} {r : Int}  (h : spec_Over top_p0 bottom_p1 = some r) {w : World}    :
    Calls Try.prog 163 #[.int .i64 top_p0, .int .i64 bottom_p1] w (fun en w' => en = .returned (.int .i64 r) ∧ Ext w w') := by
  unfold spec_Over at h
  refine enter (vs := [_, _]) Try.func163 rfl rfl rfl rfl ?_
  refine WC.seq ?_
  refine WC.region ?_
  refine Lt.ofWL.step rfl rfl rfl (OpV.assign rfl) ?_
  refine WL.nil ?_
  refine En.next ?_
  refine WC.seq ?_
  refine WC.seq ?_
  obtain ⟨x1_1, e1_1, h⟩ := bnd h
  obtain ⟨q1_7, e1_7, h⟩ := bnd h
  refine WC.region ?_
  refine Lt.ofWL.step rfl rfl rfl (OpV.move rfl) ?_
  refine Lt.ofWL.step rfl rfl rfl (OpV.call (evs.cons rfl (evs.nil)) ca_89 (fun w hs => w_spec_l04Pixel e1_1)) ?_
  refine Lt.ofWL.step rfl rfl rfl (OpV.not rfl) ?_
  refine Lt.ofWL.step rfl rfl rfl (OpV.move rfl) ?_
  refine Lt.ofWL.orQ 11 15 14 (p := ?pz1) (rest := ?qz1) (B := q1_7) rfl (fun hz => orO_t e1_7 hz) ?Tz1 ?Fz1 ?az1 ?bz1 ?cz1 ?dz1 ?ez1
  case Tz1 =>
    intro hcz1 hkz1
    refine Lt.ofWL.skip rfl rfl rfl ?_
    refine Lt.ofWL.skip rfl rfl rfl ?_
    refine Lt.ofWL.skip rfl rfl rfl ?_
    refine hkz1 _ ?_
    repeat (first | exact Sub.refl _ | refine Sub.skip rfl ?_)
  case Fz1 =>
    intro hcz1 hkz1
    have hqz1 := orO_f e1_7 hcz1
    obtain ⟨x1_5, e1_5, hqz1⟩ := bnd hqz1
    obtain rfl := Option.some.inj hqz1
    refine Lt.ofWL.step rfl rfl rfl (OpV.move rfl) ?_
    refine Lt.ofWL.step rfl rfl rfl (OpV.call (evs.cons rfl (evs.nil)) ca_89 (fun w hs => w_spec_l04Pixel e1_5)) ?_
    refine Lt.ofWL.step rfl rfl rfl (OpV.not rfl) ?_
    refine hkz1 _ ?_ ?_
    exact rfl
    repeat (first | exact Sub.refl _ | refine Sub.skip rfl ?_)
  case az1 => exact rfl
  case bz1 => exact rfl
  case cz1 => exact rfl
  case dz1 => exact rfl
  refine WL.nil ?_
  refine En.next ?_
  refine WC.cond rfl ?_ ?_
  ·
    intro hc_1
    replace h := ifO_t hc_1 h
    refine WC.seq ?_
    refine WC.region ?_
    refine Lt.ofWL.step rfl rfl rfl (OpV.assign rfl) ?_
    refine WL.nil ?_
    refine En.next ?_
    refine WC.ret ?_
    refine En.then_ret ?_
    refine En.ret1 rfl (Res.tmp rfl) ?_
    obtain rfl := Option.some.inj h
    intro w' hs
    exact ⟨rfl, hs.below⟩
  ·
    intro hc_1
    replace h := ifO_f hc_1 h
    refine WC.skip ?_
    refine En.next ?_
    refine WC.seq ?_
    obtain ⟨x3_1, e3_1, h⟩ := bnd h
    refine WC.region ?_
    refine Lt.ofWL.step rfl rfl rfl (OpV.move rfl) ?_
    refine Lt.ofWL.step rfl rfl rfl (OpV.call (evs.cons rfl (evs.cons rfl (evs.nil))) ca_115 (fun w hs => w_spec_ChannelOf e3_1)) ?_
    refine Lt.ofWL.step rfl rfl rfl (OpV.assign rfl) ?_
    refine WL.nil ?_
    refine En.next ?_
    refine WC.seq ?_
    refine WC.region ?_
    refine Lt.ofWL.step rfl rfl rfl (OpV.assign rfl) ?_
    refine WL.nil ?_
    refine En.next ?_
    refine WC.seq ?_
    refine WC.seq ?_
    refine WC.region ?_
    refine Lt.ofWL.step rfl rfl rfl (OpV.assign rfl) ?_
    refine WL.nil ?_
    refine En.next ?_
    refine WC.block ?_
    obtain ⟨zy0, ezy0, h⟩ := bnd h
    refine WC.cut (X := (Int) × (Unit)) (.exit 0) (fun x => zy0 = x.1) (fun x => match x with | (out_0e, ()) => [(6, .int .i64 out_0e)]) (fun x => match x with | (out_0e, ()) => []) ?_ ?_
    ·
      rintro ⟨out_0e, ⟨⟩⟩ hx
      replace hx : out_0e = zy0 := hx.symm
      subst hx
      show En _ _ _ _ [(6, .int .i64 out_0e)] []
      refine En.block_exit ?_
      refine En.next ?_
      refine WC.seq ?_
      refine WC.region ?_
      refine Lt.ofWL.step rfl rfl rfl (OpV.move rfl) ?_
      refine Lt.ofWL.step rfl rfl rfl (OpV.assign rfl) ?_
      refine WL.nil ?_
      refine En.next ?_
      refine WC.ret ?_
      refine En.ret1 rfl (Res.tmp rfl) ?_
      obtain rfl := Option.some.inj h
      intro w' hs
      exact ⟨rfl, hs.below⟩
    ·
      intro zK0_0
      refine WC.loopP (G := Unit) (fun s g => match s, g with | (out_0, k_0), () => [(0, .int .i64 top_p0), (1, .int .i64 bottom_p1), (5, .int .i64 x3_1), (6, .int .i64 out_0), (7, .int .i64 k_0)]) (fun s g => match s, g with | (out_0, k_0), () => []) (255, 1) () ezy0 (by exact Sub.cons rfl (Sub.cons rfl (Sub.cons rfl (Sub.cons rfl (Sub.cons rfl (Sub.nil _)))))) (by exact (fun _ h => h)) ?_
      rintro zm0 ⟨out_0, k_0⟩ ⟨⟩ zo0 zf0 zb0 ze0
      have zh0 : spec_Over_L0 top_p0 bottom_p1 x3_1 out_0 k_0 = some zo0 := zf0
      unfold spec_Over_L0 at zh0
      show WC _ _ _ _ _ [(0, .int .i64 top_p0), (1, .int .i64 bottom_p1), (5, .int .i64 x3_1), (6, .int .i64 out_0), (7, .int .i64 k_0)] []
      refine WC.seq ?_
      refine WC.seq ?_
      refine WC.region ?_
      refine Lt.ofWL.step rfl rfl rfl (OpV.move rfl) ?_
      refine Lt.ofWL.step rfl rfl rfl (OpV.leq rfl rfl) ?_
      refine WL.nil ?_
      refine En.next ?_
      refine WC.cond rfl ?_ ?_
      ·
        intro hc_2
        replace zh0 := ifO_t hc_2 zh0
        refine WC.skip ?_
        refine En.next ?_
        refine WC.seq ?_
        refine WC.block ?_
        obtain ⟨x8_4, e8_4, zh0⟩ := bnd zh0
        obtain ⟨x8_6, e8_6, zh0⟩ := bnd zh0
        obtain ⟨x8_10, e8_10, zh0⟩ := bnd zh0
        obtain ⟨x8_13, e8_13, zh0⟩ := bnd zh0
        refine WC.region ?_
        refine Lt.ofWL.step rfl rfl rfl (OpV.move rfl) ?_
        refine Lt.ofWL.step rfl rfl rfl (OpV.shlR rfl rfl rfl) ?_
        refine Lt.ofWL.step rfl rfl rfl (OpV.move rfl) ?_
        refine Lt.ofWL.step rfl rfl rfl (OpV.move rfl) ?_
        refine Lt.ofWL.step rfl rfl rfl (OpV.call (evs.cons rfl (evs.cons rfl (evs.nil))) ca_115 (fun w hs => w_spec_ChannelOf e8_4)) ?_
        refine Lt.ofWL.step rfl rfl rfl (OpV.move rfl) ?_
        refine Lt.ofWL.step rfl rfl rfl (OpV.call (evs.cons rfl (evs.cons rfl (evs.nil))) ca_149 (fun w hs => w_spec_Part e8_6)) ?_
        refine Lt.ofWL.step rfl rfl rfl (OpV.addR rfl rfl) ?_
        refine Lt.ofWL.step rfl rfl rfl (OpV.move rfl) ?_
        refine Lt.ofWL.step rfl rfl rfl (OpV.move rfl) ?_
        refine Lt.ofWL.step rfl rfl rfl (OpV.call (evs.cons rfl (evs.cons rfl (evs.nil))) ca_115 (fun w hs => w_spec_ChannelOf e8_10)) ?_
        refine Lt.ofWL.step rfl rfl rfl (OpV.move rfl) ?_
        refine Lt.ofWL.step rfl rfl rfl (OpV.subR rfl rfl) ?_
        refine Lt.ofWL.step rfl rfl rfl (OpV.call (evs.cons rfl (evs.cons rfl (evs.nil))) ca_149 (fun w hs => w_spec_Part e8_13)) ?_
        refine Lt.ofWL.step rfl rfl rfl (OpV.addR rfl rfl) ?_
        refine Lt.ofWL.step rfl rfl rfl (OpV.assign rfl) ?_
        refine WL.nil ?_
        refine En.block_norm ?_
        refine En.next ?_
        refine WC.region ?_
        refine Lt.ofWL.step rfl rfl rfl (OpV.move rfl) ?_
        refine Lt.ofWL.step rfl rfl rfl (OpV.addR rfl rfl) ?_
        refine Lt.ofWL.step rfl rfl rfl (OpV.assign rfl) ?_
        refine WL.nil ?_
        exact En.backP zb0 zh0 () (Sub.cons rfl (Sub.cons rfl (Sub.cons rfl (Sub.cons rfl (Sub.cons rfl (Sub.nil _)))))) (fun _ h => h)
      ·
        intro hc_2
        replace zh0 := ifO_f hc_2 zh0
        refine WC.exit ?_
        refine En.then_exit ?_
        refine En.then_exit ?_
        have hx := exitP ze0 zh0
        exact En.wk _ _ (Sub.cons rfl (Sub.nil _)) (fun _ h => h) (zK0_0 (out_0, ()) hx.symm)

end Go.Proofs.Ytkojfdgljmhmlaa
