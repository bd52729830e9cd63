/- Walks: the program computes the pure functions. -/
import Derived.Test.YtdbnoiiacpmbpaaW3
namespace Go.Proofs.Ytdbnoiiacpmbpaa
open Go.RowKit K
set_option maxRecDepth 100000
set_option maxHeartbeats 4000000

theorem w_spec_NewImage {w_p0 : Int} {h_p1 : Int} {p_p2 : Int} {r : ImageT}  (h : spec_NewImage w_p0 h_p1 p_p2 = some r) {w : World}    :
    Calls Try.prog 39 #[.int .i64 w_p0, .int .i64 h_p1, .int .i64 p_p2] w (fun en w' => ∃ rv G, en = .returned rv ∧ (∃ (a0_0 : Option Addr) (n0_0 : Nat) (c0_0 : Nat) (f0_0 : List Nat), rv = .agg #[.int .i64 r.W, .int .i64 r.H, .slice a0_0 n0_0 c0_0] ∧ G = [Chunk.own tInt f0_0 a0_0 n0_0 c0_0 r.Data]) ∧ St w G w') := by
  unfold spec_NewImage at h
  refine enter (vs := [_, _, _]) Try.func39 rfl rfl rfl rfl ?_
  refine WC.seq ?_
  refine WC.region ?_
  refine WL.heavy rfl rfl rfl (OpH.alloc zc_72 ?_)
  intro b0_0
  refine WL.nil ?_
  refine En.next ?_
  refine WC.seq ?_
  refine WC.seq ?_
  obtain ⟨x1_1, e1_1, h⟩ := bnd h
  obtain ⟨q1_7, e1_7, h⟩ := bnd h
  obtain ⟨q1_12, e1_12, h⟩ := bnd h
  refine WC.region ?_
  refine Lt.ofWL.step rfl rfl rfl (OpV.move rfl) ?_
  refine Lt.ofWL.step rfl rfl rfl (OpV.call (evs.cons rfl (evs.cons rfl (evs.cons rfl (evs.nil)))) ca_50 (fun w hs => w_spec_l01In e1_1)) ?_
  refine Lt.ofWL.step rfl rfl rfl (OpV.not rfl) ?_
  refine Lt.ofWL.step rfl rfl rfl (OpV.move rfl) ?_
  refine Lt.ofWL.orQ 12 16 15 (p := ?pz1) (rest := ?qz1) (B := q1_7) rfl (fun hz => orO_t e1_7 hz) ?Tz1 ?Fz1 ?az1 ?bz1 ?cz1 ?dz1 ?ez1
  case Tz1 =>
    intro hcz1 hkz1
    refine Lt.ofWL.skip rfl rfl rfl ?_
    refine Lt.ofWL.skip rfl rfl rfl ?_
    refine Lt.ofWL.skip rfl rfl rfl ?_
    refine hkz1 _ ?_
    repeat (first | exact Sub.refl _ | refine Sub.skip rfl ?_)
  case Fz1 =>
    intro hcz1 hkz1
    have hqz1 := orO_f e1_7 hcz1
    obtain ⟨x1_5, e1_5, hqz1⟩ := bnd hqz1
    obtain rfl := Option.some.inj hqz1
    refine Lt.ofWL.step rfl rfl rfl (OpV.move rfl) ?_
    refine Lt.ofWL.step rfl rfl rfl (OpV.call (evs.cons rfl (evs.cons rfl (evs.cons rfl (evs.nil)))) ca_50 (fun w hs => w_spec_l01In e1_5)) ?_
    refine Lt.ofWL.step rfl rfl rfl (OpV.not rfl) ?_
    refine hkz1 _ ?_ ?_
    exact rfl
    repeat (first | exact Sub.refl _ | refine Sub.skip rfl ?_)
  case az1 => exact rfl
  case bz1 => exact rfl
  case cz1 => exact rfl
  case dz1 => exact rfl
  refine Lt.ofWL.step rfl rfl rfl (OpV.move rfl) ?_
  refine Lt.ofWL.orQ 17 21 20 (p := ?pz2) (rest := ?qz2) (B := q1_12) rfl (fun hz => orO_t e1_12 hz) ?Tz2 ?Fz2 ?az2 ?bz2 ?cz2 ?dz2 ?ez2
  case Tz2 =>
    intro hcz2 hkz2
    refine Lt.ofWL.skip rfl rfl rfl ?_
    refine Lt.ofWL.skip rfl rfl rfl ?_
    refine Lt.ofWL.skip rfl rfl rfl ?_
    refine hkz2 _ ?_
    repeat (first | exact Sub.refl _ | refine Sub.skip rfl ?_)
  case Fz2 =>
    intro hcz2 hkz2
    have hqz2 := orO_f e1_12 hcz2
    obtain ⟨x1_10, e1_10, hqz2⟩ := bnd hqz2
    obtain rfl := Option.some.inj hqz2
    refine Lt.ofWL.step rfl rfl rfl (OpV.move rfl) ?_
    refine Lt.ofWL.step rfl rfl rfl (OpV.call (evs.cons rfl (evs.nil)) ca_75 (fun w hs => w_spec_l04Pixel e1_10)) ?_
    refine Lt.ofWL.step rfl rfl rfl (OpV.not rfl) ?_
    refine hkz2 _ ?_ ?_
    exact rfl
    repeat (first | exact Sub.refl _ | refine Sub.skip rfl ?_)
  case az2 => exact rfl
  case bz2 => exact rfl
  case cz2 => exact rfl
  case dz2 => exact rfl
  refine WL.nil ?_
  refine En.next ?_
  refine WC.cond rfl ?_ ?_
  ·
    intro hc_1
    replace h := ifO_t hc_1 h
    refine WC.seq ?_
    refine WC.region ?_
    refine Lt.ofWL.step rfl rfl rfl (OpV.build (evps.nil) bd_72_) ?_
    refine WL.heavy0 rfl rfl (OpH.storeTo (A := []) [_, _, _] rfl rfl rfl ts_72 rfl rfl rfl ?_)
    refine WL.nil ?_
    refine En.next ?_
    refine WC.ret ?_
    refine En.then_ret ?_
    refine En.ret1 rfl (Res.cell rfl (.head _) ag_72) ?_
    obtain rfl := Option.some.inj h
    intro w' hs
    have hs := ((hs).ownNil (A := tInt)).sub (.cons_cons _ (.cons _ (.slnil)))
    exact ⟨_, _, rfl, ⟨.none, 0, 0, [], rfl, rfl⟩, hs⟩
  ·
    intro hc_1
    replace h := ifO_f hc_1 h
    refine WC.skip ?_
    refine En.next ?_
    refine WC.seq ?_
    refine WC.region ?_
    refine Lt.ofWL.step rfl rfl rfl (OpV.move rfl) ?_
    refine Lt.ofWL.step rfl rfl rfl (OpV.move rfl) ?_
    refine Lt.ofWL.step rfl rfl rfl (OpV.build (evps.cons rfl (evps.cons rfl (evps.nil))) (bd_72_0_1 _ _)) ?_
    refine WL.heavy rfl rfl rfl (OpH.alloc zc_72 ?_)
    intro b3_3
    refine WL.heavy0 rfl rfl (OpH.storeTo (A := []) [_, _, _] rfl rfl rfl ts_72 rfl rfl rfl ?_)
    refine WL.nil ?_
    refine En.next ?_
    refine WC.seq ?_
    refine WC.seq ?_
    refine WC.region ?_
    refine Lt.ofWL.step rfl rfl rfl (OpV.assign rfl) ?_
    refine WL.nil ?_
    refine En.next ?_
    refine WC.block ?_
    obtain ⟨zy0, ezy0, h⟩ := bnd h
    refine WC.cut (X := ((List Int)) × ((Option Addr) × Nat × Nat × (List Nat))) (.exit 0) (fun x => zy0 = x.1) (fun x => match x with | (i_0e, (ai_0e, ni_0e, ci_0e, fi_0e)) => [(6, .pointer (some ⟨b0_0, 0, .none⟩)), (7, .pointer (some ⟨b3_3, 0, .none⟩))]) (fun x => match x with | (i_0e, (ai_0e, ni_0e, ci_0e, fi_0e)) => [Chunk.box b0_0 72 [.int .i64 0, .int .i64 0, .slice .none 0 0], Chunk.box b3_3 72 [.int .i64 w_p0, .int .i64 h_p1, .slice ai_0e ni_0e ci_0e], Chunk.own tInt fi_0e ai_0e ni_0e ci_0e i_0e]) ?_ ?_
    ·
      rintro ⟨i_0e, ⟨ai_0e, ni_0e, ci_0e, fi_0e⟩⟩ hx
      replace hx : i_0e = zy0 := hx.symm
      subst hx
      show En _ _ _ _ [(6, .pointer (some ⟨b0_0, 0, .none⟩)), (7, .pointer (some ⟨b3_3, 0, .none⟩))] [Chunk.box b0_0 72 [.int .i64 0, .int .i64 0, .slice .none 0 0], Chunk.box b3_3 72 [.int .i64 w_p0, .int .i64 h_p1, .slice ai_0e ni_0e ci_0e], Chunk.own tInt fi_0e ai_0e ni_0e ci_0e i_0e]
      refine En.block_exit ?_
      refine En.next ?_
      refine WC.seq ?_
      refine WC.region ?_
      refine Lt.ofWL.step rfl rfl rfl (OpV.loadAll rfl (.tail _ (.head _)) ag_72) ?_
      refine WL.heavy0 rfl rfl (OpH.storeTo (A := []) [_, _, _] rfl rfl rfl ts_72 rfl rfl rfl ?_)
      refine WL.nil ?_
      refine En.next ?_
      refine WC.ret ?_
      refine En.ret1 rfl (Res.cell rfl (.head _) ag_72) ?_
      obtain rfl := Option.some.inj h
      intro w' hs
      have hs := ((hs).perm (List.perm_middle (l₁ := [_, _]))).sub (.cons_cons _ (.cons _ (.cons _ (.slnil))))
      exact ⟨_, _, rfl, ⟨ai_0e, ni_0e, ci_0e, fi_0e, rfl, rfl⟩, hs⟩
    ·
      intro zK0_0
      refine WC.loopP (G := (Option Addr) × Nat × Nat × (List Nat)) (fun s g => match s, g with | (i_0, k_0), (ai_0, ni_0, ci_0, fi_0) => [(0, .int .i64 w_p0), (1, .int .i64 h_p1), (2, .int .i64 p_p2), (6, .pointer (some ⟨b0_0, 0, .none⟩)), (7, .pointer (some ⟨b3_3, 0, .none⟩)), (8, .int .i64 k_0)]) (fun s g => match s, g with | (i_0, k_0), (ai_0, ni_0, ci_0, fi_0) => [Chunk.box b0_0 72 [.int .i64 0, .int .i64 0, .slice .none 0 0], Chunk.box b3_3 72 [.int .i64 w_p0, .int .i64 h_p1, .slice ai_0 ni_0 ci_0], Chunk.own tInt fi_0 ai_0 ni_0 ci_0 i_0]) ([], 0) (.none, 0, 0, []) ezy0 (by exact Sub.cons rfl (Sub.cons rfl (Sub.cons rfl (Sub.cons rfl (Sub.cons rfl (Sub.cons rfl (Sub.nil _))))))) (by exact (fun _ h => (((h).ownNil (A := tInt)).perm (List.perm_middle (l₁ := [_]))).perm (List.perm_middle (l₁ := [_, _])))) ?_
      rintro zm0 ⟨i_0, k_0⟩ ⟨ai_0, ni_0, ci_0, fi_0⟩ zo0 zf0 zb0 ze0
      have zh0 : spec_NewImage_L0 w_p0 h_p1 p_p2 i_0 k_0 = some zo0 := zf0
      unfold spec_NewImage_L0 at zh0
      show WC _ _ _ _ _ [(0, .int .i64 w_p0), (1, .int .i64 h_p1), (2, .int .i64 p_p2), (6, .pointer (some ⟨b0_0, 0, .none⟩)), (7, .pointer (some ⟨b3_3, 0, .none⟩)), (8, .int .i64 k_0)] [Chunk.box b0_0 72 [.int .i64 0, .int .i64 0, .slice .none 0 0], Chunk.box b3_3 72 [.int .i64 w_p0, .int .i64 h_p1, .slice ai_0 ni_0 ci_0], Chunk.own tInt fi_0 ai_0 ni_0 ci_0 i_0]
      refine WC.seq ?_
      refine WC.seq ?_
      refine WC.region ?_
      refine Lt.ofWL.step rfl rfl rfl (OpV.move rfl) ?_
      refine Lt.ofWL.step rfl rfl rfl (OpV.move rfl) ?_
      refine Lt.ofWL.step rfl rfl rfl (OpV.move rfl) ?_
      refine Lt.ofWL.step rfl rfl rfl (OpV.mulR rfl rfl) ?_
      refine Lt.ofWL.step rfl rfl rfl (OpV.lss rfl rfl) ?_
      refine WL.nil ?_
      refine En.next ?_
      refine WC.cond rfl ?_ ?_
      ·
        intro hc_2
        replace zh0 := ifO_t hc_2 zh0
        refine WC.skip ?_
        refine En.next ?_
        refine WC.seq ?_
        refine WC.block ?_
        obtain ⟨x7_4, e7_4, zh0⟩ := bnd zh0
        refine WC.region ?_
        refine Lt.ofWL.step rfl rfl rfl (OpV.fieldAddr rfl fo_72_2) ?_
        refine Lt.ofWL.step rfl rfl rfl (OpV.loadBox rfl pt_23 (.tail _ (.head _)) rfl) ?_
        refine Lt.ofWL.step rfl rfl rfl (OpV.move rfl) ?_
        refine WL.heavy rfl rfl rfl (OpH.litF (A := tInt) (xs := [p_p2]) tInt_flat (evps.cons rfl (evps.nil)) (bs_23_1_0 _) rfl rfl (Nat.le_of_ble_eq_true rfl) ?_)
        intro b7_3
        refine WL.heavy rfl rfl rfl (OpH.appS (F := [_, _, _]) (A := tInt) tInt_flat rfl rfl rfl mi_23 rfl (by decide) (fun w hs => (Ow.rd (hs.mem (.head _)))) e7_4 ?_)
        intro f7_4 a7_4 c7_4
        refine Lt.ofWL.step rfl rfl rfl (OpV.fieldAddr rfl fo_72_2) ?_
        refine WL.heavy0 rfl rfl (OpH.storeTo (A := [_, _]) [_, _, _] rfl rfl rfl ts_23 rfl rfl rfl ?_)
        refine WL.nil ?_
        refine En.block_norm ?_
        refine En.next ?_
        refine WC.region ?_
        refine Lt.ofWL.step rfl rfl rfl (OpV.move rfl) ?_
        refine Lt.ofWL.step rfl rfl rfl (OpV.addR rfl rfl) ?_
        refine Lt.ofWL.step rfl rfl rfl (OpV.assign rfl) ?_
        refine WL.nil ?_
        exact En.backP zb0 zh0 (a7_4, x7_4.length, c7_4, f7_4) (Sub.cons rfl (Sub.cons rfl (Sub.cons rfl (Sub.cons rfl (Sub.cons rfl (Sub.cons rfl (Sub.nil _))))))) (fun _ h => ((((h).perm (List.perm_middle (l₁ := [_, _, _]))).perm (List.perm_middle (l₁ := [_, _, _]))).perm (List.perm_middle (l₁ := [_, _, _]))).sub (.cons_cons _ (.cons_cons _ (.cons_cons _ (.cons _ (.slnil))))))
      ·
        intro hc_2
        replace zh0 := ifO_f hc_2 zh0
        refine WC.exit ?_
        refine En.then_exit ?_
        refine En.then_exit ?_
        have hx := exitP ze0 zh0
        exact En.wk _ _ (Sub.cons rfl (Sub.cons rfl (Sub.nil _))) (fun _ h => h) (zK0_0 (i_0, (ai_0, ni_0, ci_0, fi_0)) hx.symm)

theorem w_spec_PlaneOf {i_p0 : ImageT} {x_p1 : Int} {y_p2 : Int} {layout_p3 : Int} {r : PlaneT} {q0_0 : Option Addr} {n0_0 k0_0 : Nat} (h : spec_PlaneOf i_p0 x_p1 y_p2 layout_p3 = some r) {w : World} (r0_0 : Rd tInt w q0_0 n0_0 k0_0 i_p0.Data)   :
    Calls Try.prog 38 #[.agg #[.int .i64 i_p0.W, .int .i64 i_p0.H, .slice q0_0 n0_0 k0_0], .int .i64 x_p1, .int .i64 y_p2, .int .i64 layout_p3] w (fun en w' => ∃ rv G, en = .returned rv ∧ (∃ (a0_0 : Option Addr) (n0_0 : Nat) (c0_0 : Nat) (f0_0 : List Nat), rv = .agg #[.bool r.On, .int .i64 r.X, .int .i64 r.Y, .int .i64 r.W, .int .i64 r.H, .int .i64 r.Layout, .slice a0_0 n0_0 c0_0, .int .i64 r.Alpha, .int .i64 r.Orient, .int .i64 r.ToW, .int .i64 r.ToH] ∧ G = [Chunk.own tInt f0_0 a0_0 n0_0 c0_0 r.Words]) ∧ St w G w') := by
  obtain rfl := r0_0.1
  unfold spec_PlaneOf at h
  refine enter (vs := [_, _, _, _]) Try.func38 rfl rfl rfl rfl ?_
  refine WC.seq ?_
  refine WC.region ?_
  refine WL.heavy rfl rfl rfl (OpH.box rfl rfl ?_)
  intro b0_0
  refine WL.heavy rfl rfl rfl (OpH.alloc zc_59 ?_)
  intro b0_1
  refine WL.nil ?_
  refine En.next ?_
  refine WC.seq ?_
  obtain ⟨⟨x1_2a, x1_2b⟩, e1_2, h⟩ := bnd h
  refine WC.region ?_
  refine Lt.ofWL.step rfl rfl rfl (OpV.loadAll rfl (.tail _ (.head _)) ag_72) ?_
  refine Lt.ofWL.step rfl rfl rfl (OpV.move rfl) ?_
  refine WL.heavy rfl rfl rfl (OpH.callR (evs.cons rfl (evs.cons rfl (evs.nil))) ca_74 (fun w hs => w_spec_StoreImage e1_2 (r0_0.ext hs.below)) ?_)
  rintro _ _ ⟨a1_200, n1_200, c1_200, f1_200, rfl, rfl⟩
  refine Lt.ofWL.step rfl rfl rfl (OpV.move rfl) ?_
  refine Lt.ofWL.step rfl rfl rfl (OpV.extract rfl rfl) ?_
  refine Lt.ofWL.step rfl rfl rfl (OpV.extract rfl rfl) ?_
  refine Lt.ofWL.step rfl rfl rfl (OpV.assign rfl) ?_
  refine Lt.ofWL.step rfl rfl rfl (OpV.assign rfl) ?_
  refine WL.nil ?_
  refine En.next ?_
  refine WC.seq ?_
  refine WC.seq ?_
  refine WC.region ?_
  refine Lt.ofWL.step rfl rfl rfl (OpV.move rfl) ?_
  refine Lt.ofWL.step rfl rfl rfl (OpV.not rfl) ?_
  refine WL.nil ?_
  refine En.next ?_
  refine WC.cond rfl ?_ ?_
  ·
    intro hc_1
    replace h := ifO_t hc_1 h
    refine WC.seq ?_
    refine WC.region ?_
    refine Lt.ofWL.step rfl rfl rfl (OpV.build (evps.nil) bd_59_) ?_
    refine WL.heavy0 rfl rfl (OpH.storeTo (A := [_]) [_, _, _, _, _, _, _, _, _, _, _] rfl rfl rfl ts_59 rfl rfl rfl ?_)
    refine WL.nil ?_
    refine En.next ?_
    refine WC.ret ?_
    refine En.then_ret ?_
    refine En.ret1 rfl (Res.cell rfl (.tail _ (.head _)) ag_59) ?_
    obtain rfl := Option.some.inj h
    intro w' hs
    have hs := ((hs).ownNil (A := tInt)).sub (.cons_cons _ (.cons _ (.cons _ (.cons _ (.slnil)))))
    exact ⟨_, _, rfl, ⟨.none, 0, 0, [], rfl, rfl⟩, hs⟩
  ·
    intro hc_1
    replace h := ifO_f hc_1 h
    refine WC.skip ?_
    refine En.next ?_
    refine WC.seq ?_
    refine WC.region ?_
    refine Lt.ofWL.step rfl rfl rfl (OpV.move rfl) ?_
    refine Lt.ofWL.step rfl rfl rfl (OpV.move rfl) ?_
    refine Lt.ofWL.step rfl rfl rfl (OpV.fieldAddr rfl fo_72_0) ?_
    refine Lt.ofWL.step rfl rfl rfl (OpV.loadBox rfl pt_3 (.tail _ (.tail _ (.head _))) rfl) ?_
    refine Lt.ofWL.step rfl rfl rfl (OpV.fieldAddr rfl fo_72_1) ?_
    refine Lt.ofWL.step rfl rfl rfl (OpV.loadBox rfl pt_3 (.tail _ (.tail _ (.head _))) rfl) ?_
    refine Lt.ofWL.step rfl rfl rfl (OpV.move rfl) ?_
    refine Lt.ofWL.step rfl rfl rfl (OpV.move rfl) ?_
    refine Lt.ofWL.step rfl rfl rfl (OpV.build (evps.cons rfl (evps.cons rfl (evps.cons rfl (evps.cons rfl (evps.cons rfl (evps.cons rfl (evps.cons rfl (evps.cons rfl (evps.nil))))))))) (bd_59_0_1_2_3_4_5_6_7 _ _ _ _ _ _ _ _ _ _)) ?_
    refine WL.heavy0 rfl rfl (OpH.storeTo (A := [_]) [_, _, _, _, _, _, _, _, _, _, _] rfl rfl rfl ts_59 rfl rfl rfl ?_)
    refine WL.nil ?_
    refine En.next ?_
    refine WC.ret ?_
    refine En.ret1 rfl (Res.cell rfl (.tail _ (.head _)) ag_59) ?_
    obtain rfl := Option.some.inj h
    intro w' hs
    have hs := (hs).sub (.cons_cons _ (.cons _ (.cons _ (.slnil))))
    exact ⟨_, _, rfl, ⟨a1_200, n1_200, c1_200, f1_200, rfl, rfl⟩, hs⟩

theorem w_spec_IdentityColor  {r : ColorMapT}  (h : spec_IdentityColor = some r) {w : World}    :
    Calls Try.prog 40 #[] w (fun en w' => ∃ rv G, en = .returned rv ∧ (∃ (a0_0 : Option Addr) (n0_0 : Nat) (c0_0 : Nat) (f0_0 : List Nat) (a0_1 : Option Addr) (n0_1 : Nat) (c0_1 : Nat) (f0_1 : List Nat), rv = .agg #[.slice a0_0 n0_0 c0_0, .slice a0_1 n0_1 c0_1] ∧ G = [Chunk.own tInt f0_0 a0_0 n0_0 c0_0 r.Matrix, Chunk.own tInt f0_1 a0_1 n0_1 c0_1 r.Curve]) ∧ St w G w') := by
  unfold spec_IdentityColor at h
  refine enter (vs := []) Try.func40 rfl rfl rfl rfl ?_
  refine WC.seq ?_
  refine WC.region ?_
  refine WL.heavy rfl rfl rfl (OpH.alloc zc_31 ?_)
  intro b0_0
  refine WL.nil ?_
  refine En.next ?_
  refine WC.seq ?_
  refine WC.region ?_
  refine WL.heavy rfl rfl rfl (OpH.litF (A := tInt) (xs := [256, 0, 0, 0, 256, 0, 0, 0, 256]) tInt_flat (evps.cons rfl (evps.cons rfl (evps.cons rfl (evps.cons rfl (evps.cons rfl (evps.cons rfl (evps.cons rfl (evps.cons rfl (evps.cons rfl (evps.nil)))))))))) (bs_23_9_0_1_2_3_4_5_6_7_8 _ _ _ _ _ _ _ _ _) rfl rfl (Nat.le_of_ble_eq_true rfl) ?_)
  intro b1_0
  refine Lt.ofWL.step rfl rfl rfl (OpV.build (evps.cons rfl (evps.nil)) (bd_31_0 _ _ _)) ?_
  refine WL.heavy rfl rfl rfl (OpH.alloc zc_31 ?_)
  intro b1_2
  refine WL.heavy0 rfl rfl (OpH.storeTo (A := []) [_, _] rfl rfl rfl ts_31 rfl rfl rfl ?_)
  refine WL.nil ?_
  refine En.next ?_
  refine WC.seq ?_
  refine WC.seq ?_
  refine WC.region ?_
  refine Lt.ofWL.step rfl rfl rfl (OpV.assign rfl) ?_
  refine WL.nil ?_
  refine En.next ?_
  refine WC.block ?_
  obtain ⟨zy0, ezy0, h⟩ := bnd h
  refine WC.cut (X := ((List Int)) × ((Option Addr) × Nat × Nat × (List Nat))) (.exit 0) (fun x => zy0 = x.1) (fun x => match x with | (m_0e, (am_0e, nm_0e, cm_0e, fm_0e)) => [(0, .pointer (some ⟨b0_0, 0, .none⟩)), (1, .pointer (some ⟨b1_2, 0, .none⟩))]) (fun x => match x with | (m_0e, (am_0e, nm_0e, cm_0e, fm_0e)) => [Chunk.box b0_0 31 [.slice .none 0 0, .slice .none 0 0], Chunk.box b1_2 31 [.slice (some ⟨b1_0, 0, .none⟩) 9 9, .slice am_0e nm_0e cm_0e], Chunk.own tInt [b1_0] (some ⟨b1_0, 0, .none⟩) 9 9 [256, 0, 0, 0, 256, 0, 0, 0, 256], Chunk.own tInt fm_0e am_0e nm_0e cm_0e m_0e]) ?_ ?_
  ·
    rintro ⟨m_0e, ⟨am_0e, nm_0e, cm_0e, fm_0e⟩⟩ hx
    replace hx : m_0e = zy0 := hx.symm
    subst hx
    show En _ _ _ _ [(0, .pointer (some ⟨b0_0, 0, .none⟩)), (1, .pointer (some ⟨b1_2, 0, .none⟩))] [Chunk.box b0_0 31 [.slice .none 0 0, .slice .none 0 0], Chunk.box b1_2 31 [.slice (some ⟨b1_0, 0, .none⟩) 9 9, .slice am_0e nm_0e cm_0e], Chunk.own tInt [b1_0] (some ⟨b1_0, 0, .none⟩) 9 9 [256, 0, 0, 0, 256, 0, 0, 0, 256], Chunk.own tInt fm_0e am_0e nm_0e cm_0e m_0e]
    refine En.block_exit ?_
    refine En.next ?_
    refine WC.seq ?_
    refine WC.region ?_
    refine Lt.ofWL.step rfl rfl rfl (OpV.loadAll rfl (.tail _ (.head _)) ag_31) ?_
    refine WL.heavy0 rfl rfl (OpH.storeTo (A := []) [_, _] rfl rfl rfl ts_31 rfl rfl rfl ?_)
    refine WL.nil ?_
    refine En.next ?_
    refine WC.ret ?_
    refine En.ret1 rfl (Res.cell rfl (.head _) ag_31) ?_
    obtain rfl := Option.some.inj h
    intro w' hs
    have hs := (((hs).perm (List.perm_middle (l₁ := [_, _, _]))).perm (List.perm_middle (l₁ := [_, _, _]))).sub (.cons_cons _ (.cons_cons _ (.cons _ (.cons _ (.slnil)))))
    exact ⟨_, _, rfl, ⟨(some ⟨b1_0, 0, .none⟩), 9, 9, [b1_0], am_0e, nm_0e, cm_0e, fm_0e, rfl, rfl⟩, hs⟩
  ·
    intro zK0_0
    refine WC.loopP (G := (Option Addr) × Nat × Nat × (List Nat)) (fun s g => match s, g with | (m_0, k_0), (am_0, nm_0, cm_0, fm_0) => [(0, .pointer (some ⟨b0_0, 0, .none⟩)), (1, .pointer (some ⟨b1_2, 0, .none⟩)), (2, .int .i64 k_0)]) (fun s g => match s, g with | (m_0, k_0), (am_0, nm_0, cm_0, fm_0) => [Chunk.box b0_0 31 [.slice .none 0 0, .slice .none 0 0], Chunk.box b1_2 31 [.slice (some ⟨b1_0, 0, .none⟩) 9 9, .slice am_0 nm_0 cm_0], Chunk.own tInt [b1_0] (some ⟨b1_0, 0, .none⟩) 9 9 [256, 0, 0, 0, 256, 0, 0, 0, 256], Chunk.own tInt fm_0 am_0 nm_0 cm_0 m_0]) ([], 0) (.none, 0, 0, []) ezy0 (by exact Sub.cons rfl (Sub.cons rfl (Sub.cons rfl (Sub.nil _)))) (by exact (fun _ h => ((((h).ownNil (A := tInt)).perm (List.perm_middle (l₁ := [_, _]))).perm (List.perm_middle (l₁ := [_, _]))).perm (List.perm_middle (l₁ := [_, _, _])))) ?_
    rintro zm0 ⟨m_0, k_0⟩ ⟨am_0, nm_0, cm_0, fm_0⟩ zo0 zf0 zb0 ze0
    have zh0 : spec_IdentityColor_L0 m_0 k_0 = some zo0 := zf0
    unfold spec_IdentityColor_L0 at zh0
    show WC _ _ _ _ _ [(0, .pointer (some ⟨b0_0, 0, .none⟩)), (1, .pointer (some ⟨b1_2, 0, .none⟩)), (2, .int .i64 k_0)] [Chunk.box b0_0 31 [.slice .none 0 0, .slice .none 0 0], Chunk.box b1_2 31 [.slice (some ⟨b1_0, 0, .none⟩) 9 9, .slice am_0 nm_0 cm_0], Chunk.own tInt [b1_0] (some ⟨b1_0, 0, .none⟩) 9 9 [256, 0, 0, 0, 256, 0, 0, 0, 256], Chunk.own tInt fm_0 am_0 nm_0 cm_0 m_0]
    refine WC.seq ?_
    refine WC.seq ?_
    refine WC.region ?_
    refine Lt.ofWL.step rfl rfl rfl (OpV.move rfl) ?_
    refine Lt.ofWL.step rfl rfl rfl (OpV.lss rfl rfl) ?_
    refine WL.nil ?_
    refine En.next ?_
    refine WC.cond rfl ?_ ?_
    ·
      intro hc_1
      replace zh0 := ifO_t hc_1 zh0
      refine WC.skip ?_
      refine En.next ?_
      refine WC.seq ?_
      refine WC.block ?_
      obtain ⟨x5_5, e5_5, zh0⟩ := bnd zh0
      refine WC.region ?_
      refine Lt.ofWL.step rfl rfl rfl (OpV.fieldAddr rfl fo_31_1) ?_
      refine Lt.ofWL.step rfl rfl rfl (OpV.loadBox rfl pt_23 (.tail _ (.head _)) rfl) ?_
      refine Lt.ofWL.step rfl rfl rfl (OpV.move rfl) ?_
      refine Lt.ofWL.step rfl rfl rfl (OpV.mulR rfl rfl) ?_
      refine WL.heavy rfl rfl rfl (OpH.litF (A := tInt) (xs := [(wr (16 * k_0))]) tInt_flat (evps.cons rfl (evps.nil)) (bs_23_1_0 _) rfl rfl (Nat.le_of_ble_eq_true rfl) ?_)
      intro b5_4
      refine WL.heavy rfl rfl rfl (OpH.appS (F := [_, _, _, _]) (A := tInt) tInt_flat rfl rfl rfl mi_23 rfl (by decide) (fun w hs => (Ow.rd (hs.mem (.head _)))) e5_5 ?_)
      intro f5_5 a5_5 c5_5
      refine Lt.ofWL.step rfl rfl rfl (OpV.fieldAddr rfl fo_31_1) ?_
      refine WL.heavy0 rfl rfl (OpH.storeTo (A := [_, _]) [_, _] rfl rfl rfl ts_23 rfl rfl rfl ?_)
      refine WL.nil ?_
      refine En.block_norm ?_
      refine En.next ?_
      refine WC.region ?_
      refine Lt.ofWL.step rfl rfl rfl (OpV.move rfl) ?_
      refine Lt.ofWL.step rfl rfl rfl (OpV.addR rfl rfl) ?_
      refine Lt.ofWL.step rfl rfl rfl (OpV.assign rfl) ?_
      refine WL.nil ?_
      exact En.backP zb0 zh0 (a5_5, x5_5.length, c5_5, f5_5) (Sub.cons rfl (Sub.cons rfl (Sub.cons rfl (Sub.nil _)))) (fun _ h => (((((h).perm (List.perm_middle (l₁ := [_, _, _, _]))).perm (List.perm_middle (l₁ := [_, _, _, _]))).perm (List.perm_middle (l₁ := [_, _, _, _]))).perm (List.perm_middle (l₁ := [_, _, _, _]))).sub (.cons_cons _ (.cons_cons _ (.cons_cons _ (.cons_cons _ (.cons _ (.slnil)))))))
    ·
      intro hc_1
      replace zh0 := ifO_f hc_1 zh0
      refine WC.exit ?_
      refine En.then_exit ?_
      refine En.then_exit ?_
      have hx := exitP ze0 zh0
      exact En.wk _ _ (Sub.cons rfl (Sub.cons rfl (Sub.nil _))) (fun _ h => h) (zK0_0 (m_0, (am_0, nm_0, cm_0, fm_0)) hx.symm)

theorem w_spec_BlankCrtc {w_p0 : Int} {h_p1 : Int} {p_p2 : Int} {r : CrtcT × Bool}  (h : spec_BlankCrtc w_p0 h_p1 p_p2 = some r) {w : World}    :
    Calls Try.prog 13 #[.int .i64 w_p0, .int .i64 h_p1, .int .i64 p_p2] w (fun en w' => ∃ rv G, en = .returned rv ∧ (∃ (a0_0 : Option Addr) (n0_0 : Nat) (c0_0 : Nat) (f0_0 : List Nat) (a0_1 : Option Addr) (n0_1 : Nat) (c0_1 : Nat) (f0_1 : List Nat) (a0_2 : Option Addr) (n0_2 : Nat) (c0_2 : Nat) (f0_2 : List Nat), rv = .tuple #[.agg #[.int .i64 r.1.W, .int .i64 r.1.H, .slice a0_0 n0_0 c0_0, .slice a0_1 n0_1 c0_1, .slice a0_2 n0_2 c0_2], .bool r.2] ∧ G = [Chunk.own tPlane f0_0 a0_0 n0_0 c0_0 r.1.Planes, Chunk.own tInt f0_1 a0_1 n0_1 c0_1 r.1.Color.Matrix, Chunk.own tInt f0_2 a0_2 n0_2 c0_2 r.1.Color.Curve]) ∧ St w G w') := by
  unfold spec_BlankCrtc at h
  refine enter (vs := [_, _, _]) Try.func13 rfl rfl rfl rfl ?_
  refine WC.seq ?_
  refine WC.region ?_
  refine WL.heavy rfl rfl rfl (OpH.alloc zc_33 ?_)
  intro b0_0
  refine Lt.ofWL.step rfl rfl rfl (OpV.assign rfl) ?_
  refine WL.nil ?_
  refine En.next ?_
  refine WC.seq ?_
  obtain ⟨x1_5, e1_5, h⟩ := bnd h
  obtain ⟨x1_6, e1_6, h⟩ := bnd h
  obtain ⟨x1_11, e1_11, h⟩ := bnd h
  refine WC.region ?_
  refine Lt.ofWL.step rfl rfl rfl (OpV.move rfl) ?_
  refine Lt.ofWL.step rfl rfl rfl (OpV.move rfl) ?_
  refine Lt.ofWL.step rfl rfl rfl (OpV.move rfl) ?_
  refine Lt.ofWL.step rfl rfl rfl (OpV.move rfl) ?_
  refine Lt.ofWL.step rfl rfl rfl (OpV.move rfl) ?_
  refine WL.heavy rfl rfl rfl (OpH.callR (evs.cons rfl (evs.cons rfl (evs.cons rfl (evs.nil)))) ca_39 (fun w hs => w_spec_NewImage e1_5) ?_)
  rintro _ _ ⟨a1_500, n1_500, c1_500, f1_500, rfl, rfl⟩
  refine WL.heavy rfl rfl rfl (OpH.callR (evs.cons rfl (evs.cons rfl (evs.cons rfl (evs.cons rfl (evs.nil))))) ca_38 (fun w hs => w_spec_PlaneOf e1_6 (Ow.rd (hs.mem (.head _)))) ?_)
  rintro _ _ ⟨a1_600, n1_600, c1_600, f1_600, rfl, rfl⟩
  refine Lt.ofWL.step rfl rfl rfl (OpV.build (evps.nil) bd_59_) ?_
  refine Lt.ofWL.step rfl rfl rfl (OpV.build (evps.nil) bd_59_) ?_
  refine Lt.ofWL.step rfl rfl rfl (OpV.build (evps.nil) bd_59_) ?_
  refine WL.wkF (fun _ h => h.innNil (A := tPlane)) ?_
  refine WL.wkF (fun _ h => h.perm (List.perm_middle (l₁ := [_]))) ?_
  refine WL.wkF (fun _ h => tPlane_mk x1_6.On x1_6.X x1_6.Y x1_6.W x1_6.H x1_6.Layout x1_6.Words x1_6.Alpha x1_6.Orient x1_6.ToW x1_6.ToH h) ?_
  refine WL.wkF (fun _ h => h.innSnoc) ?_
  refine WL.wkF (fun _ h => h.ownNil (A := tInt)) ?_
  refine WL.wkF (fun _ h => tPlane_mk false 0 0 0 0 0 ([] : List Int) 0 0 0 0 h) ?_
  refine WL.wkF (fun _ h => h.innSnoc) ?_
  refine WL.wkF (fun _ h => h.ownNil (A := tInt)) ?_
  refine WL.wkF (fun _ h => tPlane_mk false 0 0 0 0 0 ([] : List Int) 0 0 0 0 h) ?_
  refine WL.wkF (fun _ h => h.innSnoc) ?_
  refine WL.wkF (fun _ h => h.ownNil (A := tInt)) ?_
  refine WL.wkF (fun _ h => tPlane_mk false 0 0 0 0 0 ([] : List Int) 0 0 0 0 h) ?_
  refine WL.wkF (fun _ h => h.innSnoc) ?_
  refine WL.heavy rfl rfl rfl (OpH.litN (A := tPlane) (evps.cons rfl (evps.cons rfl (evps.cons rfl (evps.cons rfl (evps.nil))))) (bs_30_4_0_1_2_3 _ _ _ _ _ _ _ _ _ _ _ _ _ _ _ _ _ _ _ _ _ _ _ _ _ _ _ _ _ _ _ _ _ _ _ _ _ _ _ _ _ _ _ _ _ _ _ _ _ _ _ _) rfl rfl (Nat.le_of_ble_eq_true rfl) ?_)
  intro b1_10 f1_10
  refine WL.heavy rfl rfl rfl (OpH.callR (evs.nil) ca_40 (fun w hs => w_spec_IdentityColor e1_11) ?_)
  rintro _ _ ⟨a1_1100, n1_1100, c1_1100, f1_1100, a1_1101, n1_1101, c1_1101, f1_1101, rfl, rfl⟩
  refine Lt.ofWL.step rfl rfl rfl (OpV.build (evps.cons rfl (evps.cons rfl (evps.cons rfl (evps.cons rfl (evps.nil))))) (bd_33_0_1_2_3 _ _ _ _ _ _ _ _ _ _ _)) ?_
  refine WL.heavy rfl rfl rfl (OpH.alloc zc_33 ?_)
  intro b1_13
  refine WL.heavy0 rfl rfl (OpH.storeTo (A := []) [_, _, _, _, _] rfl rfl rfl ts_33 rfl rfl rfl ?_)
  refine WL.nil ?_
  refine En.next ?_
  refine WC.seq ?_
  refine WC.seq ?_
  obtain ⟨x2_1, e2_1, h⟩ := bnd h
  refine WC.region ?_
  refine Lt.ofWL.step rfl rfl rfl (OpV.loadAll rfl (.head _) ag_33) ?_
  refine Lt.ofWL.step rfl rfl rfl (OpV.call (evs.cons rfl (evs.nil)) ca_9 (fun w hs => w_spec_CrtcOk e2_1 (Ow.rd (hs.mem (.tail _ (.tail _ (.tail _ (.head _)))))) (Ow.rd (hs.mem (.tail _ (.head _)))) (Ow.rd (hs.mem (.tail _ (.tail _ (.head _))))))) ?_
  refine Lt.ofWL.step rfl rfl rfl (OpV.not rfl) ?_
  refine WL.nil ?_
  refine En.next ?_
  refine WC.cond rfl ?_ ?_
  ·
    intro hc_1
    replace h := ifO_t hc_1 h
    refine WC.seq ?_
    refine WC.region ?_
    refine Lt.ofWL.step rfl rfl rfl (OpV.build (evps.nil) bd_33_) ?_
    refine WL.heavy0 rfl rfl (OpH.storeTo (A := [_, _, _, _, _]) [_, _, _, _, _] rfl rfl rfl ts_33 rfl rfl rfl ?_)
    refine Lt.ofWL.step rfl rfl rfl (OpV.assign rfl) ?_
    refine WL.nil ?_
    refine En.next ?_
    refine WC.ret ?_
    refine En.then_ret ?_
    refine En.ret2 rfl (Res.cell rfl (.tail _ (.tail _ (.tail _ (.tail _ (.tail _ (.head _)))))) ag_33) (Res.tmp rfl) ?_
    obtain rfl := Option.some.inj h
    intro w' hs
    have hs := ((((((hs).ownNil (A := tPlane)).ownNil (A := tInt)).ownNil (A := tInt)).perm (List.perm_middle (l₁ := [_]))).perm (List.perm_middle (l₁ := [_, _]))).sub (.cons_cons _ (.cons_cons _ (.cons_cons _ (.cons _ (.cons _ (.cons _ (.cons _ (.cons _ (.cons _ (.slnil))))))))))
    exact ⟨_, _, rfl, ⟨.none, 0, 0, [], .none, 0, 0, [], .none, 0, 0, [], rfl, rfl⟩, hs⟩
  ·
    intro hc_1
    replace h := ifO_f hc_1 h
    refine WC.skip ?_
    refine En.next ?_
    refine WC.seq ?_
    refine WC.region ?_
    refine Lt.ofWL.step rfl rfl rfl (OpV.loadAll rfl (.head _) ag_33) ?_
    refine WL.heavy0 rfl rfl (OpH.storeTo (A := [_, _, _, _, _]) [_, _, _, _, _] rfl rfl rfl ts_33 rfl rfl rfl ?_)
    refine Lt.ofWL.step rfl rfl rfl (OpV.assign rfl) ?_
    refine WL.nil ?_
    refine En.next ?_
    refine WC.ret ?_
    refine En.ret2 rfl (Res.cell rfl (.tail _ (.tail _ (.tail _ (.tail _ (.tail _ (.head _)))))) ag_33) (Res.tmp rfl) ?_
    obtain rfl := Option.some.inj h
    intro w' hs
    have hs := ((((hs).perm (List.perm_middle (l₁ := [_, _]))).perm (List.perm_middle (l₁ := [_, _]))).perm (List.perm_middle (l₁ := [_, _, _]))).sub (.cons_cons _ (.cons_cons _ (.cons_cons _ (.cons _ (.cons _ (.cons _ (.slnil)))))))
    exact ⟨_, _, rfl, ⟨(some ⟨b1_10, 0, .none⟩), 4, 4, f1_10, a1_1100, n1_1100, c1_1100, f1_1100, a1_1101, n1_1101, c1_1101, f1_1101, rfl, rfl⟩, hs⟩

theorem w_impl_IdentityColor  {r : ColorMapT}  (h : impl_IdentityColor = some r) {w : World}    :
    Calls Try.prog 41 #[] w (fun en w' => ∃ rv G, en = .returned rv ∧ (∃ (a0_0 : Option Addr) (n0_0 : Nat) (c0_0 : Nat) (f0_0 : List Nat) (a0_1 : Option Addr) (n0_1 : Nat) (c0_1 : Nat) (f0_1 : List Nat), rv = .agg #[.slice a0_0 n0_0 c0_0, .slice a0_1 n0_1 c0_1] ∧ G = [Chunk.own tInt f0_0 a0_0 n0_0 c0_0 r.Matrix, Chunk.own tInt f0_1 a0_1 n0_1 c0_1 r.Curve]) ∧ St w G w') := by
  unfold impl_IdentityColor at h
  refine enter (vs := []) Try.func41 rfl rfl rfl rfl ?_
  refine WC.seq ?_
  refine WC.region ?_
  refine WL.heavy rfl rfl rfl (OpH.alloc zc_31 ?_)
  intro b0_0
  refine WL.nil ?_
  refine En.next ?_
  refine WC.seq ?_
  refine WC.region ?_
  refine WL.heavy rfl rfl rfl (OpH.litF (A := tInt) (xs := [256, 0, 0, 0, 256, 0, 0, 0, 256]) tInt_flat (evps.cons rfl (evps.cons rfl (evps.cons rfl (evps.cons rfl (evps.cons rfl (evps.cons rfl (evps.cons rfl (evps.cons rfl (evps.cons rfl (evps.nil)))))))))) (bs_23_9_0_1_2_3_4_5_6_7_8 _ _ _ _ _ _ _ _ _) rfl rfl (Nat.le_of_ble_eq_true rfl) ?_)
  intro b1_0
  refine Lt.ofWL.step rfl rfl rfl (OpV.build (evps.cons rfl (evps.nil)) (bd_31_0 _ _ _)) ?_
  refine WL.heavy rfl rfl rfl (OpH.alloc zc_31 ?_)
  intro b1_2
  refine WL.heavy0 rfl rfl (OpH.storeTo (A := []) [_, _] rfl rfl rfl ts_31 rfl rfl rfl ?_)
  refine WL.nil ?_
  refine En.next ?_
  refine WC.seq ?_
  refine WC.seq ?_
  refine WC.region ?_
  refine Lt.ofWL.step rfl rfl rfl (OpV.move rfl) ?_
  refine WL.nil ?_
  refine En.next ?_
  refine WC.block ?_
  obtain ⟨zy0, ezy0, h⟩ := bnd h
  refine WC.cut (X := ((List Int)) × ((Option Addr) × Nat × Nat × (List Nat))) (.exit 0) (fun x => zy0 = x.1) (fun x => match x with | (m_0e, (am_0e, nm_0e, cm_0e, fm_0e)) => [(0, .pointer (some ⟨b0_0, 0, .none⟩)), (1, .pointer (some ⟨b1_2, 0, .none⟩))]) (fun x => match x with | (m_0e, (am_0e, nm_0e, cm_0e, fm_0e)) => [Chunk.box b0_0 31 [.slice .none 0 0, .slice .none 0 0], Chunk.box b1_2 31 [.slice (some ⟨b1_0, 0, .none⟩) 9 9, .slice am_0e nm_0e cm_0e], Chunk.own tInt [b1_0] (some ⟨b1_0, 0, .none⟩) 9 9 [256, 0, 0, 0, 256, 0, 0, 0, 256], Chunk.own tInt fm_0e am_0e nm_0e cm_0e m_0e]) ?_ ?_
  ·
    rintro ⟨m_0e, ⟨am_0e, nm_0e, cm_0e, fm_0e⟩⟩ hx
    replace hx : m_0e = zy0 := hx.symm
    subst hx
    show En _ _ _ _ [(0, .pointer (some ⟨b0_0, 0, .none⟩)), (1, .pointer (some ⟨b1_2, 0, .none⟩))] [Chunk.box b0_0 31 [.slice .none 0 0, .slice .none 0 0], Chunk.box b1_2 31 [.slice (some ⟨b1_0, 0, .none⟩) 9 9, .slice am_0e nm_0e cm_0e], Chunk.own tInt [b1_0] (some ⟨b1_0, 0, .none⟩) 9 9 [256, 0, 0, 0, 256, 0, 0, 0, 256], Chunk.own tInt fm_0e am_0e nm_0e cm_0e m_0e]
    refine En.block_exit ?_
    refine En.next ?_
    refine WC.seq ?_
    refine WC.region ?_
    refine Lt.ofWL.step rfl rfl rfl (OpV.loadAll rfl (.tail _ (.head _)) ag_31) ?_
    refine WL.heavy0 rfl rfl (OpH.storeTo (A := []) [_, _] rfl rfl rfl ts_31 rfl rfl rfl ?_)
    refine WL.nil ?_
    refine En.next ?_
    refine WC.ret ?_
    refine En.ret1 rfl (Res.cell rfl (.head _) ag_31) ?_
    obtain rfl := Option.some.inj h
    intro w' hs
    have hs := (((hs).perm (List.perm_middle (l₁ := [_, _, _]))).perm (List.perm_middle (l₁ := [_, _, _]))).sub (.cons_cons _ (.cons_cons _ (.cons _ (.cons _ (.slnil)))))
    exact ⟨_, _, rfl, ⟨(some ⟨b1_0, 0, .none⟩), 9, 9, [b1_0], am_0e, nm_0e, cm_0e, fm_0e, rfl, rfl⟩, hs⟩
  ·
    intro zK0_0
    refine WC.loopP (G := (Option Addr) × Nat × Nat × (List Nat)) (fun s g => match s, g with | (m_0, v_0), (am_0, nm_0, cm_0, fm_0) => [(0, .pointer (some ⟨b0_0, 0, .none⟩)), (1, .pointer (some ⟨b1_2, 0, .none⟩)), (5, .int .i64 v_0)]) (fun s g => match s, g with | (m_0, v_0), (am_0, nm_0, cm_0, fm_0) => [Chunk.box b0_0 31 [.slice .none 0 0, .slice .none 0 0], Chunk.box b1_2 31 [.slice (some ⟨b1_0, 0, .none⟩) 9 9, .slice am_0 nm_0 cm_0], Chunk.own tInt [b1_0] (some ⟨b1_0, 0, .none⟩) 9 9 [256, 0, 0, 0, 256, 0, 0, 0, 256], Chunk.own tInt fm_0 am_0 nm_0 cm_0 m_0]) ([], 0) (.none, 0, 0, []) ezy0 (by exact Sub.cons rfl (Sub.cons rfl (Sub.cons rfl (Sub.nil _)))) (by exact (fun _ h => ((((h).ownNil (A := tInt)).perm (List.perm_middle (l₁ := [_, _]))).perm (List.perm_middle (l₁ := [_, _]))).perm (List.perm_middle (l₁ := [_, _, _])))) ?_
    rintro zm0 ⟨m_0, v_0⟩ ⟨am_0, nm_0, cm_0, fm_0⟩ zo0 zf0 zb0 ze0
    have zh0 : impl_IdentityColor_L0 m_0 v_0 = some zo0 := zf0
    unfold impl_IdentityColor_L0 at zh0
    show WC _ _ _ _ _ [(0, .pointer (some ⟨b0_0, 0, .none⟩)), (1, .pointer (some ⟨b1_2, 0, .none⟩)), (5, .int .i64 v_0)] [Chunk.box b0_0 31 [.slice .none 0 0, .slice .none 0 0], Chunk.box b1_2 31 [.slice (some ⟨b1_0, 0, .none⟩) 9 9, .slice am_0 nm_0 cm_0], Chunk.own tInt [b1_0] (some ⟨b1_0, 0, .none⟩) 9 9 [256, 0, 0, 0, 256, 0, 0, 0, 256], Chunk.own tInt fm_0 am_0 nm_0 cm_0 m_0]
    refine WC.seq ?_
    refine WC.region ?_
    refine Lt.ofWL.step rfl rfl rfl (OpV.lss rfl rfl) ?_
    refine WL.nil ?_
    refine En.next ?_
    refine WC.seq ?_
    refine WC.cond rfl ?_ ?_
    ·
      intro hc_1
      replace zh0 := ifO_t hc_1 zh0
      refine WC.skip ?_
      refine En.next ?_
      refine WC.seq ?_
      refine WC.block ?_
      refine WC.seq ?_
      refine WC.region ?_
      refine Lt.ofWL.step rfl rfl rfl (OpV.move rfl) ?_
      refine Lt.ofWL.step rfl rfl rfl (OpV.assign rfl) ?_
      refine WL.nil ?_
      refine En.next ?_
      obtain ⟨x5_5, e5_5, zh0⟩ := bnd zh0
      refine WC.region ?_
      refine Lt.ofWL.step rfl rfl rfl (OpV.fieldAddr rfl fo_31_1) ?_
      refine Lt.ofWL.step rfl rfl rfl (OpV.loadBox rfl pt_23 (.tail _ (.head _)) rfl) ?_
      refine Lt.ofWL.step rfl rfl rfl (OpV.move rfl) ?_
      refine Lt.ofWL.step rfl rfl rfl (OpV.mulR rfl rfl) ?_
      refine WL.heavy rfl rfl rfl (OpH.litF (A := tInt) (xs := [(wr (16 * v_0))]) tInt_flat (evps.cons rfl (evps.nil)) (bs_23_1_0 _) rfl rfl (Nat.le_of_ble_eq_true rfl) ?_)
      intro b5_4
      refine WL.heavy rfl rfl rfl (OpH.appS (F := [_, _, _, _]) (A := tInt) tInt_flat rfl rfl rfl mi_23 rfl (by decide) (fun w hs => (Ow.rd (hs.mem (.head _)))) e5_5 ?_)
      intro f5_5 a5_5 c5_5
      refine Lt.ofWL.step rfl rfl rfl (OpV.fieldAddr rfl fo_31_1) ?_
      refine WL.heavy0 rfl rfl (OpH.storeTo (A := [_, _]) [_, _] rfl rfl rfl ts_23 rfl rfl rfl ?_)
      refine WL.nil ?_
      refine En.block_norm ?_
      refine En.next ?_
      refine WC.region ?_
      refine Lt.ofWL.step rfl rfl rfl (OpV.addR rfl rfl) ?_
      refine Lt.ofWL.step rfl rfl rfl (OpV.move rfl) ?_
      refine WL.nil ?_
      exact En.backP zb0 zh0 (a5_5, x5_5.length, c5_5, f5_5) (Sub.cons rfl (Sub.cons rfl (Sub.cons rfl (Sub.nil _)))) (fun _ h => (((((h).perm (List.perm_middle (l₁ := [_, _, _, _]))).perm (List.perm_middle (l₁ := [_, _, _, _]))).perm (List.perm_middle (l₁ := [_, _, _, _]))).perm (List.perm_middle (l₁ := [_, _, _, _]))).sub (.cons_cons _ (.cons_cons _ (.cons_cons _ (.cons_cons _ (.cons _ (.slnil)))))))
    ·
      intro hc_1
      replace zh0 := ifO_f hc_1 zh0
      refine WC.exit ?_
      refine En.then_exit ?_
      refine En.then_exit ?_
      have hx := exitP ze0 zh0
      exact En.wk _ _ (Sub.cons rfl (Sub.cons rfl (Sub.nil _))) (fun _ h => h) (zK0_0 (m_0, (am_0, nm_0, cm_0, fm_0)) hx.symm)

theorem w_impl_NewImage {w_p0 : Int} {h_p1 : Int} {p_p2 : Int} {r : ImageT}  (h : impl_NewImage w_p0 h_p1 p_p2 = some r) {w : World}    :
    Calls Try.prog 43 #[.int .i64 w_p0, .int .i64 h_p1, .int .i64 p_p2] w (fun en w' => ∃ rv G, en = .returned rv ∧ (∃ (a0_0 : Option Addr) (n0_0 : Nat) (c0_0 : Nat) (f0_0 : List Nat), rv = .agg #[.int .i64 r.W, .int .i64 r.H, .slice a0_0 n0_0 c0_0] ∧ G = [Chunk.own tInt f0_0 a0_0 n0_0 c0_0 r.Data]) ∧ St w G w') := by
  unfold impl_NewImage at h
  refine enter (vs := [_, _, _]) Try.func43 rfl rfl rfl rfl ?_
  refine WC.seq ?_
  refine WC.region ?_
  refine WL.heavy rfl rfl rfl (OpH.alloc zc_72 ?_)
  intro b0_0
  refine WL.nil ?_
  refine En.next ?_
  refine WC.seq ?_
  refine WC.seq ?_
  obtain ⟨x1_1, e1_1, h⟩ := bnd h
  obtain ⟨q1_7, e1_7, h⟩ := bnd h
  obtain ⟨q1_12, e1_12, h⟩ := bnd h
  refine WC.region ?_
  refine Lt.ofWL.step rfl rfl rfl (OpV.move rfl) ?_
  refine Lt.ofWL.step rfl rfl rfl (OpV.call (evs.cons rfl (evs.nil)) ca_77 (fun w hs => w_impl_isSide e1_1)) ?_
  refine Lt.ofWL.step rfl rfl rfl (OpV.not rfl) ?_
  refine Lt.ofWL.step rfl rfl rfl (OpV.move rfl) ?_
  refine Lt.ofWL.orQ 10 14 13 (p := ?pz1) (rest := ?qz1) (B := q1_7) rfl (fun hz => orO_t e1_7 hz) ?Tz1 ?Fz1 ?az1 ?bz1 ?cz1 ?dz1 ?ez1
  case Tz1 =>
    intro hcz1 hkz1
    refine Lt.ofWL.skip rfl rfl rfl ?_
    refine Lt.ofWL.skip rfl rfl rfl ?_
    refine Lt.ofWL.skip rfl rfl rfl ?_
    refine hkz1 _ ?_
    repeat (first | exact Sub.refl _ | refine Sub.skip rfl ?_)
  case Fz1 =>
    intro hcz1 hkz1
    have hqz1 := orO_f e1_7 hcz1
    obtain ⟨x1_5, e1_5, hqz1⟩ := bnd hqz1
    obtain rfl := Option.some.inj hqz1
    refine Lt.ofWL.step rfl rfl rfl (OpV.move rfl) ?_
    refine Lt.ofWL.step rfl rfl rfl (OpV.call (evs.cons rfl (evs.nil)) ca_77 (fun w hs => w_impl_isSide e1_5)) ?_
    refine Lt.ofWL.step rfl rfl rfl (OpV.not rfl) ?_
    refine hkz1 _ ?_ ?_
    exact rfl
    repeat (first | exact Sub.refl _ | refine Sub.skip rfl ?_)
  case az1 => exact rfl
  case bz1 => exact rfl
  case cz1 => exact rfl
  case dz1 => exact rfl
  refine Lt.ofWL.step rfl rfl rfl (OpV.move rfl) ?_
  refine Lt.ofWL.orQ 15 19 18 (p := ?pz2) (rest := ?qz2) (B := q1_12) rfl (fun hz => orO_t e1_12 hz) ?Tz2 ?Fz2 ?az2 ?bz2 ?cz2 ?dz2 ?ez2
  case Tz2 =>
    intro hcz2 hkz2
    refine Lt.ofWL.skip rfl rfl rfl ?_
    refine Lt.ofWL.skip rfl rfl rfl ?_
    refine Lt.ofWL.skip rfl rfl rfl ?_
    refine hkz2 _ ?_
    repeat (first | exact Sub.refl _ | refine Sub.skip rfl ?_)
  case Fz2 =>
    intro hcz2 hkz2
    have hqz2 := orO_f e1_12 hcz2
    obtain ⟨x1_10, e1_10, hqz2⟩ := bnd hqz2
    obtain rfl := Option.some.inj hqz2
    refine Lt.ofWL.step rfl rfl rfl (OpV.move rfl) ?_
    refine Lt.ofWL.step rfl rfl rfl (OpV.call (evs.cons rfl (evs.nil)) ca_78 (fun w hs => w_impl_isPixel e1_10)) ?_
    refine Lt.ofWL.step rfl rfl rfl (OpV.not rfl) ?_
    refine hkz2 _ ?_ ?_
    exact rfl
    repeat (first | exact Sub.refl _ | refine Sub.skip rfl ?_)
  case az2 => exact rfl
  case bz2 => exact rfl
  case cz2 => exact rfl
  case dz2 => exact rfl
  refine WL.nil ?_
  refine En.next ?_
  refine WC.cond rfl ?_ ?_
  ·
    intro hc_1
    replace h := ifO_t hc_1 h
    refine WC.seq ?_
    refine WC.region ?_
    refine Lt.ofWL.step rfl rfl rfl (OpV.build (evps.nil) bd_72_) ?_
    refine WL.heavy0 rfl rfl (OpH.storeTo (A := []) [_, _, _] rfl rfl rfl ts_72 rfl rfl rfl ?_)
    refine WL.nil ?_
    refine En.next ?_
    refine WC.ret ?_
    refine En.then_ret ?_
    refine En.ret1 rfl (Res.cell rfl (.head _) ag_72) ?_
    obtain rfl := Option.some.inj h
    intro w' hs
    have hs := ((hs).ownNil (A := tInt)).sub (.cons_cons _ (.cons _ (.slnil)))
    exact ⟨_, _, rfl, ⟨.none, 0, 0, [], rfl, rfl⟩, hs⟩
  ·
    intro hc_1
    replace h := ifO_f hc_1 h
    refine WC.skip ?_
    refine En.next ?_
    refine WC.seq ?_
    obtain ⟨x3_7, e3_7, h⟩ := bnd h
    refine WC.region ?_
    refine Lt.ofWL.step rfl rfl rfl (OpV.move rfl) ?_
    refine Lt.ofWL.step rfl rfl rfl (OpV.move rfl) ?_
    refine Lt.ofWL.step rfl rfl rfl (OpV.move rfl) ?_
    refine WL.heavy rfl rfl rfl (OpH.litF (A := tInt) (xs := [p_p2]) tInt_flat (evps.cons rfl (evps.nil)) (bs_23_1_0 _) rfl rfl (Nat.le_of_ble_eq_true rfl) ?_)
    intro b3_3
    refine Lt.ofWL.step rfl rfl rfl (OpV.move rfl) ?_
    refine Lt.ofWL.step rfl rfl rfl (OpV.move rfl) ?_
    refine Lt.ofWL.step rfl rfl rfl (OpV.mulR rfl rfl) ?_
    refine WL.heavy rfl rfl rfl (OpH.callR (evs.cons rfl (evs.cons rfl (evs.nil))) ca_79 (fun w hs => w_slices_Repeat_S_int_int e3_7 (Ow.rd (hs.mem (.head _)))) ?_)
    rintro _ _ ⟨a3_700, n3_700, c3_700, f3_700, rfl, rfl⟩
    refine Lt.ofWL.step rfl rfl rfl (OpV.build (evps.cons rfl (evps.cons rfl (evps.cons rfl (evps.nil)))) (bd_72_0_1_2 _ _ _ _ _)) ?_
    refine WL.heavy0 rfl rfl (OpH.storeTo (A := [_, _]) [_, _, _] rfl rfl rfl ts_72 rfl rfl rfl ?_)
    refine WL.nil ?_
    refine En.next ?_
    refine WC.ret ?_
    refine En.ret1 rfl (Res.cell rfl (.tail _ (.tail _ (.head _))) ag_72) ?_
    obtain rfl := Option.some.inj h
    intro w' hs
    have hs := (hs).sub (.cons_cons _ (.cons _ (.cons _ (.slnil))))
    exact ⟨_, _, rfl, ⟨a3_700, n3_700, c3_700, f3_700, rfl, rfl⟩, hs⟩

theorem w_impl_PlaneOf {i_p0 : ImageT} {x_p1 : Int} {y_p2 : Int} {layout_p3 : Int} {r : PlaneT} {q0_0 : Option Addr} {n0_0 k0_0 : Nat} (h : impl_PlaneOf i_p0 x_p1 y_p2 layout_p3 = some r) {w : World} (r0_0 : Rd tInt w q0_0 n0_0 k0_0 i_p0.Data)   :
    Calls Try.prog 42 #[.agg #[.int .i64 i_p0.W, .int .i64 i_p0.H, .slice q0_0 n0_0 k0_0], .int .i64 x_p1, .int .i64 y_p2, .int .i64 layout_p3] w (fun en w' => ∃ rv G, en = .returned rv ∧ (∃ (a0_0 : Option Addr) (n0_0 : Nat) (c0_0 : Nat) (f0_0 : List Nat), rv = .agg #[.bool r.On, .int .i64 r.X, .int .i64 r.Y, .int .i64 r.W, .int .i64 r.H, .int .i64 r.Layout, .slice a0_0 n0_0 c0_0, .int .i64 r.Alpha, .int .i64 r.Orient, .int .i64 r.ToW, .int .i64 r.ToH] ∧ G = [Chunk.own tInt f0_0 a0_0 n0_0 c0_0 r.Words]) ∧ St w G w') := by
  obtain rfl := r0_0.1
  unfold impl_PlaneOf at h
  refine enter (vs := [_, _, _, _]) Try.func42 rfl rfl rfl rfl ?_
  refine WC.seq ?_
  refine WC.region ?_
  refine WL.heavy rfl rfl rfl (OpH.box rfl rfl ?_)
  intro b0_0
  refine WL.heavy rfl rfl rfl (OpH.alloc zc_59 ?_)
  intro b0_1
  refine WL.nil ?_
  refine En.next ?_
  refine WC.seq ?_
  obtain ⟨⟨x1_2a, x1_2b⟩, e1_2, h⟩ := bnd h
  refine WC.region ?_
  refine Lt.ofWL.step rfl rfl rfl (OpV.loadAll rfl (.tail _ (.head _)) ag_72) ?_
  refine Lt.ofWL.step rfl rfl rfl (OpV.move rfl) ?_
  refine WL.heavy rfl rfl rfl (OpH.callR (evs.cons rfl (evs.cons rfl (evs.nil))) ca_76 (fun w hs => w_impl_StoreImage e1_2 (r0_0.ext hs.below)) ?_)
  rintro _ _ ⟨a1_200, n1_200, c1_200, f1_200, rfl, rfl⟩
  refine Lt.ofWL.step rfl rfl rfl (OpV.move rfl) ?_
  refine Lt.ofWL.step rfl rfl rfl (OpV.extract rfl rfl) ?_
  refine Lt.ofWL.step rfl rfl rfl (OpV.extract rfl rfl) ?_
  refine Lt.ofWL.step rfl rfl rfl (OpV.assign rfl) ?_
  refine Lt.ofWL.step rfl rfl rfl (OpV.assign rfl) ?_
  refine WL.nil ?_
  refine En.next ?_
  refine WC.seq ?_
  refine WC.seq ?_
  refine WC.region ?_
  refine Lt.ofWL.step rfl rfl rfl (OpV.move rfl) ?_
  refine Lt.ofWL.step rfl rfl rfl (OpV.not rfl) ?_
  refine WL.nil ?_
  refine En.next ?_
  refine WC.cond rfl ?_ ?_
  ·
    intro hc_1
    replace h := ifO_t hc_1 h
    refine WC.seq ?_
    refine WC.region ?_
    refine Lt.ofWL.step rfl rfl rfl (OpV.build (evps.nil) bd_59_) ?_
    refine WL.heavy0 rfl rfl (OpH.storeTo (A := [_]) [_, _, _, _, _, _, _, _, _, _, _] rfl rfl rfl ts_59 rfl rfl rfl ?_)
    refine WL.nil ?_
    refine En.next ?_
    refine WC.ret ?_
    refine En.then_ret ?_
    refine En.ret1 rfl (Res.cell rfl (.tail _ (.head _)) ag_59) ?_
    obtain rfl := Option.some.inj h
    intro w' hs
    have hs := ((hs).ownNil (A := tInt)).sub (.cons_cons _ (.cons _ (.cons _ (.cons _ (.slnil)))))
    exact ⟨_, _, rfl, ⟨.none, 0, 0, [], rfl, rfl⟩, hs⟩
  ·
    intro hc_1
    replace h := ifO_f hc_1 h
    refine WC.skip ?_
    refine En.next ?_
    refine WC.seq ?_
    refine WC.region ?_
    refine Lt.ofWL.step rfl rfl rfl (OpV.move rfl) ?_
    refine Lt.ofWL.step rfl rfl rfl (OpV.move rfl) ?_
    refine Lt.ofWL.step rfl rfl rfl (OpV.fieldAddr rfl fo_72_0) ?_
    refine Lt.ofWL.step rfl rfl rfl (OpV.loadBox rfl pt_3 (.tail _ (.tail _ (.head _))) rfl) ?_
    refine Lt.ofWL.step rfl rfl rfl (OpV.fieldAddr rfl fo_72_1) ?_
    refine Lt.ofWL.step rfl rfl rfl (OpV.loadBox rfl pt_3 (.tail _ (.tail _ (.head _))) rfl) ?_
    refine Lt.ofWL.step rfl rfl rfl (OpV.move rfl) ?_
    refine Lt.ofWL.step rfl rfl rfl (OpV.move rfl) ?_
    refine Lt.ofWL.step rfl rfl rfl (OpV.build (evps.cons rfl (evps.cons rfl (evps.cons rfl (evps.cons rfl (evps.cons rfl (evps.cons rfl (evps.cons rfl (evps.cons rfl (evps.nil))))))))) (bd_59_0_1_2_3_4_5_6_7 _ _ _ _ _ _ _ _ _ _)) ?_
    refine WL.heavy0 rfl rfl (OpH.storeTo (A := [_]) [_, _, _, _, _, _, _, _, _, _, _] rfl rfl rfl ts_59 rfl rfl rfl ?_)
    refine WL.nil ?_
    refine En.next ?_
    refine WC.ret ?_
    refine En.ret1 rfl (Res.cell rfl (.tail _ (.head _)) ag_59) ?_
    obtain rfl := Option.some.inj h
    intro w' hs
    have hs := (hs).sub (.cons_cons _ (.cons _ (.cons _ (.slnil))))
    exact ⟨_, _, rfl, ⟨a1_200, n1_200, c1_200, f1_200, rfl, rfl⟩, hs⟩

theorem w_impl_BlankCrtc {w_p0 : Int} {h_p1 : Int} {p_p2 : Int} {r : CrtcT × Bool}  (h : impl_BlankCrtc w_p0 h_p1 p_p2 = some r) {w : World}    :
    Calls Try.prog 14 #[.int .i64 w_p0, .int .i64 h_p1, .int .i64 p_p2] w (fun en w' => ∃ rv G, en = .returned rv ∧ (∃ (a0_0 : Option Addr) (n0_0 : Nat) (c0_0 : Nat) (f0_0 : List Nat) (a0_1 : Option Addr) (n0_1 : Nat) (c0_1 : Nat) (f0_1 : List Nat) (a0_2 : Option Addr) (n0_2 : Nat) (c0_2 : Nat) (f0_2 : List Nat), rv = .tuple #[.agg #[.int .i64 r.1.W, .int .i64 r.1.H, .slice a0_0 n0_0 c0_0, .slice a0_1 n0_1 c0_1, .slice a0_2 n0_2 c0_2], .bool r.2] ∧ G = [Chunk.own tPlane f0_0 a0_0 n0_0 c0_0 r.1.Planes, Chunk.own tInt f0_1 a0_1 n0_1 c0_1 r.1.Color.Matrix, Chunk.own tInt f0_2 a0_2 n0_2 c0_2 r.1.Color.Curve]) ∧ St w G w') := by
  unfold impl_BlankCrtc at h
  refine enter (vs := [_, _, _]) Try.func14 rfl rfl rfl rfl ?_
  refine WC.seq ?_
  refine WC.region ?_
  refine WL.heavy rfl rfl rfl (OpH.alloc zc_33 ?_)
  intro b0_0
  refine Lt.ofWL.step rfl rfl rfl (OpV.assign rfl) ?_
  refine WL.nil ?_
  refine En.next ?_
  refine WC.seq ?_
  obtain ⟨x1_2, e1_2, h⟩ := bnd h
  obtain ⟨x1_3, e1_3, h⟩ := bnd h
  refine WC.cut (X := Nat × Nat × (Option Addr) × Nat × Nat × (Option Addr) × Nat × Nat × (List Nat) × (List Nat)) .normal (fun _ => True) (fun x => match x with | (b1_5, b1_2, a1_300, n1_300, c1_300, a1_301, n1_301, c1_301, f1_300, f1_301) => [(0, .int .i64 w_p0), (1, .int .i64 h_p1), (2, .int .i64 p_p2), (6, .pointer (some ⟨b0_0, 0, .none⟩)), (8, .pointer (some ⟨b1_5, 0, .none⟩))]) (fun x => match x with | (b1_5, b1_2, a1_300, n1_300, c1_300, a1_301, n1_301, c1_301, f1_300, f1_301) => [Chunk.box b1_5 33 [.int .i64 w_p0, .int .i64 h_p1, .slice (some ⟨b1_2, 0, .none⟩) x1_2.length (Int.toNat 4), .slice a1_300 n1_300 c1_300, .slice a1_301 n1_301 c1_301], Chunk.own tInt f1_300 a1_300 n1_300 c1_300 x1_3.Matrix, Chunk.own tInt f1_301 a1_301 n1_301 c1_301 x1_3.Curve, Chunk.own tPlane [b1_2] (some ⟨b1_2, 0, .none⟩) x1_2.length (Int.toNat 4) x1_2, Chunk.box b0_0 33 [.int .i64 0, .int .i64 0, .slice .none 0 0, .slice .none 0 0, .slice .none 0 0]]) ?_ ?_
  ·
    rintro ⟨b1_5, b1_2, a1_300, n1_300, c1_300, a1_301, n1_301, c1_301, f1_300, f1_301⟩ _
    show En _ _ _ _ [(0, .int .i64 w_p0), (1, .int .i64 h_p1), (2, .int .i64 p_p2), (6, .pointer (some ⟨b0_0, 0, .none⟩)), (8, .pointer (some ⟨b1_5, 0, .none⟩))] [Chunk.box b1_5 33 [.int .i64 w_p0, .int .i64 h_p1, .slice (some ⟨b1_2, 0, .none⟩) x1_2.length (Int.toNat 4), .slice a1_300 n1_300 c1_300, .slice a1_301 n1_301 c1_301], Chunk.own tInt f1_300 a1_300 n1_300 c1_300 x1_3.Matrix, Chunk.own tInt f1_301 a1_301 n1_301 c1_301 x1_3.Curve, Chunk.own tPlane [b1_2] (some ⟨b1_2, 0, .none⟩) x1_2.length (Int.toNat 4) x1_2, Chunk.box b0_0 33 [.int .i64 0, .int .i64 0, .slice .none 0 0, .slice .none 0 0, .slice .none 0 0]]
    refine En.next ?_
    refine WC.seq ?_
    refine WC.inh fun hin2 => ?_
    obtain ⟨x2_5, e2_5, h⟩ := bnd h
    obtain ⟨x2_6, e2_6, h⟩ := bnd h
    have hn2_7 := ownLen hin2 (.tail _ (.tail _ (.tail _ (.head _))))
    obtain ⟨x2_8, e2_8, h⟩ := bnd h
    obtain ⟨g2_7, ha2_7⟩ := ownAddrU hin2 (.tail _ (.tail _ (.tail _ (.head _)))) e2_8
    refine WC.wkF (fun _ h => h.perm (List.perm_middle (l₁ := [_, _, _]))) ?_
    refine WC.drawnH [_] ([_, _, _, _]) (fun _ h => h) (by kernel_rfl) ?_
    refine WAE.take (i := 0) rfl (by kernel_rfl) (by kernel_rfl) (by kernel_rfl) rfl rfl rfl (OpV.fieldAddr rfl fo_33_2) ?_
    refine WAE.take (i := 1) rfl (by kernel_rfl) (by kernel_rfl) (by kernel_rfl) rfl rfl rfl (OpV.loadBox rfl pt_30 (.head _) rfl) ?_
    refine WAE.take (i := 2) rfl (by kernel_rfl) (by kernel_rfl) (by kernel_rfl) rfl rfl rfl (OpV.move rfl) ?_
    refine WAE.take (i := 3) rfl (by kernel_rfl) (by kernel_rfl) (by kernel_rfl) rfl rfl rfl (OpV.move rfl) ?_
    refine WAE.take (i := 4) rfl (by kernel_rfl) (by kernel_rfl) (by kernel_rfl) rfl rfl rfl (OpV.move rfl) ?_
    refine WAE.all (rs := [5]) (by kernel_rfl) rfl (AllR.cons rfl rfl rfl rfl ?_ AllR.nil)
    refine OpH.callR (evs.cons rfl (evs.cons rfl (evs.cons rfl (evs.nil)))) ca_43 (fun w hs => w_impl_NewImage e2_5) ?_
    rintro _ _ ⟨a2_500, n2_500, c2_500, f2_500, rfl, rfl⟩
    refine ⟨[_, _], rfl, ?_⟩
    refine WAE.all (rs := [6]) (by kernel_rfl) rfl (AllR.cons rfl rfl rfl rfl ?_ AllR.nil)
    refine OpH.callR (evs.cons rfl (evs.cons rfl (evs.cons rfl (evs.cons rfl (evs.nil))))) ca_42 (fun w hs => w_impl_PlaneOf e2_6 (Ow.rd (hs.mem (.head _)))) ?_
    rintro _ _ ⟨a2_600, n2_600, c2_600, f2_600, rfl, rfl⟩
    refine ⟨[_, _, _], rfl, ?_⟩
    refine WAE.take (i := 7) rfl (by kernel_rfl) (by kernel_rfl) (by kernel_rfl) rfl rfl rfl (OpV.idxA rfl rfl se_30 ha2_7 ⟨(upd_some e2_8).1.1, by rw [hn2_7]; exact (upd_some e2_8).1.2⟩) ?_
    refine WAE.all (rs := [8]) (by kernel_rfl) rfl (AllR.cons0 rfl rfl rfl ?_ AllR.nil)
    refine OpH.wkF (fun _ h => tPlane_mk x2_6.On x2_6.X x2_6.Y x2_6.W x2_6.H x2_6.Layout x2_6.Words x2_6.Alpha x2_6.Orient x2_6.ToW x2_6.ToH h) ?_
    refine OpH.wkF (fun _ h => h.perm (List.perm_middle (l₁ := [_, _]))) ?_
    refine OpH.wkF (fun _ h => h.perm (List.perm_middle (l₁ := [_]))) ?_
    refine OpH.setEl (A := tPlane) ha2_7 rfl rfl rfl ts_59 e2_8 ?_
    intro f2_8
    refine ⟨[_, _], rfl, ?_⟩
    refine WAE.rebase (H := []) ?_
    refine WAE.done (by kernel_rfl) ?_ _
    refine En.next ?_
    refine WC.seq ?_
    refine WC.seq ?_
    obtain ⟨x3_1, e3_1, h⟩ := bnd h
    refine WC.region ?_
    refine Lt.ofWL.step rfl rfl rfl (OpV.loadAll rfl (.tail _ (.tail _ (.head _))) ag_33) ?_
    refine Lt.ofWL.step rfl rfl rfl (OpV.call (evs.cons rfl (evs.nil)) ca_11 (fun w hs => w_impl_CrtcOk e3_1 (Ow.rd (hs.mem (.head _))) (Ow.rd (hs.mem (.tail _ (.tail _ (.tail _ (.head _)))))) (Ow.rd (hs.mem (.tail _ (.tail _ (.tail _ (.tail _ (.head _))))))))) ?_
    refine Lt.ofWL.step rfl rfl rfl (OpV.not rfl) ?_
    refine WL.nil ?_
    refine En.next ?_
    refine WC.cond rfl ?_ ?_
    ·
      intro hc_1
      replace h := ifO_t hc_1 h
      refine WC.seq ?_
      refine WC.region ?_
      refine Lt.ofWL.step rfl rfl rfl (OpV.build (evps.nil) bd_33_) ?_
      refine WL.heavy0 rfl rfl (OpH.storeTo (A := [_, _, _, _, _]) [_, _, _, _, _] rfl rfl rfl ts_33 rfl rfl rfl ?_)
      refine Lt.ofWL.step rfl rfl rfl (OpV.assign rfl) ?_
      refine WL.nil ?_
      refine En.next ?_
      refine WC.ret ?_
      refine En.then_ret ?_
      refine En.ret2 rfl (Res.cell rfl (.tail _ (.tail _ (.tail _ (.tail _ (.tail _ (.head _)))))) ag_33) (Res.tmp rfl) ?_
      obtain rfl := Option.some.inj h
      intro w' hs
      have hs := ((((((hs).ownNil (A := tPlane)).ownNil (A := tInt)).ownNil (A := tInt)).perm (List.perm_middle (l₁ := [_]))).perm (List.perm_middle (l₁ := [_, _]))).sub (.cons_cons _ (.cons_cons _ (.cons_cons _ (.cons _ (.cons _ (.cons _ (.cons _ (.cons _ (.cons _ (.slnil))))))))))
      exact ⟨_, _, rfl, ⟨.none, 0, 0, [], .none, 0, 0, [], .none, 0, 0, [], rfl, rfl⟩, hs⟩
    ·
      intro hc_1
      replace h := ifO_f hc_1 h
      refine WC.skip ?_
      refine En.next ?_
      refine WC.seq ?_
      refine WC.region ?_
      refine Lt.ofWL.step rfl rfl rfl (OpV.loadAll rfl (.tail _ (.tail _ (.head _))) ag_33) ?_
      refine WL.heavy0 rfl rfl (OpH.storeTo (A := [_, _, _, _, _]) [_, _, _, _, _] rfl rfl rfl ts_33 rfl rfl rfl ?_)
      refine Lt.ofWL.step rfl rfl rfl (OpV.assign rfl) ?_
      refine WL.nil ?_
      refine En.next ?_
      refine WC.ret ?_
      refine En.ret2 rfl (Res.cell rfl (.tail _ (.tail _ (.tail _ (.tail _ (.tail _ (.head _)))))) ag_33) (Res.tmp rfl) ?_
      obtain rfl := Option.some.inj h
      intro w' hs
      have hs := ((((hs).perm (List.perm_middle (l₁ := [_, _, _, _]))).perm (List.perm_middle (l₁ := [_, _, _, _]))).perm (List.perm_middle (l₁ := [_, _]))).sub (.cons_cons _ (.cons_cons _ (.cons_cons _ (.cons _ (.cons _ (.cons _ (.slnil)))))))
      exact ⟨_, _, rfl, ⟨(some ⟨b1_2, 0, .none⟩), x1_2.length, (Int.toNat 4), f2_8, a1_300, n1_300, c1_300, f1_300, a1_301, n1_301, c1_301, f1_301, rfl, rfl⟩, hs⟩
  ·
    intro KR1
    refine WC.drawnH [] ([_]) (fun _ h => h) (by kernel_rfl) ?_
    refine WAE.take (i := 0) rfl (by kernel_rfl) (by kernel_rfl) (by kernel_rfl) rfl rfl rfl (OpV.move rfl) ?_
    refine WAE.take (i := 1) rfl (by kernel_rfl) (by kernel_rfl) (by kernel_rfl) rfl rfl rfl (OpV.move rfl) ?_
    refine WAE.all (rs := [2, 3, 5]) (by kernel_rfl) rfl (AllR.cons rfl rfl rfl rfl ?_ (AllR.cons rfl rfl rfl rfl ?_ (AllR.cons rfl rfl rfl rfl ?_ AllR.nil)))
    ·
      refine OpH.makeO (A := tPlane) rfl rfl mi_30 tPlane_zero (by decide) e1_2 ⟨Int.le_refl _, (mkO_some e1_2).1.2⟩ ?_
      intro b1_2
      refine ⟨[_], rfl, ?_⟩
      refine WAE.rebase (H := []) ?_
      refine WAE.all (rs := [3, 5]) (by kernel_rfl) rfl (AllR.cons rfl rfl rfl rfl ?_ (AllR.cons rfl rfl rfl rfl ?_ AllR.nil))
      ·
        refine OpH.callR (evs.nil) ca_41 (fun w hs => w_impl_IdentityColor e1_3) ?_
        rintro _ _ ⟨a1_300, n1_300, c1_300, f1_300, a1_301, n1_301, c1_301, f1_301, rfl, rfl⟩
        refine ⟨[_, _], rfl, ?_⟩
        refine WAE.rebase (H := []) ?_
        refine WAE.take (i := 4) rfl (by kernel_rfl) (by kernel_rfl) (by kernel_rfl) rfl rfl rfl (OpV.build (evps.cons rfl (evps.cons rfl (evps.cons rfl (evps.cons rfl (evps.nil))))) (bd_33_0_1_2_3 _ _ _ _ _ _ _ _ _ _ _)) ?_
        refine WAE.all (rs := [5]) (by kernel_rfl) rfl (AllR.cons rfl rfl rfl rfl ?_ AllR.nil)
        refine OpH.alloc zc_33 ?_
        intro b1_5
        refine ⟨[_], rfl, ?_⟩
        refine WAE.all (rs := [6]) (by kernel_rfl) rfl (AllR.cons0 rfl rfl rfl ?_ AllR.nil)
        refine OpH.storeTo (A := []) [_, _, _, _, _] rfl rfl rfl ts_33 rfl rfl rfl ?_
        refine ⟨[_], rfl, ?_⟩
        refine WAE.rebase (H := []) ?_
        refine WAE.done (by kernel_rfl) ?_ _
        exact En.wk _ _ (Sub.cons rfl (Sub.cons rfl (Sub.cons rfl (Sub.cons rfl (Sub.cons rfl (Sub.nil _)))))) (fun _ h => h) (KR1 (b1_5, b1_2, a1_300, n1_300, c1_300, a1_301, n1_301, c1_301, f1_300, f1_301) trivial)
      ·
        refine OpH.alloc zc_33 ?_
        intro b1_5
        refine ⟨[_], rfl, ?_⟩
        refine WAE.all (rs := [3]) (by kernel_rfl) rfl (AllR.cons rfl rfl rfl rfl ?_ AllR.nil)
        refine OpH.callR (evs.nil) ca_41 (fun w hs => w_impl_IdentityColor e1_3) ?_
        rintro _ _ ⟨a1_300, n1_300, c1_300, f1_300, a1_301, n1_301, c1_301, f1_301, rfl, rfl⟩
        refine ⟨[_, _, _], rfl, ?_⟩
        refine WAE.take (i := 4) rfl (by kernel_rfl) (by kernel_rfl) (by kernel_rfl) rfl rfl rfl (OpV.build (evps.cons rfl (evps.cons rfl (evps.cons rfl (evps.cons rfl (evps.nil))))) (bd_33_0_1_2_3 _ _ _ _ _ _ _ _ _ _ _)) ?_
        refine WAE.all (rs := [6]) (by kernel_rfl) rfl (AllR.cons0 rfl rfl rfl ?_ AllR.nil)
        refine OpH.storeTo (A := [_, _]) [_, _, _, _, _] rfl rfl rfl ts_33 rfl rfl rfl ?_
        refine ⟨[_, _, _], rfl, ?_⟩
        refine WAE.rebase (H := []) ?_
        refine WAE.done (by kernel_rfl) ?_ _
        exact En.wk _ _ (Sub.cons rfl (Sub.cons rfl (Sub.cons rfl (Sub.cons rfl (Sub.cons rfl (Sub.nil _)))))) (fun _ h => (((((h).perm (List.perm_middle (l₁ := [_, _, _, _]))).perm (List.perm_middle (l₁ := [_, _, _, _]))).perm (List.perm_middle (l₁ := [_, _, _]))).perm (List.perm_middle (l₁ := [_, _, _]))).perm (List.perm_middle (l₁ := [_, _, _, _]))) (KR1 (b1_5, b1_2, a1_300, n1_300, c1_300, a1_301, n1_301, c1_301, f1_300, f1_301) trivial)
    ·
      refine OpH.callR (evs.nil) ca_41 (fun w hs => w_impl_IdentityColor e1_3) ?_
      rintro _ _ ⟨a1_300, n1_300, c1_300, f1_300, a1_301, n1_301, c1_301, f1_301, rfl, rfl⟩
      refine ⟨[_, _], rfl, ?_⟩
      refine WAE.rebase (H := []) ?_
      refine WAE.all (rs := [2, 5]) (by kernel_rfl) rfl (AllR.cons rfl rfl rfl rfl ?_ (AllR.cons rfl rfl rfl rfl ?_ AllR.nil))
      ·
        refine OpH.makeO (A := tPlane) rfl rfl mi_30 tPlane_zero (by decide) e1_2 ⟨Int.le_refl _, (mkO_some e1_2).1.2⟩ ?_
        intro b1_2
        refine ⟨[_], rfl, ?_⟩
        refine WAE.rebase (H := []) ?_
        refine WAE.take (i := 4) rfl (by kernel_rfl) (by kernel_rfl) (by kernel_rfl) rfl rfl rfl (OpV.build (evps.cons rfl (evps.cons rfl (evps.cons rfl (evps.cons rfl (evps.nil))))) (bd_33_0_1_2_3 _ _ _ _ _ _ _ _ _ _ _)) ?_
        refine WAE.all (rs := [5]) (by kernel_rfl) rfl (AllR.cons rfl rfl rfl rfl ?_ AllR.nil)
        refine OpH.alloc zc_33 ?_
        intro b1_5
        refine ⟨[_], rfl, ?_⟩
        refine WAE.all (rs := [6]) (by kernel_rfl) rfl (AllR.cons0 rfl rfl rfl ?_ AllR.nil)
        refine OpH.storeTo (A := []) [_, _, _, _, _] rfl rfl rfl ts_33 rfl rfl rfl ?_
        refine ⟨[_], rfl, ?_⟩
        refine WAE.rebase (H := []) ?_
        refine WAE.done (by kernel_rfl) ?_ _
        exact En.wk _ _ (Sub.cons rfl (Sub.cons rfl (Sub.cons rfl (Sub.cons rfl (Sub.cons rfl (Sub.nil _)))))) (fun _ h => (((((h).perm (List.perm_middle (l₁ := [_, _, _, _]))).perm (List.perm_middle (l₁ := [_, _]))).perm (List.perm_middle (l₁ := [_, _, _, _]))).perm (List.perm_middle (l₁ := [_, _, _, _]))).perm (List.perm_middle (l₁ := [_, _, _, _]))) (KR1 (b1_5, b1_2, a1_300, n1_300, c1_300, a1_301, n1_301, c1_301, f1_300, f1_301) trivial)
      ·
        refine OpH.alloc zc_33 ?_
        intro b1_5
        refine ⟨[_], rfl, ?_⟩
        refine WAE.all (rs := [2]) (by kernel_rfl) rfl (AllR.cons rfl rfl rfl rfl ?_ AllR.nil)
        refine OpH.makeO (A := tPlane) rfl rfl mi_30 tPlane_zero (by decide) e1_2 ⟨Int.le_refl _, (mkO_some e1_2).1.2⟩ ?_
        intro b1_2
        refine ⟨[_, _], rfl, ?_⟩
        refine WAE.take (i := 4) rfl (by kernel_rfl) (by kernel_rfl) (by kernel_rfl) rfl rfl rfl (OpV.build (evps.cons rfl (evps.cons rfl (evps.cons rfl (evps.cons rfl (evps.nil))))) (bd_33_0_1_2_3 _ _ _ _ _ _ _ _ _ _ _)) ?_
        refine WAE.all (rs := [6]) (by kernel_rfl) rfl (AllR.cons0 rfl rfl rfl ?_ AllR.nil)
        refine OpH.storeTo (A := [_]) [_, _, _, _, _] rfl rfl rfl ts_33 rfl rfl rfl ?_
        refine ⟨[_, _], rfl, ?_⟩
        refine WAE.rebase (H := []) ?_
        refine WAE.done (by kernel_rfl) ?_ _
        exact En.wk _ _ (Sub.cons rfl (Sub.cons rfl (Sub.cons rfl (Sub.cons rfl (Sub.cons rfl (Sub.nil _)))))) (fun _ h => (((((h).perm (List.perm_middle (l₁ := [_, _, _, _]))).perm (List.perm_middle (l₁ := [_]))).perm (List.perm_middle (l₁ := [_, _, _, _]))).perm (List.perm_middle (l₁ := [_, _, _, _]))).perm (List.perm_middle (l₁ := [_, _, _, _]))) (KR1 (b1_5, b1_2, a1_300, n1_300, c1_300, a1_301, n1_301, c1_301, f1_300, f1_301) trivial)
    ·
      refine OpH.alloc zc_33 ?_
      intro b1_5
      refine ⟨[_], rfl, ?_⟩
      refine WAE.all (rs := [2, 3]) (by kernel_rfl) rfl (AllR.cons rfl rfl rfl rfl ?_ (AllR.cons rfl rfl rfl rfl ?_ AllR.nil))
      ·
        refine OpH.makeO (A := tPlane) rfl rfl mi_30 tPlane_zero (by decide) e1_2 ⟨Int.le_refl _, (mkO_some e1_2).1.2⟩ ?_
        intro b1_2
        refine ⟨[_, _], rfl, ?_⟩
        refine WAE.all (rs := [3]) (by kernel_rfl) rfl (AllR.cons rfl rfl rfl rfl ?_ AllR.nil)
        refine OpH.callR (evs.nil) ca_41 (fun w hs => w_impl_IdentityColor e1_3) ?_
        rintro _ _ ⟨a1_300, n1_300, c1_300, f1_300, a1_301, n1_301, c1_301, f1_301, rfl, rfl⟩
        refine ⟨[_, _, _, _], rfl, ?_⟩
        refine WAE.take (i := 4) rfl (by kernel_rfl) (by kernel_rfl) (by kernel_rfl) rfl rfl rfl (OpV.build (evps.cons rfl (evps.cons rfl (evps.cons rfl (evps.cons rfl (evps.nil))))) (bd_33_0_1_2_3 _ _ _ _ _ _ _ _ _ _ _)) ?_
        refine WAE.all (rs := [6]) (by kernel_rfl) rfl (AllR.cons0 rfl rfl rfl ?_ AllR.nil)
        refine OpH.storeTo (A := [_, _, _]) [_, _, _, _, _] rfl rfl rfl ts_33 rfl rfl rfl ?_
        refine ⟨[_, _, _, _], rfl, ?_⟩
        refine WAE.rebase (H := []) ?_
        refine WAE.done (by kernel_rfl) ?_ _
        exact En.wk _ _ (Sub.cons rfl (Sub.cons rfl (Sub.cons rfl (Sub.cons rfl (Sub.cons rfl (Sub.nil _)))))) (fun _ h => (((((h).perm (List.perm_middle (l₁ := [_, _, _, _]))).perm (List.perm_middle (l₁ := [_, _, _]))).perm (List.perm_middle (l₁ := [_, _, _]))).perm (List.perm_middle (l₁ := [_, _, _]))).perm (List.perm_middle (l₁ := [_, _, _, _]))) (KR1 (b1_5, b1_2, a1_300, n1_300, c1_300, a1_301, n1_301, c1_301, f1_300, f1_301) trivial)
      ·
        refine OpH.callR (evs.nil) ca_41 (fun w hs => w_impl_IdentityColor e1_3) ?_
        rintro _ _ ⟨a1_300, n1_300, c1_300, f1_300, a1_301, n1_301, c1_301, f1_301, rfl, rfl⟩
        refine ⟨[_, _, _], rfl, ?_⟩
        refine WAE.all (rs := [2]) (by kernel_rfl) rfl (AllR.cons rfl rfl rfl rfl ?_ AllR.nil)
        refine OpH.makeO (A := tPlane) rfl rfl mi_30 tPlane_zero (by decide) e1_2 ⟨Int.le_refl _, (mkO_some e1_2).1.2⟩ ?_
        intro b1_2
        refine ⟨[_, _, _, _], rfl, ?_⟩
        refine WAE.take (i := 4) rfl (by kernel_rfl) (by kernel_rfl) (by kernel_rfl) rfl rfl rfl (OpV.build (evps.cons rfl (evps.cons rfl (evps.cons rfl (evps.cons rfl (evps.nil))))) (bd_33_0_1_2_3 _ _ _ _ _ _ _ _ _ _ _)) ?_
        refine WAE.all (rs := [6]) (by kernel_rfl) rfl (AllR.cons0 rfl rfl rfl ?_ AllR.nil)
        refine OpH.storeTo (A := [_, _, _]) [_, _, _, _, _] rfl rfl rfl ts_33 rfl rfl rfl ?_
        refine ⟨[_, _, _, _], rfl, ?_⟩
        refine WAE.rebase (H := []) ?_
        refine WAE.done (by kernel_rfl) ?_ _
        exact En.wk _ _ (Sub.cons rfl (Sub.cons rfl (Sub.cons rfl (Sub.cons rfl (Sub.cons rfl (Sub.nil _)))))) (fun _ h => (((((h).perm (List.perm_middle (l₁ := [_, _, _, _]))).perm (List.perm_middle (l₁ := [_]))).perm (List.perm_middle (l₁ := [_, _, _]))).perm (List.perm_middle (l₁ := [_, _, _]))).perm (List.perm_middle (l₁ := [_, _, _, _]))) (KR1 (b1_5, b1_2, a1_300, n1_300, c1_300, a1_301, n1_301, c1_301, f1_300, f1_301) trivial)

theorem w_laws_markIntS {a_p0 : List Int} {k_p1 : Int} {r : Int × (List Int)} {q0_0 : Option Addr} {n0_0 k0_0 : Nat} {f0_0 : List Nat} (h : laws_markIntS a_p0 k_p1 = some r) {w0 w : World} {C : List Chunk} (hs0 : St w0 (Chunk.own tInt f0_0 q0_0 n0_0 k0_0 a_p0 :: C) w)  :
    Calls Try.prog 80 #[.slice q0_0 n0_0 k0_0, .int .i64 k_p1] w (fun en w' => ∃ rv G, en = .returned rv ∧ (∃ (g0_0 : List Nat), rv = .int .i64 r.1 ∧ G = Chunk.own tInt g0_0 q0_0 n0_0 k0_0 r.2 :: C) ∧ St w0 G w') := by
  unfold laws_markIntS at h
  refine enterF hs0 (vs := [_, _]) Try.func80 rfl rfl rfl rfl ?_
  refine WC.seq ?_
  refine WC.region ?_
  refine Lt.ofWL.step rfl rfl rfl (OpV.assign rfl) ?_
  refine WL.nil ?_
  refine En.next ?_
  refine WC.seq ?_
  refine WC.seq ?_
  refine WC.region ?_
  refine Lt.ofWL.step rfl rfl rfl (OpV.assign rfl) ?_
  refine WL.nil ?_
  refine En.next ?_
  refine WC.block ?_
  obtain ⟨zy0, ezy0, h⟩ := bnd h
  refine WC.cut (X := (Int × (List Int)) × ((List Nat))) (.exit 0) (fun x => zy0 = x.1) (fun x => match x with | ((k_0e, p_0e), fp_0e) => [(1, .int .i64 k_0e)]) (fun x => match x with | ((k_0e, p_0e), fp_0e) => (Chunk.own tInt fp_0e q0_0 n0_0 k0_0 p_0e :: C)) ?_ ?_
  ·
    rintro ⟨⟨k_0e, p_0e⟩, fp_0e⟩ hx
    replace hx : (k_0e, p_0e) = zy0 := hx.symm
    subst hx
    show En _ _ _ _ [(1, .int .i64 k_0e)] (Chunk.own tInt fp_0e q0_0 n0_0 k0_0 p_0e :: C)
    refine En.block_exit ?_
    refine En.next ?_
    refine WC.seq ?_
    refine WC.region ?_
    refine Lt.ofWL.step rfl rfl rfl (OpV.move rfl) ?_
    refine Lt.ofWL.step rfl rfl rfl (OpV.assign rfl) ?_
    refine WL.nil ?_
    refine En.next ?_
    refine WC.ret ?_
    refine En.ret1 rfl (Res.tmp rfl) ?_
    obtain rfl := Option.some.inj h
    intro w' hs
    have hs := hs
    exact ⟨_, _, rfl, ⟨fp_0e, rfl, rfl⟩, hs⟩
  ·
    intro zK0_0
    refine WC.loopP (G := (List Nat)) (fun s g => match s, g with | (a_0, k_0, i_0), fa_0 => [(0, .slice q0_0 n0_0 k0_0), (1, .int .i64 k_0), (5, .int .i64 i_0)]) (fun s g => match s, g with | (a_0, k_0, i_0), fa_0 => (Chunk.own tInt fa_0 q0_0 n0_0 k0_0 a_0 :: C)) (a_p0, k_p1, 0) f0_0 ezy0 (by exact Sub.cons rfl (Sub.cons rfl (Sub.cons rfl (Sub.nil _)))) (by exact (fun _ h => h)) ?_
    rintro zm0 ⟨a_0, k_0, i_0⟩ fa_0 zo0 zf0 zb0 ze0
    have zh0 : laws_markIntS_L0 a_0 k_0 i_0 = some zo0 := zf0
    unfold laws_markIntS_L0 at zh0
    show WC _ _ _ _ _ [(0, .slice q0_0 n0_0 k0_0), (1, .int .i64 k_0), (5, .int .i64 i_0)] (Chunk.own tInt fa_0 q0_0 n0_0 k0_0 a_0 :: C)
    refine WC.seq ?_
    refine WC.seq ?_
    refine WC.region ?_
    refine Lt.ofWL.step rfl rfl rfl (OpV.move rfl) ?_
    refine Lt.ofWL.step rfl rfl rfl (OpV.move rfl) ?_
    refine Lt.ofWL.step rfl rfl rfl (OpV.inhF fun hin => OpV.lenO (xs := a_0) rfl si_23 rfl (ownLen hin (.head _))) ?_
    refine Lt.ofWL.step rfl rfl rfl (OpV.lss rfl rfl) ?_
    refine WL.nil ?_
    refine En.next ?_
    refine WC.cond rfl ?_ ?_
    ·
      intro hc_1
      replace zh0 := ifO_t hc_1 zh0
      refine WC.skip ?_
      refine En.next ?_
      refine WC.seq ?_
      refine WC.block ?_
      refine WC.seq ?_
      refine WC.inh fun hin4 => ?_
      have hn4_3 := ownLen hin4 (.head _)
      obtain ⟨x4_4, e4_4, zh0⟩ := bnd zh0
      obtain ⟨g4_3, ha4_3⟩ := ownAddrU hin4 (.head _) e4_4
      refine WC.region ?_
      refine Lt.ofWL.step rfl rfl rfl (OpV.move rfl) ?_
      refine Lt.ofWL.step rfl rfl rfl (OpV.move rfl) ?_
      refine Lt.ofWL.step rfl rfl rfl (OpV.move rfl) ?_
      refine Lt.ofWL.step rfl rfl rfl (OpV.idxA rfl rfl se_23 ha4_3 ⟨(upd_some e4_4).1.1, by rw [hn4_3]; exact (upd_some e4_4).1.2⟩) ?_
      refine WL.wkF (fun _ h => St.elFlat tInt_flat k_0 h) ?_
      refine WL.heavy0 rfl rfl (OpH.setEl (A := tInt) ha4_3 rfl rfl rfl ts_3 e4_4 ?_)
      intro f4_4
      refine WL.nil ?_
      refine En.next ?_
      refine WC.region ?_
      refine Lt.ofWL.step rfl rfl rfl (OpV.move rfl) ?_
      refine Lt.ofWL.step rfl rfl rfl (OpV.addR rfl rfl) ?_
      refine Lt.ofWL.step rfl rfl rfl (OpV.assign rfl) ?_
      refine WL.nil ?_
      refine En.block_norm ?_
      refine En.next ?_
      refine WC.region ?_
      refine Lt.ofWL.step rfl rfl rfl (OpV.move rfl) ?_
      refine Lt.ofWL.step rfl rfl rfl (OpV.addR rfl rfl) ?_
      refine Lt.ofWL.step rfl rfl rfl (OpV.assign rfl) ?_
      refine WL.nil ?_
      exact En.backP zb0 zh0 f4_4 (Sub.cons rfl (Sub.cons rfl (Sub.cons rfl (Sub.nil _)))) (fun _ h => h)
    ·
      intro hc_1
      replace zh0 := ifO_f hc_1 zh0
      refine WC.exit ?_
      refine En.then_exit ?_
      refine En.then_exit ?_
      have hx := exitP ze0 zh0
      exact En.wk _ _ (Sub.cons rfl (Sub.nil _)) (fun _ h => h) (zK0_0 ((k_0, a_0), fa_0) hx.symm)

theorem w_laws_markPlaneS {a_p0 : List PlaneT} {a_p1 : Int} {r : Int × (List PlaneT)} {q0_0 : Option Addr} {n0_0 k0_0 : Nat} {f0_0 : List Nat} (h : laws_markPlaneS a_p0 a_p1 = some r) {w0 w : World} {C : List Chunk} (hs0 : St w0 (Chunk.own tPlane f0_0 q0_0 n0_0 k0_0 a_p0 :: C) w)  :
    Calls Try.prog 44 #[.slice q0_0 n0_0 k0_0, .int .i64 a_p1] w (fun en w' => ∃ rv G, en = .returned rv ∧ (∃ (g0_0 : List Nat), rv = .int .i64 r.1 ∧ G = Chunk.own tPlane g0_0 q0_0 n0_0 k0_0 r.2 :: C) ∧ St w0 G w') := by
  unfold laws_markPlaneS at h
  refine enterF hs0 (vs := [_, _]) Try.func44 rfl rfl rfl rfl ?_
  refine WC.seq ?_
  refine WC.region ?_
  refine Lt.ofWL.step rfl rfl rfl (OpV.assign rfl) ?_
  refine WL.nil ?_
  refine En.next ?_
  refine WC.seq ?_
  refine WC.seq ?_
  refine WC.region ?_
  refine Lt.ofWL.step rfl rfl rfl (OpV.assign rfl) ?_
  refine WL.nil ?_
  refine En.next ?_
  refine WC.block ?_
  obtain ⟨zy0, ezy0, h⟩ := bnd h
  refine WC.cut (X := (Int × (List PlaneT)) × ((List Nat))) (.exit 0) (fun x => zy0 = x.1) (fun x => match x with | ((v_0e, p_0e), fp_0e) => [(1, .int .i64 v_0e)]) (fun x => match x with | ((v_0e, p_0e), fp_0e) => (Chunk.own tPlane fp_0e q0_0 n0_0 k0_0 p_0e :: C)) ?_ ?_
  ·
    rintro ⟨⟨v_0e, p_0e⟩, fp_0e⟩ hx
    replace hx : (v_0e, p_0e) = zy0 := hx.symm
    subst hx
    show En _ _ _ _ [(1, .int .i64 v_0e)] (Chunk.own tPlane fp_0e q0_0 n0_0 k0_0 p_0e :: C)
    refine En.block_exit ?_
    refine En.next ?_
    refine WC.seq ?_
    refine WC.region ?_
    refine Lt.ofWL.step rfl rfl rfl (OpV.move rfl) ?_
    refine Lt.ofWL.step rfl rfl rfl (OpV.assign rfl) ?_
    refine WL.nil ?_
    refine En.next ?_
    refine WC.ret ?_
    refine En.ret1 rfl (Res.tmp rfl) ?_
    obtain rfl := Option.some.inj h
    intro w' hs
    have hs := hs
    exact ⟨_, _, rfl, ⟨fp_0e, rfl, rfl⟩, hs⟩
  ·
    intro zK0_0
    refine WC.loopP (G := (List Nat)) (fun s g => match s, g with | (v_0, v1_0, v2_0), fv_0 => [(0, .slice q0_0 n0_0 k0_0), (1, .int .i64 v1_0), (5, .int .i64 v2_0)]) (fun s g => match s, g with | (v_0, v1_0, v2_0), fv_0 => (Chunk.own tPlane fv_0 q0_0 n0_0 k0_0 v_0 :: C)) (a_p0, a_p1, 0) f0_0 ezy0 (by exact Sub.cons rfl (Sub.cons rfl (Sub.cons rfl (Sub.nil _)))) (by exact (fun _ h => h)) ?_
    rintro zm0 ⟨v_0, v1_0, v2_0⟩ fv_0 zo0 zf0 zb0 ze0
    have zh0 : laws_markPlaneS_L0 v_0 v1_0 v2_0 = some zo0 := zf0
    unfold laws_markPlaneS_L0 at zh0
    show WC _ _ _ _ _ [(0, .slice q0_0 n0_0 k0_0), (1, .int .i64 v1_0), (5, .int .i64 v2_0)] (Chunk.own tPlane fv_0 q0_0 n0_0 k0_0 v_0 :: C)
    refine WC.seq ?_
    refine WC.seq ?_
    refine WC.region ?_
    refine Lt.ofWL.step rfl rfl rfl (OpV.move rfl) ?_
    refine Lt.ofWL.step rfl rfl rfl (OpV.move rfl) ?_
    refine Lt.ofWL.step rfl rfl rfl (OpV.inhF fun hin => OpV.lenO (xs := v_0) rfl si_30 rfl (ownLen hin (.head _))) ?_
    refine Lt.ofWL.step rfl rfl rfl (OpV.lss rfl rfl) ?_
    refine WL.nil ?_
    refine En.next ?_
    refine WC.cond rfl ?_ ?_
    ·
      intro hc_1
      replace zh0 := ifO_t hc_1 zh0
      refine WC.skip ?_
      refine En.next ?_
      refine WC.seq ?_
      refine WC.block ?_
      refine WC.seq ?_
      refine WC.inh fun hin4 => ?_
      obtain ⟨x4_5, e4_5, zh0⟩ := bnd zh0
      obtain ⟨g4_5, ha4_5⟩ := ownAddr hin4 (.head _) e4_5
      have hn4_5 := ownLen hin4 (.head _)
      obtain ⟨x4_7, e4_7, zh0⟩ := bnd zh0
      refine WC.region ?_
      refine Lt.ofWL.step rfl rfl rfl (OpV.move rfl) ?_
      refine Lt.ofWL.step rfl rfl rfl (OpV.move rfl) ?_
      refine Lt.ofWL.step rfl rfl rfl (OpV.move rfl) ?_
      refine Lt.ofWL.step rfl rfl rfl (OpV.remR rfl rfl rfl) ?_
      refine Lt.ofWL.step rfl rfl rfl (OpV.eql rfl rfl) ?_
      refine Lt.ofWL.step rfl rfl rfl (OpV.idxA rfl rfl se_30 ha4_5 ⟨(idx_some e4_5).1, by rw [hn4_5]; exact (idx_some e4_5).2.1⟩) ?_
      refine Lt.ofWL.step rfl rfl rfl (OpV.fieldAddr rfl fo_59_0) ?_
      refine WL.heavy0 rfl rfl (OpH.setFld (F := []) (A := tPlane) (off := 0) (i := v2_0) (v' := (PlaneT.mk (decide ((Int.tmod v1_0 3) = 0)) x4_5.X x4_5.Y x4_5.W x4_5.H x4_5.Layout x4_5.Words x4_5.Alpha x4_5.Orient x4_5.ToW x4_5.ToH)) ha4_5 rfl rfl rfl ts_4 rfl rfl e4_5 (fun _ _ _ ⟨_, _, _, hp, he, h0⟩ => ⟨_, _, _, hp, by rw [he]; rfl, h0⟩) e4_7 ?_)
      refine WL.nil ?_
      refine En.next ?_
      refine WC.seq ?_
      refine WC.region ?_
      refine Lt.ofWL.step rfl rfl rfl (OpV.move rfl) ?_
      refine Lt.ofWL.step rfl rfl rfl (OpV.addR rfl rfl) ?_
      refine Lt.ofWL.step rfl rfl rfl (OpV.assign rfl) ?_
      refine WL.nil ?_
      refine En.next ?_
      refine WC.seq ?_
      refine WC.inh fun hin6 => ?_
      obtain ⟨x6_3, e6_3, zh0⟩ := bnd zh0
      obtain ⟨g6_3, ha6_3⟩ := ownAddr hin6 (.head _) e6_3
      have hn6_3 := ownLen hin6 (.head _)
      obtain ⟨x6_5, e6_5, zh0⟩ := bnd zh0
      refine WC.region ?_
      refine Lt.ofWL.step rfl rfl rfl (OpV.move rfl) ?_
      refine Lt.ofWL.step rfl rfl rfl (OpV.move rfl) ?_
      refine Lt.ofWL.step rfl rfl rfl (OpV.move rfl) ?_
      refine Lt.ofWL.step rfl rfl rfl (OpV.idxA rfl rfl se_30 ha6_3 ⟨(idx_some e6_3).1, by rw [hn6_3]; exact (idx_some e6_3).2.1⟩) ?_
      refine Lt.ofWL.step rfl rfl rfl (OpV.fieldAddr rfl fo_59_1) ?_
      refine WL.heavy0 rfl rfl (OpH.setFld (F := []) (A := tPlane) (off := 1) (i := v2_0) (v' := (PlaneT.mk x6_3.On (wr (v1_0 + 1)) x6_3.Y x6_3.W x6_3.H x6_3.Layout x6_3.Words x6_3.Alpha x6_3.Orient x6_3.ToW x6_3.ToH)) ha6_3 rfl rfl rfl ts_3 rfl rfl e6_3 (fun _ _ _ ⟨_, _, _, hp, he, h0⟩ => ⟨_, _, _, hp, by rw [he]; rfl, h0⟩) e6_5 ?_)
      refine WL.nil ?_
      refine En.next ?_
      refine WC.seq ?_
      refine WC.region ?_
      refine Lt.ofWL.step rfl rfl rfl (OpV.move rfl) ?_
      refine Lt.ofWL.step rfl rfl rfl (OpV.addR rfl rfl) ?_
      refine Lt.ofWL.step rfl rfl rfl (OpV.assign rfl) ?_
      refine WL.nil ?_
      refine En.next ?_
      refine WC.seq ?_
      refine WC.inh fun hin8 => ?_
      obtain ⟨x8_3, e8_3, zh0⟩ := bnd zh0
      obtain ⟨g8_3, ha8_3⟩ := ownAddr hin8 (.head _) e8_3
      have hn8_3 := ownLen hin8 (.head _)
      obtain ⟨x8_5, e8_5, zh0⟩ := bnd zh0
      refine WC.region ?_
      refine Lt.ofWL.step rfl rfl rfl (OpV.move rfl) ?_
      refine Lt.ofWL.step rfl rfl rfl (OpV.move rfl) ?_
      refine Lt.ofWL.step rfl rfl rfl (OpV.move rfl) ?_
      refine Lt.ofWL.step rfl rfl rfl (OpV.idxA rfl rfl se_30 ha8_3 ⟨(idx_some e8_3).1, by rw [hn8_3]; exact (idx_some e8_3).2.1⟩) ?_
      refine Lt.ofWL.step rfl rfl rfl (OpV.fieldAddr rfl fo_59_2) ?_
      refine WL.heavy0 rfl rfl (OpH.setFld (F := []) (A := tPlane) (off := 2) (i := v2_0) (v' := (PlaneT.mk x8_3.On x8_3.X (wr ((wr (v1_0 + 1)) + 1)) x8_3.W x8_3.H x8_3.Layout x8_3.Words x8_3.Alpha x8_3.Orient x8_3.ToW x8_3.ToH)) ha8_3 rfl rfl rfl ts_3 rfl rfl e8_3 (fun _ _ _ ⟨_, _, _, hp, he, h0⟩ => ⟨_, _, _, hp, by rw [he]; rfl, h0⟩) e8_5 ?_)
      refine WL.nil ?_
      refine En.next ?_
      refine WC.seq ?_
      refine WC.region ?_
      refine Lt.ofWL.step rfl rfl rfl (OpV.move rfl) ?_
      refine Lt.ofWL.step rfl rfl rfl (OpV.addR rfl rfl) ?_
      refine Lt.ofWL.step rfl rfl rfl (OpV.assign rfl) ?_
      refine WL.nil ?_
      refine En.next ?_
      refine WC.seq ?_
      refine WC.inh fun hin10 => ?_
      obtain ⟨x10_3, e10_3, zh0⟩ := bnd zh0
      obtain ⟨g10_3, ha10_3⟩ := ownAddr hin10 (.head _) e10_3
      have hn10_3 := ownLen hin10 (.head _)
      obtain ⟨x10_5, e10_5, zh0⟩ := bnd zh0
      refine WC.region ?_
      refine Lt.ofWL.step rfl rfl rfl (OpV.move rfl) ?_
      refine Lt.ofWL.step rfl rfl rfl (OpV.move rfl) ?_
      refine Lt.ofWL.step rfl rfl rfl (OpV.move rfl) ?_
      refine Lt.ofWL.step rfl rfl rfl (OpV.idxA rfl rfl se_30 ha10_3 ⟨(idx_some e10_3).1, by rw [hn10_3]; exact (idx_some e10_3).2.1⟩) ?_
      refine Lt.ofWL.step rfl rfl rfl (OpV.fieldAddr rfl fo_59_3) ?_
      refine WL.heavy0 rfl rfl (OpH.setFld (F := []) (A := tPlane) (off := 3) (i := v2_0) (v' := (PlaneT.mk x10_3.On x10_3.X x10_3.Y (wr ((wr ((wr (v1_0 + 1)) + 1)) + 1)) x10_3.H x10_3.Layout x10_3.Words x10_3.Alpha x10_3.Orient x10_3.ToW x10_3.ToH)) ha10_3 rfl rfl rfl ts_3 rfl rfl e10_3 (fun _ _ _ ⟨_, _, _, hp, he, h0⟩ => ⟨_, _, _, hp, by rw [he]; rfl, h0⟩) e10_5 ?_)
      refine WL.nil ?_
      refine En.next ?_
      refine WC.seq ?_
      refine WC.region ?_
      refine Lt.ofWL.step rfl rfl rfl (OpV.move rfl) ?_
      refine Lt.ofWL.step rfl rfl rfl (OpV.addR rfl rfl) ?_
      refine Lt.ofWL.step rfl rfl rfl (OpV.assign rfl) ?_
      refine WL.nil ?_
      refine En.next ?_
      refine WC.seq ?_
      refine WC.inh fun hin12 => ?_
      obtain ⟨x12_3, e12_3, zh0⟩ := bnd zh0
      obtain ⟨g12_3, ha12_3⟩ := ownAddr hin12 (.head _) e12_3
      have hn12_3 := ownLen hin12 (.head _)
      obtain ⟨x12_5, e12_5, zh0⟩ := bnd zh0
      refine WC.region ?_
      refine Lt.ofWL.step rfl rfl rfl (OpV.move rfl) ?_
      refine Lt.ofWL.step rfl rfl rfl (OpV.move rfl) ?_
      refine Lt.ofWL.step rfl rfl rfl (OpV.move rfl) ?_
      refine Lt.ofWL.step rfl rfl rfl (OpV.idxA rfl rfl se_30 ha12_3 ⟨(idx_some e12_3).1, by rw [hn12_3]; exact (idx_some e12_3).2.1⟩) ?_
      refine Lt.ofWL.step rfl rfl rfl (OpV.fieldAddr rfl fo_59_4) ?_
      refine WL.heavy0 rfl rfl (OpH.setFld (F := []) (A := tPlane) (off := 4) (i := v2_0) (v' := (PlaneT.mk x12_3.On x12_3.X x12_3.Y x12_3.W (wr ((wr ((wr ((wr (v1_0 + 1)) + 1)) + 1)) + 1)) x12_3.Layout x12_3.Words x12_3.Alpha x12_3.Orient x12_3.ToW x12_3.ToH)) ha12_3 rfl rfl rfl ts_3 rfl rfl e12_3 (fun _ _ _ ⟨_, _, _, hp, he, h0⟩ => ⟨_, _, _, hp, by rw [he]; rfl, h0⟩) e12_5 ?_)
      refine WL.nil ?_
      refine En.next ?_
      refine WC.seq ?_
      refine WC.region ?_
      refine Lt.ofWL.step rfl rfl rfl (OpV.move rfl) ?_
      refine Lt.ofWL.step rfl rfl rfl (OpV.addR rfl rfl) ?_
      refine Lt.ofWL.step rfl rfl rfl (OpV.assign rfl) ?_
      refine WL.nil ?_
      refine En.next ?_
      refine WC.seq ?_
      refine WC.inh fun hin14 => ?_
      obtain ⟨x14_3, e14_3, zh0⟩ := bnd zh0
      obtain ⟨g14_3, ha14_3⟩ := ownAddr hin14 (.head _) e14_3
      have hn14_3 := ownLen hin14 (.head _)
      obtain ⟨x14_5, e14_5, zh0⟩ := bnd zh0
      refine WC.region ?_
      refine Lt.ofWL.step rfl rfl rfl (OpV.move rfl) ?_
      refine Lt.ofWL.step rfl rfl rfl (OpV.move rfl) ?_
      refine Lt.ofWL.step rfl rfl rfl (OpV.move rfl) ?_
      refine Lt.ofWL.step rfl rfl rfl (OpV.idxA rfl rfl se_30 ha14_3 ⟨(idx_some e14_3).1, by rw [hn14_3]; exact (idx_some e14_3).2.1⟩) ?_
      refine Lt.ofWL.step rfl rfl rfl (OpV.fieldAddr rfl fo_59_5) ?_
      refine WL.heavy0 rfl rfl (OpH.setFld (F := []) (A := tPlane) (off := 5) (i := v2_0) (v' := (PlaneT.mk x14_3.On x14_3.X x14_3.Y x14_3.W x14_3.H (wr ((wr ((wr ((wr ((wr (v1_0 + 1)) + 1)) + 1)) + 1)) + 1)) x14_3.Words x14_3.Alpha x14_3.Orient x14_3.ToW x14_3.ToH)) ha14_3 rfl rfl rfl ts_3 rfl rfl e14_3 (fun _ _ _ ⟨_, _, _, hp, he, h0⟩ => ⟨_, _, _, hp, by rw [he]; rfl, h0⟩) e14_5 ?_)
      refine WL.nil ?_
      refine En.next ?_
      refine WC.seq ?_
      refine WC.region ?_
      refine Lt.ofWL.step rfl rfl rfl (OpV.move rfl) ?_
      refine Lt.ofWL.step rfl rfl rfl (OpV.addR rfl rfl) ?_
      refine Lt.ofWL.step rfl rfl rfl (OpV.assign rfl) ?_
      refine WL.nil ?_
      refine En.next ?_
      refine WC.seq ?_
      refine WC.inh fun hin16 => ?_
      obtain ⟨x16_2, e16_2, zh0⟩ := bnd zh0
      obtain ⟨g16_2, ha16_2⟩ := ownAddr hin16 (.head _) e16_2
      have hn16_2 := ownLen hin16 (.head _)
      obtain ⟨⟨x16_6a, x16_6b⟩, e16_6, zh0⟩ := bnd zh0
      obtain ⟨x16_u, e16_u, zh0⟩ := bnd zh0
      refine WC.exF (fun w h => St.focus (F := []) e16_2 h) ?_
      rintro ⟨css16_2, fps16_2, cs16_2, fz16_2⟩ ⟨hcs16_2, hk16_2⟩
      refine WC.exF (X := (Option Addr) × Nat × (List Nat)) (Pre := fun x => match x with | (a16_2_0, c16_2_0, f16_2_0) => cs16_2 = [.bool x16_2.On, .int .i64 x16_2.X, .int .i64 x16_2.Y, .int .i64 x16_2.W, .int .i64 x16_2.H, .int .i64 x16_2.Layout, .slice a16_2_0 x16_2.Words.length c16_2_0, .int .i64 x16_2.Alpha, .int .i64 x16_2.Orient, .int .i64 x16_2.ToW, .int .i64 x16_2.ToH]) (F' := fun x => match x with | (a16_2_0, c16_2_0, f16_2_0) => (Chunk.own tInt f16_2_0 a16_2_0 x16_2.Words.length c16_2_0 x16_2.Words :: Chunk.row tPlane.T tPlane.k q0_0 x14_5.length k0_0 css16_2.flatten :: Chunk.inX tPlane css16_2 fps16_2 x14_5 v2_0.toNat :: C)) (fun w h => let ⟨a16_2_0, c16_2_0, f16_2_0, e, hs⟩ := tPlane_open (F := []) h; ⟨(a16_2_0, c16_2_0, f16_2_0), e, hs⟩) ?_
      rintro ⟨a16_2_0, c16_2_0, f16_2_0⟩ hz16_2
      replace hz16_2 : cs16_2 = [.bool x16_2.On, .int .i64 x16_2.X, .int .i64 x16_2.Y, .int .i64 x16_2.W, .int .i64 x16_2.H, .int .i64 x16_2.Layout, .slice a16_2_0 x16_2.Words.length c16_2_0, .int .i64 x16_2.Alpha, .int .i64 x16_2.Orient, .int .i64 x16_2.ToW, .int .i64 x16_2.ToH] := hz16_2
      subst hz16_2
      show WC _ _ _ _ _ _ (Chunk.own tInt f16_2_0 a16_2_0 x16_2.Words.length c16_2_0 x16_2.Words :: Chunk.row tPlane.T tPlane.k q0_0 x14_5.length k0_0 css16_2.flatten :: Chunk.inX tPlane css16_2 fps16_2 x14_5 v2_0.toNat :: C)
      refine WC.region ?_
      refine Lt.ofWL.step rfl rfl rfl (OpV.move rfl) ?_
      refine Lt.ofWL.step rfl rfl rfl (OpV.move rfl) ?_
      refine Lt.ofWL.step rfl rfl rfl (OpV.idxA rfl rfl se_30 ha16_2 ⟨(idx_some e16_2).1, by rw [hn16_2]; exact (idx_some e16_2).2.1⟩) ?_
      refine Lt.ofWL.step rfl rfl rfl (OpV.fieldAddr rfl fo_59_6) ?_
      refine Lt.ofWL.step rfl rfl rfl (OpV.load1 rfl pt_23 (fun w hs => focCell (j := 6) (hs.mem (.tail _ (.head _))) hk16_2 hcs16_2 ha16_2 rfl)) ?_
      refine Lt.ofWL.step rfl rfl rfl (OpV.move rfl) ?_
      refine WL.heavy rfl rfl rfl (OpH.callX (evs.cons rfl (evs.cons rfl (evs.nil))) ca_80 (fun w hs => w_laws_markIntS e16_6 hs) ?_)
      rintro _ _ ⟨g16_600, rfl, rfl⟩
      refine Lt.ofWL.step rfl rfl rfl (OpV.assign rfl) ?_
      refine WL.nil ?_
      refine En.exF (fun w h => St.unfocus (F := []) hcs16_2 hn16_2 e16_u (tPlane_mk x16_2.On x16_2.X x16_2.Y x16_2.W x16_2.H x16_2.Layout x16_6b x16_2.Alpha x16_2.Orient x16_2.ToW x16_2.ToH h)) ?_
      rintro fp16_u _
      refine En.next ?_
      refine WC.seq ?_
      refine WC.inh fun hin17 => ?_
      obtain ⟨x17_3, e17_3, zh0⟩ := bnd zh0
      obtain ⟨g17_3, ha17_3⟩ := ownAddr hin17 (.head _) e17_3
      have hn17_3 := ownLen hin17 (.head _)
      obtain ⟨x17_5, e17_5, zh0⟩ := bnd zh0
      refine WC.region ?_
      refine Lt.ofWL.step rfl rfl rfl (OpV.move rfl) ?_
      refine Lt.ofWL.step rfl rfl rfl (OpV.move rfl) ?_
      refine Lt.ofWL.step rfl rfl rfl (OpV.move rfl) ?_
      refine Lt.ofWL.step rfl rfl rfl (OpV.idxA rfl rfl se_30 ha17_3 ⟨(idx_some e17_3).1, by rw [hn17_3]; exact (idx_some e17_3).2.1⟩) ?_
      refine Lt.ofWL.step rfl rfl rfl (OpV.fieldAddr rfl fo_59_7) ?_
      refine WL.heavy0 rfl rfl (OpH.setFld (F := []) (A := tPlane) (off := 7) (i := v2_0) (v' := (PlaneT.mk x17_3.On x17_3.X x17_3.Y x17_3.W x17_3.H x17_3.Layout x17_3.Words x16_6a x17_3.Orient x17_3.ToW x17_3.ToH)) ha17_3 rfl rfl rfl ts_3 rfl rfl e17_3 (fun _ _ _ ⟨_, _, _, hp, he, h0⟩ => ⟨_, _, _, hp, by rw [he]; rfl, h0⟩) e17_5 ?_)
      refine WL.nil ?_
      refine En.next ?_
      refine WC.seq ?_
      refine WC.region ?_
      refine Lt.ofWL.step rfl rfl rfl (OpV.move rfl) ?_
      refine Lt.ofWL.step rfl rfl rfl (OpV.addR rfl rfl) ?_
      refine Lt.ofWL.step rfl rfl rfl (OpV.assign rfl) ?_
      refine WL.nil ?_
      refine En.next ?_
      refine WC.seq ?_
      refine WC.inh fun hin19 => ?_
      obtain ⟨x19_3, e19_3, zh0⟩ := bnd zh0
      obtain ⟨g19_3, ha19_3⟩ := ownAddr hin19 (.head _) e19_3
      have hn19_3 := ownLen hin19 (.head _)
      obtain ⟨x19_5, e19_5, zh0⟩ := bnd zh0
      refine WC.region ?_
      refine Lt.ofWL.step rfl rfl rfl (OpV.move rfl) ?_
      refine Lt.ofWL.step rfl rfl rfl (OpV.move rfl) ?_
      refine Lt.ofWL.step rfl rfl rfl (OpV.move rfl) ?_
      refine Lt.ofWL.step rfl rfl rfl (OpV.idxA rfl rfl se_30 ha19_3 ⟨(idx_some e19_3).1, by rw [hn19_3]; exact (idx_some e19_3).2.1⟩) ?_
      refine Lt.ofWL.step rfl rfl rfl (OpV.fieldAddr rfl fo_59_8) ?_
      refine WL.heavy0 rfl rfl (OpH.setFld (F := []) (A := tPlane) (off := 8) (i := v2_0) (v' := (PlaneT.mk x19_3.On x19_3.X x19_3.Y x19_3.W x19_3.H x19_3.Layout x19_3.Words x19_3.Alpha (wr (x16_6a + 1)) x19_3.ToW x19_3.ToH)) ha19_3 rfl rfl rfl ts_3 rfl rfl e19_3 (fun _ _ _ ⟨_, _, _, hp, he, h0⟩ => ⟨_, _, _, hp, by rw [he]; rfl, h0⟩) e19_5 ?_)
      refine WL.nil ?_
      refine En.next ?_
      refine WC.seq ?_
      refine WC.region ?_
      refine Lt.ofWL.step rfl rfl rfl (OpV.move rfl) ?_
      refine Lt.ofWL.step rfl rfl rfl (OpV.addR rfl rfl) ?_
      refine Lt.ofWL.step rfl rfl rfl (OpV.assign rfl) ?_
      refine WL.nil ?_
      refine En.next ?_
      refine WC.seq ?_
      refine WC.inh fun hin21 => ?_
      obtain ⟨x21_3, e21_3, zh0⟩ := bnd zh0
      obtain ⟨g21_3, ha21_3⟩ := ownAddr hin21 (.head _) e21_3
      have hn21_3 := ownLen hin21 (.head _)
      obtain ⟨x21_5, e21_5, zh0⟩ := bnd zh0
      refine WC.region ?_
      refine Lt.ofWL.step rfl rfl rfl (OpV.move rfl) ?_
      refine Lt.ofWL.step rfl rfl rfl (OpV.move rfl) ?_
      refine Lt.ofWL.step rfl rfl rfl (OpV.move rfl) ?_
      refine Lt.ofWL.step rfl rfl rfl (OpV.idxA rfl rfl se_30 ha21_3 ⟨(idx_some e21_3).1, by rw [hn21_3]; exact (idx_some e21_3).2.1⟩) ?_
      refine Lt.ofWL.step rfl rfl rfl (OpV.fieldAddr rfl fo_59_9) ?_
      refine WL.heavy0 rfl rfl (OpH.setFld (F := []) (A := tPlane) (off := 9) (i := v2_0) (v' := (PlaneT.mk x21_3.On x21_3.X x21_3.Y x21_3.W x21_3.H x21_3.Layout x21_3.Words x21_3.Alpha x21_3.Orient (wr ((wr (x16_6a + 1)) + 1)) x21_3.ToH)) ha21_3 rfl rfl rfl ts_3 rfl rfl e21_3 (fun _ _ _ ⟨_, _, _, hp, he, h0⟩ => ⟨_, _, _, hp, by rw [he]; rfl, h0⟩) e21_5 ?_)
      refine WL.nil ?_
      refine En.next ?_
      refine WC.seq ?_
      refine WC.region ?_
      refine Lt.ofWL.step rfl rfl rfl (OpV.move rfl) ?_
      refine Lt.ofWL.step rfl rfl rfl (OpV.addR rfl rfl) ?_
      refine Lt.ofWL.step rfl rfl rfl (OpV.assign rfl) ?_
      refine WL.nil ?_
      refine En.next ?_
      refine WC.seq ?_
      refine WC.inh fun hin23 => ?_
      obtain ⟨x23_3, e23_3, zh0⟩ := bnd zh0
      obtain ⟨g23_3, ha23_3⟩ := ownAddr hin23 (.head _) e23_3
      have hn23_3 := ownLen hin23 (.head _)
      obtain ⟨x23_5, e23_5, zh0⟩ := bnd zh0
      refine WC.region ?_
      refine Lt.ofWL.step rfl rfl rfl (OpV.move rfl) ?_
      refine Lt.ofWL.step rfl rfl rfl (OpV.move rfl) ?_
      refine Lt.ofWL.step rfl rfl rfl (OpV.move rfl) ?_
      refine Lt.ofWL.step rfl rfl rfl (OpV.idxA rfl rfl se_30 ha23_3 ⟨(idx_some e23_3).1, by rw [hn23_3]; exact (idx_some e23_3).2.1⟩) ?_
      refine Lt.ofWL.step rfl rfl rfl (OpV.fieldAddr rfl fo_59_10) ?_
      refine WL.heavy0 rfl rfl (OpH.setFld (F := []) (A := tPlane) (off := 10) (i := v2_0) (v' := (PlaneT.mk x23_3.On x23_3.X x23_3.Y x23_3.W x23_3.H x23_3.Layout x23_3.Words x23_3.Alpha x23_3.Orient x23_3.ToW (wr ((wr ((wr (x16_6a + 1)) + 1)) + 1)))) ha23_3 rfl rfl rfl ts_3 rfl rfl e23_3 (fun _ _ _ ⟨_, _, _, hp, he, h0⟩ => ⟨_, _, _, hp, by rw [he]; rfl, h0⟩) e23_5 ?_)
      refine WL.nil ?_
      refine En.next ?_
      refine WC.region ?_
      refine Lt.ofWL.step rfl rfl rfl (OpV.move rfl) ?_
      refine Lt.ofWL.step rfl rfl rfl (OpV.addR rfl rfl) ?_
      refine Lt.ofWL.step rfl rfl rfl (OpV.assign rfl) ?_
      refine WL.nil ?_
      refine En.block_norm ?_
      refine En.next ?_
      refine WC.region ?_
      refine Lt.ofWL.step rfl rfl rfl (OpV.move rfl) ?_
      refine Lt.ofWL.step rfl rfl rfl (OpV.addR rfl rfl) ?_
      refine Lt.ofWL.step rfl rfl rfl (OpV.assign rfl) ?_
      refine WL.nil ?_
      exact En.backP zb0 zh0 fp16_u (Sub.cons rfl (Sub.cons rfl (Sub.cons rfl (Sub.nil _)))) (fun _ h => h)
    ·
      intro hc_1
      replace zh0 := ifO_f hc_1 zh0
      refine WC.exit ?_
      refine En.then_exit ?_
      refine En.then_exit ?_
      have hx := exitP ze0 zh0
      exact En.wk _ _ (Sub.cons rfl (Sub.nil _)) (fun _ h => h) (zK0_0 ((v1_0, v_0), fv_0) hx.symm)

theorem w_laws_markColorMap {a_p0 : ColorMapT} {k_p1 : Int} {r : Int × (List Int) × (List Int)} {q0_0 : Option Addr} {n0_0 k0_0 : Nat} {f0_0 : List Nat} {q0_1 : Option Addr} {n0_1 k0_1 : Nat} {f0_1 : List Nat} (h : laws_markColorMap a_p0 k_p1 = some r) {w0 w : World} {C : List Chunk} (hs0 : St w0 (Chunk.own tInt f0_0 q0_0 n0_0 k0_0 a_p0.Matrix :: Chunk.own tInt f0_1 q0_1 n0_1 k0_1 a_p0.Curve :: C) w)  :
    Calls Try.prog 45 #[.agg #[.slice q0_0 n0_0 k0_0, .slice q0_1 n0_1 k0_1], .int .i64 k_p1] w (fun en w' => ∃ rv G, en = .returned rv ∧ (∃ (g0_0 : List Nat) (g0_1 : List Nat), rv = .int .i64 r.1 ∧ G = Chunk.own tInt g0_0 q0_0 n0_0 k0_0 r.2.1 :: Chunk.own tInt g0_1 q0_1 n0_1 k0_1 r.2.2 :: C) ∧ St w0 G w') := by
  unfold laws_markColorMap at h
  refine enterF hs0 (vs := [_, _]) Try.func45 rfl rfl rfl rfl ?_
  refine WC.seq ?_
  refine WC.region ?_
  refine WL.heavy rfl rfl rfl (OpH.box rfl rfl ?_)
  intro b0_0
  refine Lt.ofWL.step rfl rfl rfl (OpV.assign rfl) ?_
  refine WL.nil ?_
  refine En.next ?_
  refine WC.seq ?_
  obtain ⟨⟨x1_3a, x1_3b⟩, e1_3, h⟩ := bnd h
  refine WC.region ?_
  refine Lt.ofWL.step rfl rfl rfl (OpV.fieldAddr rfl fo_31_0) ?_
  refine Lt.ofWL.step rfl rfl rfl (OpV.loadBox rfl pt_23 (.head _) rfl) ?_
  refine Lt.ofWL.step rfl rfl rfl (OpV.move rfl) ?_
  refine WL.wkF (fun _ h => h.perm (List.perm_middle (l₁ := [_]))) ?_
  refine WL.heavy rfl rfl rfl (OpH.callX (evs.cons rfl (evs.cons rfl (evs.nil))) ca_80 (fun w hs => w_laws_markIntS e1_3 hs) ?_)
  rintro _ _ ⟨g1_300, rfl, rfl⟩
  refine Lt.ofWL.step rfl rfl rfl (OpV.assign rfl) ?_
  refine WL.nil ?_
  refine En.next ?_
  refine WC.seq ?_
  obtain ⟨⟨x2_3a, x2_3b⟩, e2_3, h⟩ := bnd h
  refine WC.region ?_
  refine Lt.ofWL.step rfl rfl rfl (OpV.fieldAddr rfl fo_31_1) ?_
  refine Lt.ofWL.step rfl rfl rfl (OpV.loadBox rfl pt_23 (.tail _ (.head _)) rfl) ?_
  refine Lt.ofWL.step rfl rfl rfl (OpV.move rfl) ?_
  refine WL.wkF (fun _ h => h.perm (List.perm_middle (l₁ := [_, _]))) ?_
  refine WL.heavy rfl rfl rfl (OpH.callX (evs.cons rfl (evs.cons rfl (evs.nil))) ca_80 (fun w hs => w_laws_markIntS e2_3 hs) ?_)
  rintro _ _ ⟨g2_300, rfl, rfl⟩
  refine Lt.ofWL.step rfl rfl rfl (OpV.assign rfl) ?_
  refine WL.nil ?_
  refine En.next ?_
  refine WC.seq ?_
  refine WC.region ?_
  refine Lt.ofWL.step rfl rfl rfl (OpV.move rfl) ?_
  refine Lt.ofWL.step rfl rfl rfl (OpV.assign rfl) ?_
  refine WL.nil ?_
  refine En.next ?_
  refine WC.ret ?_
  refine En.ret1 rfl (Res.tmp rfl) ?_
  obtain rfl := Option.some.inj h
  intro w' hs
  have hs := ((hs).perm (List.perm_middle (l₁ := [_]))).sub (.cons_cons _ (.cons_cons _ (.cons _ (List.Sublist.refl _))))
  exact ⟨_, _, rfl, ⟨g1_300, g2_300, rfl, rfl⟩, hs⟩

theorem w_laws_markCrtc {a_p0 : CrtcT} {k_p1 : Int} {r : Int × (List PlaneT) × (List Int) × (List Int)} {q0_0 : Option Addr} {n0_0 k0_0 : Nat} {f0_0 : List Nat} {q0_1 : Option Addr} {n0_1 k0_1 : Nat} {f0_1 : List Nat} {q0_2 : Option Addr} {n0_2 k0_2 : Nat} {f0_2 : List Nat} (h : laws_markCrtc a_p0 k_p1 = some r) {w0 w : World} {C : List Chunk} (hs0 : St w0 (Chunk.own tPlane f0_0 q0_0 n0_0 k0_0 a_p0.Planes :: Chunk.own tInt f0_1 q0_1 n0_1 k0_1 a_p0.Color.Matrix :: Chunk.own tInt f0_2 q0_2 n0_2 k0_2 a_p0.Color.Curve :: C) w)  :
    Calls Try.prog 15 #[.agg #[.int .i64 a_p0.W, .int .i64 a_p0.H, .slice q0_0 n0_0 k0_0, .slice q0_1 n0_1 k0_1, .slice q0_2 n0_2 k0_2], .int .i64 k_p1] w (fun en w' => ∃ rv G, en = .returned rv ∧ (∃ (g0_0 : List Nat) (g0_1 : List Nat) (g0_2 : List Nat), rv = .int .i64 r.1 ∧ G = Chunk.own tPlane g0_0 q0_0 n0_0 k0_0 r.2.1 :: Chunk.own tInt g0_1 q0_1 n0_1 k0_1 r.2.2.1 :: Chunk.own tInt g0_2 q0_2 n0_2 k0_2 r.2.2.2 :: C) ∧ St w0 G w') := by
  unfold laws_markCrtc at h
  refine enterF hs0 (vs := [_, _]) Try.func15 rfl rfl rfl rfl ?_
  refine WC.seq ?_
  refine WC.region ?_
  refine WL.heavy rfl rfl rfl (OpH.box rfl rfl ?_)
  intro b0_0
  refine Lt.ofWL.step rfl rfl rfl (OpV.assign rfl) ?_
  refine WL.nil ?_
  refine En.next ?_
  refine WC.seq ?_
  obtain ⟨⟨x1_3a, x1_3b⟩, e1_3, h⟩ := bnd h
  refine WC.region ?_
  refine Lt.ofWL.step rfl rfl rfl (OpV.fieldAddr rfl fo_33_2) ?_
  refine Lt.ofWL.step rfl rfl rfl (OpV.loadBox rfl pt_30 (.head _) rfl) ?_
  refine Lt.ofWL.step rfl rfl rfl (OpV.move rfl) ?_
  refine WL.wkF (fun _ h => h.perm (List.perm_middle (l₁ := [_]))) ?_
  refine WL.heavy rfl rfl rfl (OpH.callX (evs.cons rfl (evs.cons rfl (evs.nil))) ca_44 (fun w hs => w_laws_markPlaneS e1_3 hs) ?_)
  rintro _ _ ⟨g1_300, rfl, rfl⟩
  refine Lt.ofWL.step rfl rfl rfl (OpV.assign rfl) ?_
  refine WL.nil ?_
  refine En.next ?_
  refine WC.seq ?_
  obtain ⟨⟨x2_3a, x2_3b, x2_3c⟩, e2_3, h⟩ := bnd h
  refine WC.region ?_
  refine Lt.ofWL.step rfl rfl rfl (OpV.fieldAddr rfl fo_33_3) ?_
  refine Lt.ofWL.step rfl rfl rfl (OpV.loadPart rfl (.tail _ (.head _)) ag_31 rfl rfl) ?_
  refine Lt.ofWL.step rfl rfl rfl (OpV.move rfl) ?_
  refine WL.wkF (fun _ h => h.perm (List.perm_middle (l₁ := [_, _, _]))) ?_
  refine WL.wkF (fun _ h => h.perm (List.perm_middle (l₁ := [_, _, _]))) ?_
  refine WL.heavy rfl rfl rfl (OpH.callX (evs.cons rfl (evs.cons rfl (evs.nil))) ca_45 (fun w hs => w_laws_markColorMap e2_3 hs) ?_)
  rintro _ _ ⟨g2_300, g2_301, rfl, rfl⟩
  refine Lt.ofWL.step rfl rfl rfl (OpV.assign rfl) ?_
  refine WL.nil ?_
  refine En.next ?_
  refine WC.seq ?_
  refine WC.region ?_
  refine Lt.ofWL.step rfl rfl rfl (OpV.move rfl) ?_
  refine Lt.ofWL.step rfl rfl rfl (OpV.assign rfl) ?_
  refine WL.nil ?_
  refine En.next ?_
  refine WC.ret ?_
  refine En.ret1 rfl (Res.tmp rfl) ?_
  obtain rfl := Option.some.inj h
  intro w' hs
  have hs := ((((hs).perm (List.perm_middle (l₁ := [_]))).perm (List.perm_middle (l₁ := [_]))).perm (List.perm_middle (l₁ := [_, _]))).sub (.cons_cons _ (.cons_cons _ (.cons_cons _ (.cons _ (List.Sublist.refl _)))))
  exact ⟨_, _, rfl, ⟨g1_300, g2_300, g2_301, rfl, rfl⟩, hs⟩

theorem w_laws_heldIntS {a_p0 : List Int} {k_p1 : Int} {r : Int} {q0_0 : Option Addr} {n0_0 k0_0 : Nat} (h : laws_heldIntS a_p0 k_p1 = some r) {w : World} (r0_0 : Rd tInt w q0_0 n0_0 k0_0 a_p0)   :
    Calls Try.prog 81 #[.slice q0_0 n0_0 k0_0, .int .i64 k_p1] w (fun en w' => en = .returned (.int .i64 r) ∧ Ext w w') := by
  obtain rfl := r0_0.1
  unfold laws_heldIntS at h
  refine enter (vs := [_, _]) Try.func81 rfl rfl rfl rfl ?_
  refine WC.seq ?_
  refine WC.region ?_
  refine Lt.ofWL.step rfl rfl rfl (OpV.assign rfl) ?_
  refine WL.nil ?_
  refine En.next ?_
  refine WC.seq ?_
  refine WC.seq ?_
  refine WC.region ?_
  refine Lt.ofWL.step rfl rfl rfl (OpV.assign rfl) ?_
  refine WL.nil ?_
  refine En.next ?_
  refine WC.block ?_
  obtain ⟨zy0, ezy0, h⟩ := bnd h
  refine WC.cut (X := (Int) × (Unit)) (.exit 0) (fun x => zy0 = .inl x.1) (fun x => match x with | (k_0e, ()) => [(1, .int .i64 k_0e)]) (fun x => match x with | (k_0e, ()) => []) ?_ ?_
  ·
    rintro ⟨k_0e, ⟨⟩⟩ hx
    replace hx : .inl k_0e = zy0 := hx.symm
    subst hx
    replace h := fork_l h
    show En _ _ _ _ [(1, .int .i64 k_0e)] []
    refine En.block_exit ?_
    refine En.next ?_
    refine WC.seq ?_
    refine WC.region ?_
    refine Lt.ofWL.step rfl rfl rfl (OpV.move rfl) ?_
    refine Lt.ofWL.step rfl rfl rfl (OpV.assign rfl) ?_
    refine WL.nil ?_
    refine En.next ?_
    refine WC.ret ?_
    refine En.ret1 rfl (Res.tmp rfl) ?_
    obtain rfl := Option.some.inj h
    intro w' hs
    exact ⟨rfl, hs.below⟩
  ·
    intro zK0_0
    refine WC.loopP (G := Unit) (fun s g => match s, g with | (k_0, i_0), () => [(0, .slice q0_0 a_p0.length k0_0), (1, .int .i64 k_0), (5, .int .i64 i_0)]) (fun s g => match s, g with | (k_0, i_0), () => []) (k_p1, 0) () ezy0 (by exact Sub.cons rfl (Sub.cons rfl (Sub.cons rfl (Sub.nil _)))) (by exact (fun _ h => h)) ?_
    rintro zm0 ⟨k_0, i_0⟩ ⟨⟩ zo0 zf0 zb0 ze0
    have zh0 : laws_heldIntS_L0 a_p0 k_0 i_0 = some zo0 := zf0
    unfold laws_heldIntS_L0 at zh0
    show WC _ _ _ _ _ [(0, .slice q0_0 a_p0.length k0_0), (1, .int .i64 k_0), (5, .int .i64 i_0)] []
    refine WC.seq ?_
    refine WC.seq ?_
    refine WC.region ?_
    refine Lt.ofWL.step rfl rfl rfl (OpV.move rfl) ?_
    refine Lt.ofWL.step rfl rfl rfl (OpV.move rfl) ?_
    refine Lt.ofWL.step rfl rfl rfl (OpV.len rfl si_23 rfl) ?_
    refine Lt.ofWL.step rfl rfl rfl (OpV.lss rfl rfl) ?_
    refine WL.nil ?_
    refine En.next ?_
    refine WC.cond rfl ?_ ?_
    ·
      intro hc_1
      replace zh0 := ifO_t hc_1 zh0
      refine WC.skip ?_
      refine En.next ?_
      refine WC.seq ?_
      refine WC.block ?_
      refine WC.seq ?_
      refine WC.seq ?_
      obtain ⟨x4_2, e4_2, zh0⟩ := bnd zh0
      obtain ⟨g4_2, o4_2, _, ha4_2, rfl, hd4_2⟩ := Rd.atIdx r0_0 e4_2
      replace hd4_2 : ∀ (j : Nat) v, ([.int .i64 x4_2] : List Value)[j]? = some v → w.cell? ⟨g4_2, o4_2 + i_0.toNat * 1 + j, .none⟩ = some v := hd4_2
      refine WC.region ?_
      refine Lt.ofWL.step rfl rfl rfl (OpV.move rfl) ?_
      refine Lt.ofWL.step rfl rfl rfl (OpV.move rfl) ?_
      refine Lt.ofWL.step rfl rfl rfl (OpV.idxA rfl rfl se_23 ha4_2 ⟨(idx_some e4_2).1, (idx_some e4_2).2.1⟩) ?_
      refine Lt.ofWL.step rfl rfl rfl (OpV.load1 rfl pt_3 (fun w hs => hs.cell (hd4_2 0 _ rfl))) ?_
      refine Lt.ofWL.step rfl rfl rfl (OpV.move rfl) ?_
      refine Lt.ofWL.step rfl rfl rfl (OpV.neq rfl rfl) ?_
      refine WL.nil ?_
      refine En.next ?_
      refine WC.cond rfl ?_ ?_
      ·
        intro hc_2
        replace zh0 := ifO_t hc_2 zh0
        refine WC.seq ?_
        refine WC.region ?_
        refine Lt.ofWL.step rfl rfl rfl (OpV.assign rfl) ?_
        refine WL.nil ?_
        refine En.next ?_
        refine WC.ret ?_
        refine En.then_ret ?_
        refine En.block_ret ?_
        refine En.then_ret ?_
        refine En.then_ret ?_
        refine En.block_ret ?_
        refine En.then_ret ?_
        refine En.ret1 rfl (Res.tmp rfl) ?_
        have hx := exitP ze0 zh0
        subst hx
        replace h := fork_r h
        obtain rfl := Option.some.inj h
        intro w' hs
        exact ⟨rfl, hs.below⟩
      ·
        intro hc_2
        replace zh0 := ifO_f hc_2 zh0
        refine WC.skip ?_
        refine En.next ?_
        refine WC.region ?_
        refine Lt.ofWL.step rfl rfl rfl (OpV.move rfl) ?_
        refine Lt.ofWL.step rfl rfl rfl (OpV.addR rfl rfl) ?_
        refine Lt.ofWL.step rfl rfl rfl (OpV.assign rfl) ?_
        refine WL.nil ?_
        refine En.block_norm ?_
        refine En.next ?_
        refine WC.region ?_
        refine Lt.ofWL.step rfl rfl rfl (OpV.move rfl) ?_
        refine Lt.ofWL.step rfl rfl rfl (OpV.addR rfl rfl) ?_
        refine Lt.ofWL.step rfl rfl rfl (OpV.assign rfl) ?_
        refine WL.nil ?_
        exact En.backP zb0 zh0 () (Sub.cons rfl (Sub.cons rfl (Sub.cons rfl (Sub.nil _)))) (fun _ h => h)
    ·
      intro hc_1
      replace zh0 := ifO_f hc_1 zh0
      refine WC.exit ?_
      refine En.then_exit ?_
      refine En.then_exit ?_
      have hx := exitP ze0 zh0
      exact En.wk _ _ (Sub.cons rfl (Sub.nil _)) (fun _ h => h) (zK0_0 (k_0, ()) hx.symm)

theorem w_laws_heldPlaneS {a_p0 : List PlaneT} {a_p1 : Int} {r : Int} {q0_0 : Option Addr} {n0_0 k0_0 : Nat} (h : laws_heldPlaneS a_p0 a_p1 = some r) {w : World} (r0_0 : Rd tPlane w q0_0 n0_0 k0_0 a_p0)   :
    Calls Try.prog 46 #[.slice q0_0 n0_0 k0_0, .int .i64 a_p1] w (fun en w' => en = .returned (.int .i64 r) ∧ Ext w w') := by
  obtain rfl := r0_0.1
  unfold laws_heldPlaneS at h
  refine enter (vs := [_, _]) Try.func46 rfl rfl rfl rfl ?_
  refine WC.seq ?_
  refine WC.region ?_
  refine Lt.ofWL.step rfl rfl rfl (OpV.assign rfl) ?_
  refine WL.nil ?_
  refine En.next ?_
  refine WC.seq ?_
  refine WC.seq ?_
  refine WC.region ?_
  refine Lt.ofWL.step rfl rfl rfl (OpV.assign rfl) ?_
  refine WL.nil ?_
  refine En.next ?_
  refine WC.block ?_
  obtain ⟨zy0, ezy0, h⟩ := bnd h
  refine WC.cut (X := (Int) × (Unit)) (.exit 0) (fun x => zy0 = .inl x.1) (fun x => match x with | (v_0e, ()) => [(1, .int .i64 v_0e)]) (fun x => match x with | (v_0e, ()) => []) ?_ ?_
  ·
    rintro ⟨v_0e, ⟨⟩⟩ hx
    replace hx : .inl v_0e = zy0 := hx.symm
    subst hx
    replace h := fork_l h
    show En _ _ _ _ [(1, .int .i64 v_0e)] []
    refine En.block_exit ?_
    refine En.next ?_
    refine WC.seq ?_
    refine WC.region ?_
    refine Lt.ofWL.step rfl rfl rfl (OpV.move rfl) ?_
    refine Lt.ofWL.step rfl rfl rfl (OpV.assign rfl) ?_
    refine WL.nil ?_
    refine En.next ?_
    refine WC.ret ?_
    refine En.ret1 rfl (Res.tmp rfl) ?_
    obtain rfl := Option.some.inj h
    intro w' hs
    exact ⟨rfl, hs.below⟩
  ·
    intro zK0_0
    refine WC.loopP (G := Unit) (fun s g => match s, g with | (v_0, v1_0), () => [(0, .slice q0_0 a_p0.length k0_0), (1, .int .i64 v_0), (5, .int .i64 v1_0)]) (fun s g => match s, g with | (v_0, v1_0), () => []) (a_p1, 0) () ezy0 (by exact Sub.cons rfl (Sub.cons rfl (Sub.cons rfl (Sub.nil _)))) (by exact (fun _ h => h)) ?_
    rintro zm0 ⟨v_0, v1_0⟩ ⟨⟩ zo0 zf0 zb0 ze0
    have zh0 : laws_heldPlaneS_L0 a_p0 v_0 v1_0 = some zo0 := zf0
    unfold laws_heldPlaneS_L0 at zh0
    show WC _ _ _ _ _ [(0, .slice q0_0 a_p0.length k0_0), (1, .int .i64 v_0), (5, .int .i64 v1_0)] []
    refine WC.seq ?_
    refine WC.seq ?_
    refine WC.region ?_
    refine Lt.ofWL.step rfl rfl rfl (OpV.move rfl) ?_
    refine Lt.ofWL.step rfl rfl rfl (OpV.move rfl) ?_
    refine Lt.ofWL.step rfl rfl rfl (OpV.len rfl si_30 rfl) ?_
    refine Lt.ofWL.step rfl rfl rfl (OpV.lss rfl rfl) ?_
    refine WL.nil ?_
    refine En.next ?_
    refine WC.cond rfl ?_ ?_
    ·
      intro hc_1
      replace zh0 := ifO_t hc_1 zh0
      refine WC.skip ?_
      refine En.next ?_
      refine WC.seq ?_
      refine WC.block ?_
      refine WC.seq ?_
      refine WC.seq ?_
      obtain ⟨x4_2, e4_2, zh0⟩ := bnd zh0
      obtain ⟨g4_2, o4_2, _, ha4_2, ⟨a4_2_1, c4_2_1, rfl, r4_2_1⟩, hd4_2⟩ := Rd.atIdx r0_0 e4_2
      replace hd4_2 : ∀ (j : Nat) v, ([.bool x4_2.On, .int .i64 x4_2.X, .int .i64 x4_2.Y, .int .i64 x4_2.W, .int .i64 x4_2.H, .int .i64 x4_2.Layout, .slice a4_2_1 x4_2.Words.length c4_2_1, .int .i64 x4_2.Alpha, .int .i64 x4_2.Orient, .int .i64 x4_2.ToW, .int .i64 x4_2.ToH] : List Value)[j]? = some v → w.cell? ⟨g4_2, o4_2 + v1_0.toNat * 11 + j, .none⟩ = some v := hd4_2
      refine WC.region ?_
      refine Lt.ofWL.step rfl rfl rfl (OpV.move rfl) ?_
      refine Lt.ofWL.step rfl rfl rfl (OpV.move rfl) ?_
      refine Lt.ofWL.step rfl rfl rfl (OpV.idxA rfl rfl se_30 ha4_2 ⟨(idx_some e4_2).1, (idx_some e4_2).2.1⟩) ?_
      refine Lt.ofWL.step rfl rfl rfl (OpV.fieldAddr rfl fo_59_0) ?_
      refine Lt.ofWL.step rfl rfl rfl (OpV.load1 rfl pt_4 (fun w hs => hs.cell (hd4_2 0 _ rfl))) ?_
      refine Lt.ofWL.step rfl rfl rfl (OpV.move rfl) ?_
      refine Lt.ofWL.step rfl rfl rfl (OpV.remR rfl rfl rfl) ?_
      refine Lt.ofWL.step rfl rfl rfl (OpV.eql rfl rfl) ?_
      refine Lt.ofWL.step rfl rfl rfl (OpV.bneq rfl rfl ub_4) ?_
      refine WL.nil ?_
      refine En.next ?_
      refine WC.cond rfl ?_ ?_
      ·
        intro hc_2
        replace zh0 := ifO_t hc_2 zh0
        refine WC.seq ?_
        refine WC.region ?_
        refine Lt.ofWL.step rfl rfl rfl (OpV.assign rfl) ?_
        refine WL.nil ?_
        refine En.next ?_
        refine WC.ret ?_
        refine En.then_ret ?_
        refine En.block_ret ?_
        refine En.then_ret ?_
        refine En.then_ret ?_
        refine En.block_ret ?_
        refine En.then_ret ?_
        refine En.ret1 rfl (Res.tmp rfl) ?_
        have hx := exitP ze0 zh0
        subst hx
        replace h := fork_r h
        obtain rfl := Option.some.inj h
        intro w' hs
        exact ⟨rfl, hs.below⟩
      ·
        intro hc_2
        replace zh0 := ifO_f hc_2 zh0
        refine WC.skip ?_
        refine En.next ?_
        refine WC.seq ?_
        refine WC.region ?_
        refine Lt.ofWL.step rfl rfl rfl (OpV.move rfl) ?_
        refine Lt.ofWL.step rfl rfl rfl (OpV.addR rfl rfl) ?_
        refine Lt.ofWL.step rfl rfl rfl (OpV.assign rfl) ?_
        refine WL.nil ?_
        refine En.next ?_
        refine WC.seq ?_
        refine WC.seq ?_
        obtain ⟨x7_2, e7_2, zh0⟩ := bnd zh0
        obtain ⟨g7_2, o7_2, _, ha7_2, ⟨a7_2_1, c7_2_1, rfl, r7_2_1⟩, hd7_2⟩ := Rd.atIdx r0_0 e7_2
        replace hd7_2 : ∀ (j : Nat) v, ([.bool x7_2.On, .int .i64 x7_2.X, .int .i64 x7_2.Y, .int .i64 x7_2.W, .int .i64 x7_2.H, .int .i64 x7_2.Layout, .slice a7_2_1 x7_2.Words.length c7_2_1, .int .i64 x7_2.Alpha, .int .i64 x7_2.Orient, .int .i64 x7_2.ToW, .int .i64 x7_2.ToH] : List Value)[j]? = some v → w.cell? ⟨g7_2, o7_2 + v1_0.toNat * 11 + j, .none⟩ = some v := hd7_2
        refine WC.region ?_
        refine Lt.ofWL.step rfl rfl rfl (OpV.move rfl) ?_
        refine Lt.ofWL.step rfl rfl rfl (OpV.move rfl) ?_
        refine Lt.ofWL.step rfl rfl rfl (OpV.idxA rfl rfl se_30 ha7_2 ⟨(idx_some e7_2).1, (idx_some e7_2).2.1⟩) ?_
        refine Lt.ofWL.step rfl rfl rfl (OpV.fieldAddr rfl fo_59_1) ?_
        refine Lt.ofWL.step rfl rfl rfl (OpV.load1 rfl pt_3 (fun w hs => hs.cell (hd7_2 1 _ rfl))) ?_
        refine Lt.ofWL.step rfl rfl rfl (OpV.move rfl) ?_
        refine Lt.ofWL.step rfl rfl rfl (OpV.neq rfl rfl) ?_
        refine WL.nil ?_
        refine En.next ?_
        refine WC.cond rfl ?_ ?_
        ·
          intro hc_3
          replace zh0 := ifO_t hc_3 zh0
          refine WC.seq ?_
          refine WC.region ?_
          refine Lt.ofWL.step rfl rfl rfl (OpV.assign rfl) ?_
          refine WL.nil ?_
          refine En.next ?_
          refine WC.ret ?_
          refine En.then_ret ?_
          refine En.block_ret ?_
          refine En.then_ret ?_
          refine En.then_ret ?_
          refine En.block_ret ?_
          refine En.then_ret ?_
          refine En.ret1 rfl (Res.tmp rfl) ?_
          have hx := exitP ze0 zh0
          subst hx
          replace h := fork_r h
          obtain rfl := Option.some.inj h
          intro w' hs
          exact ⟨rfl, hs.below⟩
        ·
          intro hc_3
          replace zh0 := ifO_f hc_3 zh0
          refine WC.skip ?_
          refine En.next ?_
          refine WC.seq ?_
          refine WC.region ?_
          refine Lt.ofWL.step rfl rfl rfl (OpV.move rfl) ?_
          refine Lt.ofWL.step rfl rfl rfl (OpV.addR rfl rfl) ?_
          refine Lt.ofWL.step rfl rfl rfl (OpV.assign rfl) ?_
          refine WL.nil ?_
          refine En.next ?_
          refine WC.seq ?_
          refine WC.seq ?_
          obtain ⟨x10_2, e10_2, zh0⟩ := bnd zh0
          obtain ⟨g10_2, o10_2, _, ha10_2, ⟨a10_2_1, c10_2_1, rfl, r10_2_1⟩, hd10_2⟩ := Rd.atIdx r0_0 e10_2
          replace hd10_2 : ∀ (j : Nat) v, ([.bool x10_2.On, .int .i64 x10_2.X, .int .i64 x10_2.Y, .int .i64 x10_2.W, .int .i64 x10_2.H, .int .i64 x10_2.Layout, .slice a10_2_1 x10_2.Words.length c10_2_1, .int .i64 x10_2.Alpha, .int .i64 x10_2.Orient, .int .i64 x10_2.ToW, .int .i64 x10_2.ToH] : List Value)[j]? = some v → w.cell? ⟨g10_2, o10_2 + v1_0.toNat * 11 + j, .none⟩ = some v := hd10_2
          refine WC.region ?_
          refine Lt.ofWL.step rfl rfl rfl (OpV.move rfl) ?_
          refine Lt.ofWL.step rfl rfl rfl (OpV.move rfl) ?_
          refine Lt.ofWL.step rfl rfl rfl (OpV.idxA rfl rfl se_30 ha10_2 ⟨(idx_some e10_2).1, (idx_some e10_2).2.1⟩) ?_
          refine Lt.ofWL.step rfl rfl rfl (OpV.fieldAddr rfl fo_59_2) ?_
          refine Lt.ofWL.step rfl rfl rfl (OpV.load1 rfl pt_3 (fun w hs => hs.cell (hd10_2 2 _ rfl))) ?_
          refine Lt.ofWL.step rfl rfl rfl (OpV.move rfl) ?_
          refine Lt.ofWL.step rfl rfl rfl (OpV.neq rfl rfl) ?_
          refine WL.nil ?_
          refine En.next ?_
          refine WC.cond rfl ?_ ?_
          ·
            intro hc_4
            replace zh0 := ifO_t hc_4 zh0
            refine WC.seq ?_
            refine WC.region ?_
            refine Lt.ofWL.step rfl rfl rfl (OpV.assign rfl) ?_
            refine WL.nil ?_
            refine En.next ?_
            refine WC.ret ?_
            refine En.then_ret ?_
            refine En.block_ret ?_
            refine En.then_ret ?_
            refine En.then_ret ?_
            refine En.block_ret ?_
            refine En.then_ret ?_
            refine En.ret1 rfl (Res.tmp rfl) ?_
            have hx := exitP ze0 zh0
            subst hx
            replace h := fork_r h
            obtain rfl := Option.some.inj h
            intro w' hs
            exact ⟨rfl, hs.below⟩
          ·
            intro hc_4
            replace zh0 := ifO_f hc_4 zh0
            refine WC.skip ?_
            refine En.next ?_
            refine WC.seq ?_
            refine WC.region ?_
            refine Lt.ofWL.step rfl rfl rfl (OpV.move rfl) ?_
            refine Lt.ofWL.step rfl rfl rfl (OpV.addR rfl rfl) ?_
            refine Lt.ofWL.step rfl rfl rfl (OpV.assign rfl) ?_
            refine WL.nil ?_
            refine En.next ?_
            refine WC.seq ?_
            refine WC.seq ?_
            obtain ⟨x13_2, e13_2, zh0⟩ := bnd zh0
            obtain ⟨g13_2, o13_2, _, ha13_2, ⟨a13_2_1, c13_2_1, rfl, r13_2_1⟩, hd13_2⟩ := Rd.atIdx r0_0 e13_2
            replace hd13_2 : ∀ (j : Nat) v, ([.bool x13_2.On, .int .i64 x13_2.X, .int .i64 x13_2.Y, .int .i64 x13_2.W, .int .i64 x13_2.H, .int .i64 x13_2.Layout, .slice a13_2_1 x13_2.Words.length c13_2_1, .int .i64 x13_2.Alpha, .int .i64 x13_2.Orient, .int .i64 x13_2.ToW, .int .i64 x13_2.ToH] : List Value)[j]? = some v → w.cell? ⟨g13_2, o13_2 + v1_0.toNat * 11 + j, .none⟩ = some v := hd13_2
            refine WC.region ?_
            refine Lt.ofWL.step rfl rfl rfl (OpV.move rfl) ?_
            refine Lt.ofWL.step rfl rfl rfl (OpV.move rfl) ?_
            refine Lt.ofWL.step rfl rfl rfl (OpV.idxA rfl rfl se_30 ha13_2 ⟨(idx_some e13_2).1, (idx_some e13_2).2.1⟩) ?_
            refine Lt.ofWL.step rfl rfl rfl (OpV.fieldAddr rfl fo_59_3) ?_
            refine Lt.ofWL.step rfl rfl rfl (OpV.load1 rfl pt_3 (fun w hs => hs.cell (hd13_2 3 _ rfl))) ?_
            refine Lt.ofWL.step rfl rfl rfl (OpV.move rfl) ?_
            refine Lt.ofWL.step rfl rfl rfl (OpV.neq rfl rfl) ?_
            refine WL.nil ?_
            refine En.next ?_
            refine WC.cond rfl ?_ ?_
            ·
              intro hc_5
              replace zh0 := ifO_t hc_5 zh0
              refine WC.seq ?_
              refine WC.region ?_
              refine Lt.ofWL.step rfl rfl rfl (OpV.assign rfl) ?_
              refine WL.nil ?_
              refine En.next ?_
              refine WC.ret ?_
              refine En.then_ret ?_
              refine En.block_ret ?_
              refine En.then_ret ?_
              refine En.then_ret ?_
              refine En.block_ret ?_
              refine En.then_ret ?_
              refine En.ret1 rfl (Res.tmp rfl) ?_
              have hx := exitP ze0 zh0
              subst hx
              replace h := fork_r h
              obtain rfl := Option.some.inj h
              intro w' hs
              exact ⟨rfl, hs.below⟩
            ·
              intro hc_5
              replace zh0 := ifO_f hc_5 zh0
              refine WC.skip ?_
              refine En.next ?_
              refine WC.seq ?_
              refine WC.region ?_
              refine Lt.ofWL.step rfl rfl rfl (OpV.move rfl) ?_
              refine Lt.ofWL.step rfl rfl rfl (OpV.addR rfl rfl) ?_
              refine Lt.ofWL.step rfl rfl rfl (OpV.assign rfl) ?_
              refine WL.nil ?_
              refine En.next ?_
              refine WC.seq ?_
              refine WC.seq ?_
              obtain ⟨x16_2, e16_2, zh0⟩ := bnd zh0
              obtain ⟨g16_2, o16_2, _, ha16_2, ⟨a16_2_1, c16_2_1, rfl, r16_2_1⟩, hd16_2⟩ := Rd.atIdx r0_0 e16_2
              replace hd16_2 : ∀ (j : Nat) v, ([.bool x16_2.On, .int .i64 x16_2.X, .int .i64 x16_2.Y, .int .i64 x16_2.W, .int .i64 x16_2.H, .int .i64 x16_2.Layout, .slice a16_2_1 x16_2.Words.length c16_2_1, .int .i64 x16_2.Alpha, .int .i64 x16_2.Orient, .int .i64 x16_2.ToW, .int .i64 x16_2.ToH] : List Value)[j]? = some v → w.cell? ⟨g16_2, o16_2 + v1_0.toNat * 11 + j, .none⟩ = some v := hd16_2
              refine WC.region ?_
              refine Lt.ofWL.step rfl rfl rfl (OpV.move rfl) ?_
              refine Lt.ofWL.step rfl rfl rfl (OpV.move rfl) ?_
              refine Lt.ofWL.step rfl rfl rfl (OpV.idxA rfl rfl se_30 ha16_2 ⟨(idx_some e16_2).1, (idx_some e16_2).2.1⟩) ?_
              refine Lt.ofWL.step rfl rfl rfl (OpV.fieldAddr rfl fo_59_4) ?_
              refine Lt.ofWL.step rfl rfl rfl (OpV.load1 rfl pt_3 (fun w hs => hs.cell (hd16_2 4 _ rfl))) ?_
              refine Lt.ofWL.step rfl rfl rfl (OpV.move rfl) ?_
              refine Lt.ofWL.step rfl rfl rfl (OpV.neq rfl rfl) ?_
              refine WL.nil ?_
              refine En.next ?_
              refine WC.cond rfl ?_ ?_
              ·
                intro hc_6
                replace zh0 := ifO_t hc_6 zh0
                refine WC.seq ?_
                refine WC.region ?_
                refine Lt.ofWL.step rfl rfl rfl (OpV.assign rfl) ?_
                refine WL.nil ?_
                refine En.next ?_
                refine WC.ret ?_
                refine En.then_ret ?_
                refine En.block_ret ?_
                refine En.then_ret ?_
                refine En.then_ret ?_
                refine En.block_ret ?_
                refine En.then_ret ?_
                refine En.ret1 rfl (Res.tmp rfl) ?_
                have hx := exitP ze0 zh0
                subst hx
                replace h := fork_r h
                obtain rfl := Option.some.inj h
                intro w' hs
                exact ⟨rfl, hs.below⟩
              ·
                intro hc_6
                replace zh0 := ifO_f hc_6 zh0
                refine WC.skip ?_
                refine En.next ?_
                refine WC.seq ?_
                refine WC.region ?_
                refine Lt.ofWL.step rfl rfl rfl (OpV.move rfl) ?_
                refine Lt.ofWL.step rfl rfl rfl (OpV.addR rfl rfl) ?_
                refine Lt.ofWL.step rfl rfl rfl (OpV.assign rfl) ?_
                refine WL.nil ?_
                refine En.next ?_
                refine WC.seq ?_
                refine WC.seq ?_
                obtain ⟨x19_2, e19_2, zh0⟩ := bnd zh0
                obtain ⟨g19_2, o19_2, _, ha19_2, ⟨a19_2_1, c19_2_1, rfl, r19_2_1⟩, hd19_2⟩ := Rd.atIdx r0_0 e19_2
                replace hd19_2 : ∀ (j : Nat) v, ([.bool x19_2.On, .int .i64 x19_2.X, .int .i64 x19_2.Y, .int .i64 x19_2.W, .int .i64 x19_2.H, .int .i64 x19_2.Layout, .slice a19_2_1 x19_2.Words.length c19_2_1, .int .i64 x19_2.Alpha, .int .i64 x19_2.Orient, .int .i64 x19_2.ToW, .int .i64 x19_2.ToH] : List Value)[j]? = some v → w.cell? ⟨g19_2, o19_2 + v1_0.toNat * 11 + j, .none⟩ = some v := hd19_2
                refine WC.region ?_
                refine Lt.ofWL.step rfl rfl rfl (OpV.move rfl) ?_
                refine Lt.ofWL.step rfl rfl rfl (OpV.move rfl) ?_
                refine Lt.ofWL.step rfl rfl rfl (OpV.idxA rfl rfl se_30 ha19_2 ⟨(idx_some e19_2).1, (idx_some e19_2).2.1⟩) ?_
                refine Lt.ofWL.step rfl rfl rfl (OpV.fieldAddr rfl fo_59_5) ?_
                refine Lt.ofWL.step rfl rfl rfl (OpV.load1 rfl pt_3 (fun w hs => hs.cell (hd19_2 5 _ rfl))) ?_
                refine Lt.ofWL.step rfl rfl rfl (OpV.move rfl) ?_
                refine Lt.ofWL.step rfl rfl rfl (OpV.neq rfl rfl) ?_
                refine WL.nil ?_
                refine En.next ?_
                refine WC.cond rfl ?_ ?_
                ·
                  intro hc_7
                  replace zh0 := ifO_t hc_7 zh0
                  refine WC.seq ?_
                  refine WC.region ?_
                  refine Lt.ofWL.step rfl rfl rfl (OpV.assign rfl) ?_
                  refine WL.nil ?_
                  refine En.next ?_
                  refine WC.ret ?_
                  refine En.then_ret ?_
                  refine En.block_ret ?_
                  refine En.then_ret ?_
                  refine En.then_ret ?_
                  refine En.block_ret ?_
                  refine En.then_ret ?_
                  refine En.ret1 rfl (Res.tmp rfl) ?_
                  have hx := exitP ze0 zh0
                  subst hx
                  replace h := fork_r h
                  obtain rfl := Option.some.inj h
                  intro w' hs
                  exact ⟨rfl, hs.below⟩
                ·
                  intro hc_7
                  replace zh0 := ifO_f hc_7 zh0
                  refine WC.skip ?_
                  refine En.next ?_
                  refine WC.seq ?_
                  refine WC.region ?_
                  refine Lt.ofWL.step rfl rfl rfl (OpV.move rfl) ?_
                  refine Lt.ofWL.step rfl rfl rfl (OpV.addR rfl rfl) ?_
                  refine Lt.ofWL.step rfl rfl rfl (OpV.assign rfl) ?_
                  refine WL.nil ?_
                  refine En.next ?_
                  refine WC.seq ?_
                  obtain ⟨x22_2, e22_2, zh0⟩ := bnd zh0
                  obtain ⟨g22_2, o22_2, _, ha22_2, ⟨a22_2_1, c22_2_1, rfl, r22_2_1⟩, hd22_2⟩ := Rd.atIdx r0_0 e22_2
                  replace hd22_2 : ∀ (j : Nat) v, ([.bool x22_2.On, .int .i64 x22_2.X, .int .i64 x22_2.Y, .int .i64 x22_2.W, .int .i64 x22_2.H, .int .i64 x22_2.Layout, .slice a22_2_1 x22_2.Words.length c22_2_1, .int .i64 x22_2.Alpha, .int .i64 x22_2.Orient, .int .i64 x22_2.ToW, .int .i64 x22_2.ToH] : List Value)[j]? = some v → w.cell? ⟨g22_2, o22_2 + v1_0.toNat * 11 + j, .none⟩ = some v := hd22_2
                  obtain ⟨x22_6, e22_6, zh0⟩ := bnd zh0
                  refine WC.region ?_
                  refine Lt.ofWL.step rfl rfl rfl (OpV.move rfl) ?_
                  refine Lt.ofWL.step rfl rfl rfl (OpV.move rfl) ?_
                  refine Lt.ofWL.step rfl rfl rfl (OpV.idxA rfl rfl se_30 ha22_2 ⟨(idx_some e22_2).1, (idx_some e22_2).2.1⟩) ?_
                  refine Lt.ofWL.step rfl rfl rfl (OpV.fieldAddr rfl fo_59_6) ?_
                  refine Lt.ofWL.step rfl rfl rfl (OpV.load1 rfl pt_23 (fun w hs => hs.cell (hd22_2 6 _ rfl))) ?_
                  refine Lt.ofWL.step rfl rfl rfl (OpV.move rfl) ?_
                  refine Lt.ofWL.step rfl rfl rfl (OpV.call (evs.cons rfl (evs.cons rfl (evs.nil))) ca_81 (fun w hs => w_laws_heldIntS e22_6 (r22_2_1.ext hs.below))) ?_
                  refine Lt.ofWL.step rfl rfl rfl (OpV.assign rfl) ?_
                  refine WL.nil ?_
                  refine En.next ?_
                  refine WC.seq ?_
                  refine WC.seq ?_
                  refine WC.region ?_
                  refine Lt.ofWL.step rfl rfl rfl (OpV.move rfl) ?_
                  refine Lt.ofWL.step rfl rfl rfl (OpV.lss rfl rfl) ?_
                  refine WL.nil ?_
                  refine En.next ?_
                  refine WC.cond rfl ?_ ?_
                  ·
                    intro hc_8
                    replace zh0 := ifO_t hc_8 zh0
                    refine WC.seq ?_
                    refine WC.region ?_
                    refine Lt.ofWL.step rfl rfl rfl (OpV.assign rfl) ?_
                    refine WL.nil ?_
                    refine En.next ?_
                    refine WC.ret ?_
                    refine En.then_ret ?_
                    refine En.block_ret ?_
                    refine En.then_ret ?_
                    refine En.then_ret ?_
                    refine En.block_ret ?_
                    refine En.then_ret ?_
                    refine En.ret1 rfl (Res.tmp rfl) ?_
                    have hx := exitP ze0 zh0
                    subst hx
                    replace h := fork_r h
                    obtain rfl := Option.some.inj h
                    intro w' hs
                    exact ⟨rfl, hs.below⟩
                  ·
                    intro hc_8
                    replace zh0 := ifO_f hc_8 zh0
                    refine WC.skip ?_
                    refine En.next ?_
                    refine WC.seq ?_
                    refine WC.seq ?_
                    obtain ⟨x25_2, e25_2, zh0⟩ := bnd zh0
                    obtain ⟨g25_2, o25_2, _, ha25_2, ⟨a25_2_1, c25_2_1, rfl, r25_2_1⟩, hd25_2⟩ := Rd.atIdx r0_0 e25_2
                    replace hd25_2 : ∀ (j : Nat) v, ([.bool x25_2.On, .int .i64 x25_2.X, .int .i64 x25_2.Y, .int .i64 x25_2.W, .int .i64 x25_2.H, .int .i64 x25_2.Layout, .slice a25_2_1 x25_2.Words.length c25_2_1, .int .i64 x25_2.Alpha, .int .i64 x25_2.Orient, .int .i64 x25_2.ToW, .int .i64 x25_2.ToH] : List Value)[j]? = some v → w.cell? ⟨g25_2, o25_2 + v1_0.toNat * 11 + j, .none⟩ = some v := hd25_2
                    refine WC.region ?_
                    refine Lt.ofWL.step rfl rfl rfl (OpV.move rfl) ?_
                    refine Lt.ofWL.step rfl rfl rfl (OpV.move rfl) ?_
                    refine Lt.ofWL.step rfl rfl rfl (OpV.idxA rfl rfl se_30 ha25_2 ⟨(idx_some e25_2).1, (idx_some e25_2).2.1⟩) ?_
                    refine Lt.ofWL.step rfl rfl rfl (OpV.fieldAddr rfl fo_59_7) ?_
                    refine Lt.ofWL.step rfl rfl rfl (OpV.load1 rfl pt_3 (fun w hs => hs.cell (hd25_2 7 _ rfl))) ?_
                    refine Lt.ofWL.step rfl rfl rfl (OpV.move rfl) ?_
                    refine Lt.ofWL.step rfl rfl rfl (OpV.neq rfl rfl) ?_
                    refine WL.nil ?_
                    refine En.next ?_
                    refine WC.cond rfl ?_ ?_
                    ·
                      intro hc_9
                      replace zh0 := ifO_t hc_9 zh0
                      refine WC.seq ?_
                      refine WC.region ?_
                      refine Lt.ofWL.step rfl rfl rfl (OpV.assign rfl) ?_
                      refine WL.nil ?_
                      refine En.next ?_
                      refine WC.ret ?_
                      refine En.then_ret ?_
                      refine En.block_ret ?_
                      refine En.then_ret ?_
                      refine En.then_ret ?_
                      refine En.block_ret ?_
                      refine En.then_ret ?_
                      refine En.ret1 rfl (Res.tmp rfl) ?_
                      have hx := exitP ze0 zh0
                      subst hx
                      replace h := fork_r h
                      obtain rfl := Option.some.inj h
                      intro w' hs
                      exact ⟨rfl, hs.below⟩
                    ·
                      intro hc_9
                      replace zh0 := ifO_f hc_9 zh0
                      refine WC.skip ?_
                      refine En.next ?_
                      refine WC.seq ?_
                      refine WC.region ?_
                      refine Lt.ofWL.step rfl rfl rfl (OpV.move rfl) ?_
                      refine Lt.ofWL.step rfl rfl rfl (OpV.addR rfl rfl) ?_
                      refine Lt.ofWL.step rfl rfl rfl (OpV.assign rfl) ?_
                      refine WL.nil ?_
                      refine En.next ?_
                      refine WC.seq ?_
                      refine WC.seq ?_
                      obtain ⟨x28_2, e28_2, zh0⟩ := bnd zh0
                      obtain ⟨g28_2, o28_2, _, ha28_2, ⟨a28_2_1, c28_2_1, rfl, r28_2_1⟩, hd28_2⟩ := Rd.atIdx r0_0 e28_2
                      replace hd28_2 : ∀ (j : Nat) v, ([.bool x28_2.On, .int .i64 x28_2.X, .int .i64 x28_2.Y, .int .i64 x28_2.W, .int .i64 x28_2.H, .int .i64 x28_2.Layout, .slice a28_2_1 x28_2.Words.length c28_2_1, .int .i64 x28_2.Alpha, .int .i64 x28_2.Orient, .int .i64 x28_2.ToW, .int .i64 x28_2.ToH] : List Value)[j]? = some v → w.cell? ⟨g28_2, o28_2 + v1_0.toNat * 11 + j, .none⟩ = some v := hd28_2
                      refine WC.region ?_
                      refine Lt.ofWL.step rfl rfl rfl (OpV.move rfl) ?_
                      refine Lt.ofWL.step rfl rfl rfl (OpV.move rfl) ?_
                      refine Lt.ofWL.step rfl rfl rfl (OpV.idxA rfl rfl se_30 ha28_2 ⟨(idx_some e28_2).1, (idx_some e28_2).2.1⟩) ?_
                      refine Lt.ofWL.step rfl rfl rfl (OpV.fieldAddr rfl fo_59_8) ?_
                      refine Lt.ofWL.step rfl rfl rfl (OpV.load1 rfl pt_3 (fun w hs => hs.cell (hd28_2 8 _ rfl))) ?_
                      refine Lt.ofWL.step rfl rfl rfl (OpV.move rfl) ?_
                      refine Lt.ofWL.step rfl rfl rfl (OpV.neq rfl rfl) ?_
                      refine WL.nil ?_
                      refine En.next ?_
                      refine WC.cond rfl ?_ ?_
                      ·
                        intro hc_10
                        replace zh0 := ifO_t hc_10 zh0
                        refine WC.seq ?_
                        refine WC.region ?_
                        refine Lt.ofWL.step rfl rfl rfl (OpV.assign rfl) ?_
                        refine WL.nil ?_
                        refine En.next ?_
                        refine WC.ret ?_
                        refine En.then_ret ?_
                        refine En.block_ret ?_
                        refine En.then_ret ?_
                        refine En.then_ret ?_
                        refine En.block_ret ?_
                        refine En.then_ret ?_
                        refine En.ret1 rfl (Res.tmp rfl) ?_
                        have hx := exitP ze0 zh0
                        subst hx
                        replace h := fork_r h
                        obtain rfl := Option.some.inj h
                        intro w' hs
                        exact ⟨rfl, hs.below⟩
                      ·
                        intro hc_10
                        replace zh0 := ifO_f hc_10 zh0
                        refine WC.skip ?_
                        refine En.next ?_
                        refine WC.seq ?_
                        refine WC.region ?_
                        refine Lt.ofWL.step rfl rfl rfl (OpV.move rfl) ?_
                        refine Lt.ofWL.step rfl rfl rfl (OpV.addR rfl rfl) ?_
                        refine Lt.ofWL.step rfl rfl rfl (OpV.assign rfl) ?_
                        refine WL.nil ?_
                        refine En.next ?_
                        refine WC.seq ?_
                        refine WC.seq ?_
                        obtain ⟨x31_2, e31_2, zh0⟩ := bnd zh0
                        obtain ⟨g31_2, o31_2, _, ha31_2, ⟨a31_2_1, c31_2_1, rfl, r31_2_1⟩, hd31_2⟩ := Rd.atIdx r0_0 e31_2
                        replace hd31_2 : ∀ (j : Nat) v, ([.bool x31_2.On, .int .i64 x31_2.X, .int .i64 x31_2.Y, .int .i64 x31_2.W, .int .i64 x31_2.H, .int .i64 x31_2.Layout, .slice a31_2_1 x31_2.Words.length c31_2_1, .int .i64 x31_2.Alpha, .int .i64 x31_2.Orient, .int .i64 x31_2.ToW, .int .i64 x31_2.ToH] : List Value)[j]? = some v → w.cell? ⟨g31_2, o31_2 + v1_0.toNat * 11 + j, .none⟩ = some v := hd31_2
                        refine WC.region ?_
                        refine Lt.ofWL.step rfl rfl rfl (OpV.move rfl) ?_
                        refine Lt.ofWL.step rfl rfl rfl (OpV.move rfl) ?_
                        refine Lt.ofWL.step rfl rfl rfl (OpV.idxA rfl rfl se_30 ha31_2 ⟨(idx_some e31_2).1, (idx_some e31_2).2.1⟩) ?_
                        refine Lt.ofWL.step rfl rfl rfl (OpV.fieldAddr rfl fo_59_9) ?_
                        refine Lt.ofWL.step rfl rfl rfl (OpV.load1 rfl pt_3 (fun w hs => hs.cell (hd31_2 9 _ rfl))) ?_
                        refine Lt.ofWL.step rfl rfl rfl (OpV.move rfl) ?_
                        refine Lt.ofWL.step rfl rfl rfl (OpV.neq rfl rfl) ?_
                        refine WL.nil ?_
                        refine En.next ?_
                        refine WC.cond rfl ?_ ?_
                        ·
                          intro hc_11
                          replace zh0 := ifO_t hc_11 zh0
                          refine WC.seq ?_
                          refine WC.region ?_
                          refine Lt.ofWL.step rfl rfl rfl (OpV.assign rfl) ?_
                          refine WL.nil ?_
                          refine En.next ?_
                          refine WC.ret ?_
                          refine En.then_ret ?_
                          refine En.block_ret ?_
                          refine En.then_ret ?_
                          refine En.then_ret ?_
                          refine En.block_ret ?_
                          refine En.then_ret ?_
                          refine En.ret1 rfl (Res.tmp rfl) ?_
                          have hx := exitP ze0 zh0
                          subst hx
                          replace h := fork_r h
                          obtain rfl := Option.some.inj h
                          intro w' hs
                          exact ⟨rfl, hs.below⟩
                        ·
                          intro hc_11
                          replace zh0 := ifO_f hc_11 zh0
                          refine WC.skip ?_
                          refine En.next ?_
                          refine WC.seq ?_
                          refine WC.region ?_
                          refine Lt.ofWL.step rfl rfl rfl (OpV.move rfl) ?_
                          refine Lt.ofWL.step rfl rfl rfl (OpV.addR rfl rfl) ?_
                          refine Lt.ofWL.step rfl rfl rfl (OpV.assign rfl) ?_
                          refine WL.nil ?_
                          refine En.next ?_
                          refine WC.seq ?_
                          refine WC.seq ?_
                          obtain ⟨x34_2, e34_2, zh0⟩ := bnd zh0
                          obtain ⟨g34_2, o34_2, _, ha34_2, ⟨a34_2_1, c34_2_1, rfl, r34_2_1⟩, hd34_2⟩ := Rd.atIdx r0_0 e34_2
                          replace hd34_2 : ∀ (j : Nat) v, ([.bool x34_2.On, .int .i64 x34_2.X, .int .i64 x34_2.Y, .int .i64 x34_2.W, .int .i64 x34_2.H, .int .i64 x34_2.Layout, .slice a34_2_1 x34_2.Words.length c34_2_1, .int .i64 x34_2.Alpha, .int .i64 x34_2.Orient, .int .i64 x34_2.ToW, .int .i64 x34_2.ToH] : List Value)[j]? = some v → w.cell? ⟨g34_2, o34_2 + v1_0.toNat * 11 + j, .none⟩ = some v := hd34_2
                          refine WC.region ?_
                          refine Lt.ofWL.step rfl rfl rfl (OpV.move rfl) ?_
                          refine Lt.ofWL.step rfl rfl rfl (OpV.move rfl) ?_
                          refine Lt.ofWL.step rfl rfl rfl (OpV.idxA rfl rfl se_30 ha34_2 ⟨(idx_some e34_2).1, (idx_some e34_2).2.1⟩) ?_
                          refine Lt.ofWL.step rfl rfl rfl (OpV.fieldAddr rfl fo_59_10) ?_
                          refine Lt.ofWL.step rfl rfl rfl (OpV.load1 rfl pt_3 (fun w hs => hs.cell (hd34_2 10 _ rfl))) ?_
                          refine Lt.ofWL.step rfl rfl rfl (OpV.move rfl) ?_
                          refine Lt.ofWL.step rfl rfl rfl (OpV.neq rfl rfl) ?_
                          refine WL.nil ?_
                          refine En.next ?_
                          refine WC.cond rfl ?_ ?_
                          ·
                            intro hc_12
                            replace zh0 := ifO_t hc_12 zh0
                            refine WC.seq ?_
                            refine WC.region ?_
                            refine Lt.ofWL.step rfl rfl rfl (OpV.assign rfl) ?_
                            refine WL.nil ?_
                            refine En.next ?_
                            refine WC.ret ?_
                            refine En.then_ret ?_
                            refine En.block_ret ?_
                            refine En.then_ret ?_
                            refine En.then_ret ?_
                            refine En.block_ret ?_
                            refine En.then_ret ?_
                            refine En.ret1 rfl (Res.tmp rfl) ?_
                            have hx := exitP ze0 zh0
                            subst hx
                            replace h := fork_r h
                            obtain rfl := Option.some.inj h
                            intro w' hs
                            exact ⟨rfl, hs.below⟩
                          ·
                            intro hc_12
                            replace zh0 := ifO_f hc_12 zh0
                            refine WC.skip ?_
                            refine En.next ?_
                            refine WC.region ?_
                            refine Lt.ofWL.step rfl rfl rfl (OpV.move rfl) ?_
                            refine Lt.ofWL.step rfl rfl rfl (OpV.addR rfl rfl) ?_
                            refine Lt.ofWL.step rfl rfl rfl (OpV.assign rfl) ?_
                            refine WL.nil ?_
                            refine En.block_norm ?_
                            refine En.next ?_
                            refine WC.region ?_
                            refine Lt.ofWL.step rfl rfl rfl (OpV.move rfl) ?_
                            refine Lt.ofWL.step rfl rfl rfl (OpV.addR rfl rfl) ?_
                            refine Lt.ofWL.step rfl rfl rfl (OpV.assign rfl) ?_
                            refine WL.nil ?_
                            exact En.backP zb0 zh0 () (Sub.cons rfl (Sub.cons rfl (Sub.cons rfl (Sub.nil _)))) (fun _ h => h)
    ·
      intro hc_1
      replace zh0 := ifO_f hc_1 zh0
      refine WC.exit ?_
      refine En.then_exit ?_
      refine En.then_exit ?_
      have hx := exitP ze0 zh0
      exact En.wk _ _ (Sub.cons rfl (Sub.nil _)) (fun _ h => h) (zK0_0 (v_0, ()) hx.symm)

theorem w_laws_heldColorMap {a_p0 : ColorMapT} {k_p1 : Int} {r : Int} {q0_0 : Option Addr} {n0_0 k0_0 : Nat} {q0_1 : Option Addr} {n0_1 k0_1 : Nat} (h : laws_heldColorMap a_p0 k_p1 = some r) {w : World} (r0_0 : Rd tInt w q0_0 n0_0 k0_0 a_p0.Matrix) (r0_1 : Rd tInt w q0_1 n0_1 k0_1 a_p0.Curve)   :
    Calls Try.prog 47 #[.agg #[.slice q0_0 n0_0 k0_0, .slice q0_1 n0_1 k0_1], .int .i64 k_p1] w (fun en w' => en = .returned (.int .i64 r) ∧ Ext w w') := by
  obtain rfl := r0_0.1
  obtain rfl := r0_1.1
  unfold laws_heldColorMap at h
  refine enter (vs := [_, _]) Try.func47 rfl rfl rfl rfl ?_
  refine WC.seq ?_
  refine WC.region ?_
  refine WL.heavy rfl rfl rfl (OpH.box rfl rfl ?_)
  intro b0_0
  refine Lt.ofWL.step rfl rfl rfl (OpV.assign rfl) ?_
  refine WL.nil ?_
  refine En.next ?_
  refine WC.seq ?_
  obtain ⟨x1_3, e1_3, h⟩ := bnd h
  refine WC.region ?_
  refine Lt.ofWL.step rfl rfl rfl (OpV.fieldAddr rfl fo_31_0) ?_
  refine Lt.ofWL.step rfl rfl rfl (OpV.loadBox rfl pt_23 (.head _) rfl) ?_
  refine Lt.ofWL.step rfl rfl rfl (OpV.move rfl) ?_
  refine Lt.ofWL.step rfl rfl rfl (OpV.call (evs.cons rfl (evs.cons rfl (evs.nil))) ca_81 (fun w hs => w_laws_heldIntS e1_3 (r0_0.ext hs.below))) ?_
  refine Lt.ofWL.step rfl rfl rfl (OpV.assign rfl) ?_
  refine WL.nil ?_
  refine En.next ?_
  refine WC.seq ?_
  refine WC.seq ?_
  refine WC.region ?_
  refine Lt.ofWL.step rfl rfl rfl (OpV.move rfl) ?_
  refine Lt.ofWL.step rfl rfl rfl (OpV.lss rfl rfl) ?_
  refine WL.nil ?_
  refine En.next ?_
  refine WC.cond rfl ?_ ?_
  ·
    intro hc_1
    replace h := ifO_t hc_1 h
    refine WC.seq ?_
    refine WC.region ?_
    refine Lt.ofWL.step rfl rfl rfl (OpV.assign rfl) ?_
    refine WL.nil ?_
    refine En.next ?_
    refine WC.ret ?_
    refine En.then_ret ?_
    refine En.ret1 rfl (Res.tmp rfl) ?_
    obtain rfl := Option.some.inj h
    intro w' hs
    exact ⟨rfl, hs.below⟩
  ·
    intro hc_1
    replace h := ifO_f hc_1 h
    refine WC.skip ?_
    refine En.next ?_
    refine WC.seq ?_
    obtain ⟨x4_3, e4_3, h⟩ := bnd h
    refine WC.region ?_
    refine Lt.ofWL.step rfl rfl rfl (OpV.fieldAddr rfl fo_31_1) ?_
    refine Lt.ofWL.step rfl rfl rfl (OpV.loadBox rfl pt_23 (.head _) rfl) ?_
    refine Lt.ofWL.step rfl rfl rfl (OpV.move rfl) ?_
    refine Lt.ofWL.step rfl rfl rfl (OpV.call (evs.cons rfl (evs.cons rfl (evs.nil))) ca_81 (fun w hs => w_laws_heldIntS e4_3 (r0_1.ext hs.below))) ?_
    refine Lt.ofWL.step rfl rfl rfl (OpV.assign rfl) ?_
    refine WL.nil ?_
    refine En.next ?_
    refine WC.seq ?_
    refine WC.seq ?_
    refine WC.region ?_
    refine Lt.ofWL.step rfl rfl rfl (OpV.move rfl) ?_
    refine Lt.ofWL.step rfl rfl rfl (OpV.lss rfl rfl) ?_
    refine WL.nil ?_
    refine En.next ?_
    refine WC.cond rfl ?_ ?_
    ·
      intro hc_2
      replace h := ifO_t hc_2 h
      refine WC.seq ?_
      refine WC.region ?_
      refine Lt.ofWL.step rfl rfl rfl (OpV.assign rfl) ?_
      refine WL.nil ?_
      refine En.next ?_
      refine WC.ret ?_
      refine En.then_ret ?_
      refine En.ret1 rfl (Res.tmp rfl) ?_
      obtain rfl := Option.some.inj h
      intro w' hs
      exact ⟨rfl, hs.below⟩
    ·
      intro hc_2
      replace h := ifO_f hc_2 h
      refine WC.skip ?_
      refine En.next ?_
      refine WC.seq ?_
      refine WC.region ?_
      refine Lt.ofWL.step rfl rfl rfl (OpV.move rfl) ?_
      refine Lt.ofWL.step rfl rfl rfl (OpV.assign rfl) ?_
      refine WL.nil ?_
      refine En.next ?_
      refine WC.ret ?_
      refine En.ret1 rfl (Res.tmp rfl) ?_
      obtain rfl := Option.some.inj h
      intro w' hs
      exact ⟨rfl, hs.below⟩

theorem w_laws_heldCrtc {a_p0 : CrtcT} {k_p1 : Int} {r : Int} {q0_0 : Option Addr} {n0_0 k0_0 : Nat} {q0_1 : Option Addr} {n0_1 k0_1 : Nat} {q0_2 : Option Addr} {n0_2 k0_2 : Nat} (h : laws_heldCrtc a_p0 k_p1 = some r) {w : World} (r0_0 : Rd tPlane w q0_0 n0_0 k0_0 a_p0.Planes) (r0_1 : Rd tInt w q0_1 n0_1 k0_1 a_p0.Color.Matrix) (r0_2 : Rd tInt w q0_2 n0_2 k0_2 a_p0.Color.Curve)   :
    Calls Try.prog 16 #[.agg #[.int .i64 a_p0.W, .int .i64 a_p0.H, .slice q0_0 n0_0 k0_0, .slice q0_1 n0_1 k0_1, .slice q0_2 n0_2 k0_2], .int .i64 k_p1] w (fun en w' => en = .returned (.int .i64 r) ∧ Ext w w') := by
  obtain rfl := r0_0.1
  obtain rfl := r0_1.1
  obtain rfl := r0_2.1
  unfold laws_heldCrtc at h
  refine enter (vs := [_, _]) Try.func16 rfl rfl rfl rfl ?_
  refine WC.seq ?_
  refine WC.region ?_
  refine WL.heavy rfl rfl rfl (OpH.box rfl rfl ?_)
  intro b0_0
  refine Lt.ofWL.step rfl rfl rfl (OpV.assign rfl) ?_
  refine WL.nil ?_
  refine En.next ?_
  refine WC.seq ?_
  obtain ⟨x1_3, e1_3, h⟩ := bnd h
  refine WC.region ?_
  refine Lt.ofWL.step rfl rfl rfl (OpV.fieldAddr rfl fo_33_2) ?_
  refine Lt.ofWL.step rfl rfl rfl (OpV.loadBox rfl pt_30 (.head _) rfl) ?_
  refine Lt.ofWL.step rfl rfl rfl (OpV.move rfl) ?_
  refine Lt.ofWL.step rfl rfl rfl (OpV.call (evs.cons rfl (evs.cons rfl (evs.nil))) ca_46 (fun w hs => w_laws_heldPlaneS e1_3 (r0_0.ext hs.below))) ?_
  refine Lt.ofWL.step rfl rfl rfl (OpV.assign rfl) ?_
  refine WL.nil ?_
  refine En.next ?_
  refine WC.seq ?_
  refine WC.seq ?_
  refine WC.region ?_
  refine Lt.ofWL.step rfl rfl rfl (OpV.move rfl) ?_
  refine Lt.ofWL.step rfl rfl rfl (OpV.lss rfl rfl) ?_
  refine WL.nil ?_
  refine En.next ?_
  refine WC.cond rfl ?_ ?_
  ·
    intro hc_1
    replace h := ifO_t hc_1 h
    refine WC.seq ?_
    refine WC.region ?_
    refine Lt.ofWL.step rfl rfl rfl (OpV.assign rfl) ?_
    refine WL.nil ?_
    refine En.next ?_
    refine WC.ret ?_
    refine En.then_ret ?_
    refine En.ret1 rfl (Res.tmp rfl) ?_
    obtain rfl := Option.some.inj h
    intro w' hs
    exact ⟨rfl, hs.below⟩
  ·
    intro hc_1
    replace h := ifO_f hc_1 h
    refine WC.skip ?_
    refine En.next ?_
    refine WC.seq ?_
    obtain ⟨x4_3, e4_3, h⟩ := bnd h
    refine WC.region ?_
    refine Lt.ofWL.step rfl rfl rfl (OpV.fieldAddr rfl fo_33_3) ?_
    refine Lt.ofWL.step rfl rfl rfl (OpV.loadPart rfl (.head _) ag_31 rfl rfl) ?_
    refine Lt.ofWL.step rfl rfl rfl (OpV.move rfl) ?_
    refine Lt.ofWL.step rfl rfl rfl (OpV.call (evs.cons rfl (evs.cons rfl (evs.nil))) ca_47 (fun w hs => w_laws_heldColorMap e4_3 (r0_1.ext hs.below) (r0_2.ext hs.below))) ?_
    refine Lt.ofWL.step rfl rfl rfl (OpV.assign rfl) ?_
    refine WL.nil ?_
    refine En.next ?_
    refine WC.seq ?_
    refine WC.seq ?_
    refine WC.region ?_
    refine Lt.ofWL.step rfl rfl rfl (OpV.move rfl) ?_
    refine Lt.ofWL.step rfl rfl rfl (OpV.lss rfl rfl) ?_
    refine WL.nil ?_
    refine En.next ?_
    refine WC.cond rfl ?_ ?_
    ·
      intro hc_2
      replace h := ifO_t hc_2 h
      refine WC.seq ?_
      refine WC.region ?_
      refine Lt.ofWL.step rfl rfl rfl (OpV.assign rfl) ?_
      refine WL.nil ?_
      refine En.next ?_
      refine WC.ret ?_
      refine En.then_ret ?_
      refine En.ret1 rfl (Res.tmp rfl) ?_
      obtain rfl := Option.some.inj h
      intro w' hs
      exact ⟨rfl, hs.below⟩
    ·
      intro hc_2
      replace h := ifO_f hc_2 h
      refine WC.skip ?_
      refine En.next ?_
      refine WC.seq ?_
      refine WC.region ?_
      refine Lt.ofWL.step rfl rfl rfl (OpV.move rfl) ?_
      refine Lt.ofWL.step rfl rfl rfl (OpV.assign rfl) ?_
      refine WL.nil ?_
      refine En.next ?_
      refine WC.ret ?_
      refine En.ret1 rfl (Res.tmp rfl) ?_
      obtain rfl := Option.some.inj h
      intro w' hs
      exact ⟨rfl, hs.below⟩

theorem w_laws_FnExactBlankCrtc {a_p0 : Int} {a_p1 : Int} {a_p2 : Int} {r : Bool}  (h : laws_FnExactBlankCrtc a_p0 a_p1 a_p2 = some r) {w : World}    :
    Calls Try.prog 4 #[.int .i64 a_p0, .int .i64 a_p1, .int .i64 a_p2] w (fun en w' => en = .returned (.bool r) ∧ Ext w w') := by
  unfold laws_FnExactBlankCrtc at h
  refine enter (vs := [_, _, _]) Try.func4 rfl rfl rfl rfl ?_
  refine WC.seq ?_
  refine WC.region ?_
  refine Lt.ofWL.step rfl rfl rfl (OpV.assign rfl) ?_
  refine WL.nil ?_
  refine En.next ?_
  refine WC.seq ?_
  obtain ⟨⟨x1_3a, x1_3b⟩, e1_3, h⟩ := bnd h
  refine WC.region ?_
  refine Lt.ofWL.step rfl rfl rfl (OpV.move rfl) ?_
  refine Lt.ofWL.step rfl rfl rfl (OpV.move rfl) ?_
  refine Lt.ofWL.step rfl rfl rfl (OpV.move rfl) ?_
  refine WL.heavy rfl rfl rfl (OpH.callR (evs.cons rfl (evs.cons rfl (evs.cons rfl (evs.nil)))) ca_13 (fun w hs => w_spec_BlankCrtc e1_3) ?_)
  rintro _ _ ⟨a1_300, n1_300, c1_300, f1_300, a1_301, n1_301, c1_301, f1_301, a1_302, n1_302, c1_302, f1_302, rfl, rfl⟩
  refine Lt.ofWL.step rfl rfl rfl (OpV.move rfl) ?_
  refine Lt.ofWL.step rfl rfl rfl (OpV.extract rfl rfl) ?_
  refine Lt.ofWL.step rfl rfl rfl (OpV.extract rfl rfl) ?_
  refine WL.heavy rfl rfl rfl (OpH.alloc zc_33 ?_)
  intro b1_7
  refine WL.heavy0 rfl rfl (OpH.storeTo (A := []) [_, _, _, _, _] rfl rfl rfl ts_33 rfl rfl rfl ?_)
  refine Lt.ofWL.step rfl rfl rfl (OpV.assign rfl) ?_
  refine WL.nil ?_
  refine En.next ?_
  refine WC.seq ?_
  obtain ⟨⟨x2_3a, x2_3b⟩, e2_3, h⟩ := bnd h
  refine WC.region ?_
  refine Lt.ofWL.step rfl rfl rfl (OpV.move rfl) ?_
  refine Lt.ofWL.step rfl rfl rfl (OpV.move rfl) ?_
  refine Lt.ofWL.step rfl rfl rfl (OpV.move rfl) ?_
  refine WL.heavy rfl rfl rfl (OpH.callR (evs.cons rfl (evs.cons rfl (evs.cons rfl (evs.nil)))) ca_14 (fun w hs => w_impl_BlankCrtc e2_3) ?_)
  rintro _ _ ⟨a2_300, n2_300, c2_300, f2_300, a2_301, n2_301, c2_301, f2_301, a2_302, n2_302, c2_302, f2_302, rfl, rfl⟩
  refine Lt.ofWL.step rfl rfl rfl (OpV.move rfl) ?_
  refine Lt.ofWL.step rfl rfl rfl (OpV.extract rfl rfl) ?_
  refine Lt.ofWL.step rfl rfl rfl (OpV.extract rfl rfl) ?_
  refine WL.heavy rfl rfl rfl (OpH.alloc zc_33 ?_)
  intro b2_7
  refine WL.heavy0 rfl rfl (OpH.storeTo (A := []) [_, _, _, _, _] rfl rfl rfl ts_33 rfl rfl rfl ?_)
  refine Lt.ofWL.step rfl rfl rfl (OpV.assign rfl) ?_
  refine WL.nil ?_
  refine En.next ?_
  refine WC.seq ?_
  refine WC.seq ?_
  obtain ⟨x3_2, e3_2, h⟩ := bnd h
  refine WC.region ?_
  refine Lt.ofWL.step rfl rfl rfl (OpV.loadAll rfl (.head _) ag_33) ?_
  refine Lt.ofWL.step rfl rfl rfl (OpV.loadAll rfl (.tail _ (.tail _ (.tail _ (.tail _ (.head _))))) ag_33) ?_
  refine Lt.ofWL.step rfl rfl rfl (OpV.call (evs.cons rfl (evs.cons rfl (evs.nil))) ca_12 (fun w hs => w_laws_eqCrtc e3_2 (Ow.rd (hs.mem (.tail _ (.head _)))) (Ow.rd (hs.mem (.tail _ (.tail _ (.head _))))) (Ow.rd (hs.mem (.tail _ (.tail _ (.tail _ (.head _)))))) (Ow.rd (hs.mem (.tail _ (.tail _ (.tail _ (.tail _ (.tail _ (.head _)))))))) (Ow.rd (hs.mem (.tail _ (.tail _ (.tail _ (.tail _ (.tail _ (.tail _ (.head _))))))))) (Ow.rd (hs.mem (.tail _ (.tail _ (.tail _ (.tail _ (.tail _ (.tail _ (.tail _ (.head _)))))))))))) ?_
  refine Lt.ofWL.step rfl rfl rfl (OpV.not rfl) ?_
  refine Lt.ofWL.step rfl rfl rfl (OpV.move rfl) ?_
  refine Lt.ofWL.or 33 37 36 (p := ?pz1) (rest := ?qz1) (B := ?Bz1) rfl ?Tz1 ?Fz1 ?az1 ?bz1 ?cz1 ?dz1 ?ez1
  case Tz1 =>
    intro hcz1 hkz1
    refine Lt.ofWL.skip rfl rfl rfl ?_
    refine Lt.ofWL.skip rfl rfl rfl ?_
    refine Lt.ofWL.skip rfl rfl rfl ?_
    refine hkz1 _ ?_
    repeat (first | exact Sub.refl _ | refine Sub.skip rfl ?_)
  case Fz1 =>
    intro hcz1 hkz1
    refine Lt.ofWL.step rfl rfl rfl (OpV.move rfl) ?_
    refine Lt.ofWL.step rfl rfl rfl (OpV.move rfl) ?_
    refine Lt.ofWL.step rfl rfl rfl (OpV.bneq rfl rfl ub_4) ?_
    refine hkz1 _ ?_ ?_
    exact rfl
    repeat (first | exact Sub.refl _ | refine Sub.skip rfl ?_)
  case az1 => exact rfl
  case bz1 => exact rfl
  case cz1 => exact rfl
  case dz1 => exact rfl
  refine WL.nil ?_
  refine En.next ?_
  refine WC.cond rfl ?_ ?_
  ·
    intro hc_1
    replace h := ifO_t hc_1 h
    refine WC.seq ?_
    refine WC.region ?_
    refine Lt.ofWL.step rfl rfl rfl (OpV.assign rfl) ?_
    refine WL.nil ?_
    refine En.next ?_
    refine WC.ret ?_
    refine En.then_ret ?_
    refine En.ret1 rfl (Res.tmp rfl) ?_
    obtain rfl := Option.some.inj h
    intro w' hs
    exact ⟨rfl, hs.below⟩
  ·
    intro hc_1
    replace h := ifO_f hc_1 h
    refine WC.skip ?_
    refine En.next ?_
    refine WC.seq ?_
    refine WC.region ?_
    refine Lt.ofWL.step rfl rfl rfl (OpV.assign rfl) ?_
    refine WL.nil ?_
    refine En.next ?_
    refine WC.seq ?_
    obtain ⟨⟨x6_2a, x6_2b, x6_2c, x6_2d⟩, e6_2, h⟩ := bnd h
    refine WC.region ?_
    refine Lt.ofWL.step rfl rfl rfl (OpV.loadAll rfl (.head _) ag_33) ?_
    refine Lt.ofWL.step rfl rfl rfl (OpV.move rfl) ?_
    refine WL.wkF (fun _ h => h.perm (List.perm_middle (l₁ := [_, _, _]))) ?_
    refine WL.wkF (fun _ h => h.perm (List.perm_middle (l₁ := [_, _, _]))) ?_
    refine WL.wkF (fun _ h => h.perm (List.perm_middle (l₁ := [_, _, _]))) ?_
    refine WL.heavy rfl rfl rfl (OpH.callX (evs.cons rfl (evs.cons rfl (evs.nil))) ca_15 (fun w hs => w_laws_markCrtc e6_2 hs) ?_)
    rintro _ _ ⟨g6_200, g6_201, g6_202, rfl, rfl⟩
    refine Lt.ofWL.step rfl rfl rfl (OpV.assign rfl) ?_
    refine WL.nil ?_
    refine En.next ?_
    refine WC.seq ?_
    refine WC.region ?_
    refine Lt.ofWL.step rfl rfl rfl (OpV.assign rfl) ?_
    refine WL.nil ?_
    refine En.next ?_
    refine WC.seq ?_
    obtain ⟨x8_2, e8_2, h⟩ := bnd h
    refine WC.region ?_
    refine Lt.ofWL.step rfl rfl rfl (OpV.loadAll rfl (.tail _ (.tail _ (.tail _ (.head _)))) ag_33) ?_
    refine Lt.ofWL.step rfl rfl rfl (OpV.move rfl) ?_
    refine Lt.ofWL.step rfl rfl rfl (OpV.call (evs.cons rfl (evs.cons rfl (evs.nil))) ca_16 (fun w hs => w_laws_heldCrtc e8_2 (Ow.rd (hs.mem (.head _))) (Ow.rd (hs.mem (.tail _ (.head _)))) (Ow.rd (hs.mem (.tail _ (.tail _ (.head _))))))) ?_
    refine Lt.ofWL.step rfl rfl rfl (OpV.assign rfl) ?_
    refine WL.nil ?_
    refine En.next ?_
    refine WC.seq ?_
    refine WC.seq ?_
    refine WC.region ?_
    refine Lt.ofWL.step rfl rfl rfl (OpV.move rfl) ?_
    refine Lt.ofWL.step rfl rfl rfl (OpV.lss rfl rfl) ?_
    refine WL.nil ?_
    refine En.next ?_
    refine WC.cond rfl ?_ ?_
    ·
      intro hc_2
      replace h := ifO_t hc_2 h
      refine WC.seq ?_
      refine WC.region ?_
      refine Lt.ofWL.step rfl rfl rfl (OpV.assign rfl) ?_
      refine WL.nil ?_
      refine En.next ?_
      refine WC.ret ?_
      refine En.then_ret ?_
      refine En.ret1 rfl (Res.tmp rfl) ?_
      obtain rfl := Option.some.inj h
      intro w' hs
      exact ⟨rfl, hs.below⟩
    ·
      intro hc_2
      replace h := ifO_f hc_2 h
      refine WC.skip ?_
      refine En.next ?_
      refine WC.seq ?_
      refine WC.seq ?_
      refine WC.region ?_
      refine Lt.ofWL.step rfl rfl rfl (OpV.move rfl) ?_
      refine Lt.ofWL.step rfl rfl rfl (OpV.move rfl) ?_
      refine Lt.ofWL.step rfl rfl rfl (OpV.neq rfl rfl) ?_
      refine WL.nil ?_
      refine En.next ?_
      refine WC.cond rfl ?_ ?_
      ·
        intro hc_3
        replace h := ifO_t hc_3 h
        refine WC.seq ?_
        refine WC.region ?_
        refine Lt.ofWL.step rfl rfl rfl (OpV.assign rfl) ?_
        refine WL.nil ?_
        refine En.next ?_
        refine WC.ret ?_
        refine En.then_ret ?_
        refine En.ret1 rfl (Res.tmp rfl) ?_
        obtain rfl := Option.some.inj h
        intro w' hs
        exact ⟨rfl, hs.below⟩
      ·
        intro hc_3
        replace h := ifO_f hc_3 h
        refine WC.skip ?_
        refine En.next ?_
        refine WC.seq ?_
        obtain ⟨⟨x13_3a, x13_3b⟩, e13_3, h⟩ := bnd h
        refine WC.region ?_
        refine Lt.ofWL.step rfl rfl rfl (OpV.move rfl) ?_
        refine Lt.ofWL.step rfl rfl rfl (OpV.move rfl) ?_
        refine Lt.ofWL.step rfl rfl rfl (OpV.move rfl) ?_
        refine WL.heavy rfl rfl rfl (OpH.callR (evs.cons rfl (evs.cons rfl (evs.cons rfl (evs.nil)))) ca_14 (fun w hs => w_impl_BlankCrtc e13_3) ?_)
        rintro _ _ ⟨a13_300, n13_300, c13_300, f13_300, a13_301, n13_301, c13_301, f13_301, a13_302, n13_302, c13_302, f13_302, rfl, rfl⟩
        refine Lt.ofWL.step rfl rfl rfl (OpV.move rfl) ?_
        refine Lt.ofWL.step rfl rfl rfl (OpV.extract rfl rfl) ?_
        refine Lt.ofWL.step rfl rfl rfl (OpV.extract rfl rfl) ?_
        refine WL.heavy rfl rfl rfl (OpH.alloc zc_33 ?_)
        intro b13_7
        refine WL.heavy0 rfl rfl (OpH.storeTo (A := []) [_, _, _, _, _] rfl rfl rfl ts_33 rfl rfl rfl ?_)
        refine Lt.ofWL.step rfl rfl rfl (OpV.assign rfl) ?_
        refine WL.nil ?_
        refine En.next ?_
        refine WC.seq ?_
        refine WC.seq ?_
        obtain ⟨x14_2, e14_2, h⟩ := bnd h
        refine WC.region ?_
        refine Lt.ofWL.step rfl rfl rfl (OpV.loadAll rfl (.head _) ag_33) ?_
        refine Lt.ofWL.step rfl rfl rfl (OpV.loadAll rfl (.tail _ (.tail _ (.tail _ (.tail _ (.tail _ (.tail _ (.tail _ (.tail _ (.head _))))))))) ag_33) ?_
        refine Lt.ofWL.step rfl rfl rfl (OpV.call (evs.cons rfl (evs.cons rfl (evs.nil))) ca_12 (fun w hs => w_laws_eqCrtc e14_2 (Ow.rd (hs.mem (.tail _ (.head _)))) (Ow.rd (hs.mem (.tail _ (.tail _ (.head _))))) (Ow.rd (hs.mem (.tail _ (.tail _ (.tail _ (.head _)))))) (Ow.rd (hs.mem (.tail _ (.tail _ (.tail _ (.tail _ (.tail _ (.tail _ (.tail _ (.tail _ (.tail _ (.head _)))))))))))) (Ow.rd (hs.mem (.tail _ (.tail _ (.tail _ (.tail _ (.tail _ (.tail _ (.tail _ (.tail _ (.tail _ (.tail _ (.head _))))))))))))) (Ow.rd (hs.mem (.tail _ (.tail _ (.tail _ (.tail _ (.tail _ (.tail _ (.tail _ (.tail _ (.tail _ (.tail _ (.tail _ (.head _)))))))))))))))) ?_
        refine Lt.ofWL.step rfl rfl rfl (OpV.not rfl) ?_
        refine Lt.ofWL.step rfl rfl rfl (OpV.move rfl) ?_
        refine Lt.ofWL.or 60 64 63 (p := ?pz2) (rest := ?qz2) (B := ?Bz2) rfl ?Tz2 ?Fz2 ?az2 ?bz2 ?cz2 ?dz2 ?ez2
        case Tz2 =>
          intro hcz2 hkz2
          refine Lt.ofWL.skip rfl rfl rfl ?_
          refine Lt.ofWL.skip rfl rfl rfl ?_
          refine Lt.ofWL.skip rfl rfl rfl ?_
          refine hkz2 _ ?_
          repeat (first | exact Sub.refl _ | refine Sub.skip rfl ?_)
        case Fz2 =>
          intro hcz2 hkz2
          refine Lt.ofWL.step rfl rfl rfl (OpV.move rfl) ?_
          refine Lt.ofWL.step rfl rfl rfl (OpV.move rfl) ?_
          refine Lt.ofWL.step rfl rfl rfl (OpV.bneq rfl rfl ub_4) ?_
          refine hkz2 _ ?_ ?_
          exact rfl
          repeat (first | exact Sub.refl _ | refine Sub.skip rfl ?_)
        case az2 => exact rfl
        case bz2 => exact rfl
        case cz2 => exact rfl
        case dz2 => exact rfl
        refine WL.nil ?_
        refine En.next ?_
        refine WC.cond rfl ?_ ?_
        ·
          intro hc_4
          replace h := ifO_t hc_4 h
          refine WC.seq ?_
          refine WC.region ?_
          refine Lt.ofWL.step rfl rfl rfl (OpV.assign rfl) ?_
          refine WL.nil ?_
          refine En.next ?_
          refine WC.ret ?_
          refine En.then_ret ?_
          refine En.ret1 rfl (Res.tmp rfl) ?_
          obtain rfl := Option.some.inj h
          intro w' hs
          exact ⟨rfl, hs.below⟩
        ·
          intro hc_4
          replace h := ifO_f hc_4 h
          refine WC.skip ?_
          refine En.next ?_
          refine WC.seq ?_
          refine WC.region ?_
          refine Lt.ofWL.step rfl rfl rfl (OpV.assign rfl) ?_
          refine WL.nil ?_
          refine En.next ?_
          refine WC.seq ?_
          obtain ⟨x17_2, e17_2, h⟩ := bnd h
          refine WC.region ?_
          refine Lt.ofWL.step rfl rfl rfl (OpV.loadAll rfl (.tail _ (.tail _ (.tail _ (.tail _ (.tail _ (.tail _ (.tail _ (.head _)))))))) ag_33) ?_
          refine Lt.ofWL.step rfl rfl rfl (OpV.move rfl) ?_
          refine Lt.ofWL.step rfl rfl rfl (OpV.call (evs.cons rfl (evs.cons rfl (evs.nil))) ca_16 (fun w hs => w_laws_heldCrtc e17_2 (Ow.rd (hs.mem (.tail _ (.tail _ (.tail _ (.tail _ (.head _))))))) (Ow.rd (hs.mem (.tail _ (.tail _ (.tail _ (.tail _ (.tail _ (.head _)))))))) (Ow.rd (hs.mem (.tail _ (.tail _ (.tail _ (.tail _ (.tail _ (.tail _ (.head _))))))))))) ?_
          refine Lt.ofWL.step rfl rfl rfl (OpV.assign rfl) ?_
          refine WL.nil ?_
          refine En.next ?_
          refine WC.seq ?_
          refine WC.seq ?_
          refine WC.region ?_
          refine Lt.ofWL.step rfl rfl rfl (OpV.move rfl) ?_
          refine Lt.ofWL.step rfl rfl rfl (OpV.lss rfl rfl) ?_
          refine WL.nil ?_
          refine En.next ?_
          refine WC.cond rfl ?_ ?_
          ·
            intro hc_5
            replace h := ifO_t hc_5 h
            refine WC.seq ?_
            refine WC.region ?_
            refine Lt.ofWL.step rfl rfl rfl (OpV.assign rfl) ?_
            refine WL.nil ?_
            refine En.next ?_
            refine WC.ret ?_
            refine En.then_ret ?_
            refine En.ret1 rfl (Res.tmp rfl) ?_
            obtain rfl := Option.some.inj h
            intro w' hs
            exact ⟨rfl, hs.below⟩
          ·
            intro hc_5
            replace h := ifO_f hc_5 h
            refine WC.skip ?_
            refine En.next ?_
            refine WC.seq ?_
            refine WC.seq ?_
            refine WC.region ?_
            refine Lt.ofWL.step rfl rfl rfl (OpV.move rfl) ?_
            refine Lt.ofWL.step rfl rfl rfl (OpV.move rfl) ?_
            refine Lt.ofWL.step rfl rfl rfl (OpV.neq rfl rfl) ?_
            refine WL.nil ?_
            refine En.next ?_
            refine WC.cond rfl ?_ ?_
            ·
              intro hc_6
              replace h := ifO_t hc_6 h
              refine WC.seq ?_
              refine WC.region ?_
              refine Lt.ofWL.step rfl rfl rfl (OpV.assign rfl) ?_
              refine WL.nil ?_
              refine En.next ?_
              refine WC.ret ?_
              refine En.then_ret ?_
              refine En.ret1 rfl (Res.tmp rfl) ?_
              obtain rfl := Option.some.inj h
              intro w' hs
              exact ⟨rfl, hs.below⟩
            ·
              intro hc_6
              replace h := ifO_f hc_6 h
              refine WC.skip ?_
              refine En.next ?_
              refine WC.seq ?_
              refine WC.region ?_
              refine Lt.ofWL.step rfl rfl rfl (OpV.assign rfl) ?_
              refine WL.nil ?_
              refine En.next ?_
              refine WC.ret ?_
              refine En.ret1 rfl (Res.tmp rfl) ?_
              obtain rfl := Option.some.inj h
              intro w' hs
              exact ⟨rfl, hs.below⟩

theorem w_laws_szFlip {a_p0 : FlipT} {left_p1 : Int} {r : Int} {q0_0 : Option Addr} {n0_0 k0_0 : Nat} {q0_1 : Option Addr} {n0_1 k0_1 : Nat} {q0_2 : Option Addr} {n0_2 k0_2 : Nat} (h : laws_szFlip a_p0 left_p1 = some r) {w : World} (r0_0 : Rd tPlane w q0_0 n0_0 k0_0 a_p0.State.Planes) (r0_1 : Rd tInt w q0_1 n0_1 k0_1 a_p0.State.Color.Matrix) (r0_2 : Rd tInt w q0_2 n0_2 k0_2 a_p0.State.Color.Curve)   :
    Calls Try.prog 82 #[.agg #[.int .i64 a_p0.Seq, .int .i64 a_p0.Fence, .int .i64 a_p0.State.W, .int .i64 a_p0.State.H, .slice q0_0 n0_0 k0_0, .slice q0_1 n0_1 k0_1, .slice q0_2 n0_2 k0_2], .int .i64 left_p1] w (fun en w' => en = .returned (.int .i64 r) ∧ Ext w w') := by
  obtain rfl := r0_0.1
  obtain rfl := r0_1.1
  obtain rfl := r0_2.1
  unfold laws_szFlip at h
  refine enter (vs := [_, _]) Try.func82 rfl rfl rfl rfl ?_
  refine WC.seq ?_
  refine WC.region ?_
  refine WL.heavy rfl rfl rfl (OpH.box rfl rfl ?_)
  intro b0_0
  refine Lt.ofWL.step rfl rfl rfl (OpV.assign rfl) ?_
  refine WL.nil ?_
  refine En.next ?_
  refine WC.seq ?_
  obtain ⟨x1_3, e1_3, h⟩ := bnd h
  refine WC.region ?_
  refine Lt.ofWL.step rfl rfl rfl (OpV.fieldAddr rfl fo_107_2) ?_
  refine Lt.ofWL.step rfl rfl rfl (OpV.loadPart rfl (.head _) ag_27 rfl rfl) ?_
  refine Lt.ofWL.step rfl rfl rfl (OpV.move rfl) ?_
  refine Lt.ofWL.step rfl rfl rfl (OpV.call (evs.cons rfl (evs.cons rfl (evs.nil))) ca_8 (fun w hs => w_laws_szCrtc e1_3 (r0_0.ext hs.below) (r0_1.ext hs.below) (r0_2.ext hs.below))) ?_
  refine Lt.ofWL.step rfl rfl rfl (OpV.assign rfl) ?_
  refine WL.nil ?_
  refine En.next ?_
  refine WC.seq ?_
  refine WC.seq ?_
  refine WC.region ?_
  refine Lt.ofWL.step rfl rfl rfl (OpV.move rfl) ?_
  refine Lt.ofWL.step rfl rfl rfl (OpV.lss rfl rfl) ?_
  refine WL.nil ?_
  refine En.next ?_
  refine WC.cond rfl ?_ ?_
  ·
    intro hc_1
    replace h := ifO_t hc_1 h
    refine WC.seq ?_
    refine WC.region ?_
    refine Lt.ofWL.step rfl rfl rfl (OpV.assign rfl) ?_
    refine WL.nil ?_
    refine En.next ?_
    refine WC.ret ?_
    refine En.then_ret ?_
    refine En.ret1 rfl (Res.tmp rfl) ?_
    obtain rfl := Option.some.inj h
    intro w' hs
    exact ⟨rfl, hs.below⟩
  ·
    intro hc_1
    replace h := ifO_f hc_1 h
    refine WC.skip ?_
    refine En.next ?_
    refine WC.seq ?_
    refine WC.region ?_
    refine Lt.ofWL.step rfl rfl rfl (OpV.move rfl) ?_
    refine Lt.ofWL.step rfl rfl rfl (OpV.assign rfl) ?_
    refine WL.nil ?_
    refine En.next ?_
    refine WC.ret ?_
    refine En.ret1 rfl (Res.tmp rfl) ?_
    obtain rfl := Option.some.inj h
    intro w' hs
    exact ⟨rfl, hs.below⟩

theorem w_laws_szFlipS {a_p0 : List FlipT} {left_p1 : Int} {r : Int} {q0_0 : Option Addr} {n0_0 k0_0 : Nat} (h : laws_szFlipS a_p0 left_p1 = some r) {w : World} (r0_0 : Rd tFlip w q0_0 n0_0 k0_0 a_p0)   :
    Calls Try.prog 48 #[.slice q0_0 n0_0 k0_0, .int .i64 left_p1] w (fun en w' => en = .returned (.int .i64 r) ∧ Ext w w') := by
  obtain rfl := r0_0.1
  unfold laws_szFlipS at h
  refine enter (vs := [_, _]) Try.func48 rfl rfl rfl rfl ?_
  refine WC.seq ?_
  refine WC.region ?_
  refine Lt.ofWL.step rfl rfl rfl (OpV.assign rfl) ?_
  refine WL.nil ?_
  refine En.next ?_
  refine WC.seq ?_
  refine WC.region ?_
  refine Lt.ofWL.step rfl rfl rfl (OpV.move rfl) ?_
  refine Lt.ofWL.step rfl rfl rfl (OpV.move rfl) ?_
  refine Lt.ofWL.step rfl rfl rfl (OpV.len rfl si_41 rfl) ?_
  refine Lt.ofWL.step rfl rfl rfl (OpV.subR rfl rfl) ?_
  refine Lt.ofWL.step rfl rfl rfl (OpV.assign rfl) ?_
  refine WL.nil ?_
  refine En.next ?_
  refine WC.seq ?_
  refine WC.seq ?_
  refine WC.region ?_
  refine Lt.ofWL.step rfl rfl rfl (OpV.move rfl) ?_
  refine Lt.ofWL.step rfl rfl rfl (OpV.lss rfl rfl) ?_
  refine WL.nil ?_
  refine En.next ?_
  refine WC.cond rfl ?_ ?_
  ·
    intro hc_1
    replace h := ifO_t hc_1 h
    refine WC.seq ?_
    refine WC.region ?_
    refine Lt.ofWL.step rfl rfl rfl (OpV.assign rfl) ?_
    refine WL.nil ?_
    refine En.next ?_
    refine WC.ret ?_
    refine En.then_ret ?_
    refine En.ret1 rfl (Res.tmp rfl) ?_
    obtain rfl := Option.some.inj h
    intro w' hs
    exact ⟨rfl, hs.below⟩
  ·
    intro hc_1
    replace h := ifO_f hc_1 h
    refine WC.skip ?_
    refine En.next ?_
    refine WC.seq ?_
    refine WC.seq ?_
    refine WC.region ?_
    refine Lt.ofWL.step rfl rfl rfl (OpV.assign rfl) ?_
    refine WL.nil ?_
    refine En.next ?_
    refine WC.block ?_
    obtain ⟨zy0, ezy0, h⟩ := bnd h
    refine WC.cut (X := (Int) × (Unit)) (.exit 0) (fun x => zy0 = .inl x.1) (fun x => match x with | (left_0e, ()) => [(1, .int .i64 left_0e)]) (fun x => match x with | (left_0e, ()) => []) ?_ ?_
    ·
      rintro ⟨left_0e, ⟨⟩⟩ hx
      replace hx : .inl left_0e = zy0 := hx.symm
      subst hx
      replace h := fork_l h
      show En _ _ _ _ [(1, .int .i64 left_0e)] []
      refine En.block_exit ?_
      refine En.next ?_
      refine WC.seq ?_
      refine WC.region ?_
      refine Lt.ofWL.step rfl rfl rfl (OpV.move rfl) ?_
      refine Lt.ofWL.step rfl rfl rfl (OpV.assign rfl) ?_
      refine WL.nil ?_
      refine En.next ?_
      refine WC.ret ?_
      refine En.ret1 rfl (Res.tmp rfl) ?_
      obtain rfl := Option.some.inj h
      intro w' hs
      exact ⟨rfl, hs.below⟩
    ·
      intro zK0_0
      refine WC.loopP (G := Unit) (fun s g => match s, g with | (left_0, i_0), () => [(0, .slice q0_0 a_p0.length k0_0), (1, .int .i64 left_0), (5, .int .i64 i_0)]) (fun s g => match s, g with | (left_0, i_0), () => []) ((wr (left_p1 - (a_p0.length : Int))), 0) () ezy0 (by exact Sub.cons rfl (Sub.cons rfl (Sub.cons rfl (Sub.nil _)))) (by exact (fun _ h => h)) ?_
      rintro zm0 ⟨left_0, i_0⟩ ⟨⟩ zo0 zf0 zb0 ze0
      have zh0 : laws_szFlipS_L0 a_p0 left_0 i_0 = some zo0 := zf0
      unfold laws_szFlipS_L0 at zh0
      show WC _ _ _ _ _ [(0, .slice q0_0 a_p0.length k0_0), (1, .int .i64 left_0), (5, .int .i64 i_0)] []
      refine WC.seq ?_
      refine WC.seq ?_
      refine WC.region ?_
      refine Lt.ofWL.step rfl rfl rfl (OpV.move rfl) ?_
      refine Lt.ofWL.step rfl rfl rfl (OpV.move rfl) ?_
      refine Lt.ofWL.step rfl rfl rfl (OpV.len rfl si_41 rfl) ?_
      refine Lt.ofWL.step rfl rfl rfl (OpV.lss rfl rfl) ?_
      refine WL.nil ?_
      refine En.next ?_
      refine WC.cond rfl ?_ ?_
      ·
        intro hc_2
        replace zh0 := ifO_t hc_2 zh0
        refine WC.skip ?_
        refine En.next ?_
        refine WC.seq ?_
        refine WC.block ?_
        refine WC.seq ?_
        obtain ⟨x7_2, e7_2, zh0⟩ := bnd zh0
        obtain ⟨g7_2, o7_2, _, ha7_2, ⟨a7_2_1, c7_2_1, a7_2_2, c7_2_2, a7_2_3, c7_2_3, rfl, r7_2_1, r7_2_2, r7_2_3⟩, hd7_2⟩ := Rd.atIdx r0_0 e7_2
        replace hd7_2 : ∀ (j : Nat) v, ([.int .i64 x7_2.Seq, .int .i64 x7_2.Fence, .int .i64 x7_2.State.W, .int .i64 x7_2.State.H, .slice a7_2_1 x7_2.State.Planes.length c7_2_1, .slice a7_2_2 x7_2.State.Color.Matrix.length c7_2_2, .slice a7_2_3 x7_2.State.Color.Curve.length c7_2_3] : List Value)[j]? = some v → w.cell? ⟨g7_2, o7_2 + i_0.toNat * 7 + j, .none⟩ = some v := hd7_2
        obtain ⟨x7_5, e7_5, zh0⟩ := bnd zh0
        refine WC.region ?_
        refine Lt.ofWL.step rfl rfl rfl (OpV.move rfl) ?_
        refine Lt.ofWL.step rfl rfl rfl (OpV.move rfl) ?_
        refine Lt.ofWL.step rfl rfl rfl (OpV.idxA rfl rfl se_41 ha7_2 ⟨(idx_some e7_2).1, (idx_some e7_2).2.1⟩) ?_
        refine Lt.ofWL.step rfl rfl rfl (OpV.loadN rfl ag_107 rfl (fun w hs => hs.cellsAt hd7_2)) ?_
        refine Lt.ofWL.step rfl rfl rfl (OpV.move rfl) ?_
        refine Lt.ofWL.step rfl rfl rfl (OpV.call (evs.cons rfl (evs.cons rfl (evs.nil))) ca_82 (fun w hs => w_laws_szFlip e7_5 (r7_2_1.ext hs.below) (r7_2_2.ext hs.below) (r7_2_3.ext hs.below))) ?_
        refine Lt.ofWL.step rfl rfl rfl (OpV.assign rfl) ?_
        refine WL.nil ?_
        refine En.next ?_
        refine WC.seq ?_
        refine WC.region ?_
        refine Lt.ofWL.step rfl rfl rfl (OpV.move rfl) ?_
        refine Lt.ofWL.step rfl rfl rfl (OpV.lss rfl rfl) ?_
        refine WL.nil ?_
        refine En.next ?_
        refine WC.cond rfl ?_ ?_
        ·
          intro hc_3
          replace zh0 := ifO_t hc_3 zh0
          refine WC.seq ?_
          refine WC.region ?_
          refine Lt.ofWL.step rfl rfl rfl (OpV.assign rfl) ?_
          refine WL.nil ?_
          refine En.next ?_
          refine WC.ret ?_
          refine En.block_ret ?_
          refine En.then_ret ?_
          refine En.then_ret ?_
          refine En.block_ret ?_
          refine En.then_ret ?_
          refine En.ret1 rfl (Res.tmp rfl) ?_
          have hx := exitP ze0 zh0
          subst hx
          replace h := fork_r h
          obtain rfl := Option.some.inj h
          intro w' hs
          exact ⟨rfl, hs.below⟩
        ·
          intro hc_3
          replace zh0 := ifO_f hc_3 zh0
          refine WC.skip ?_
          refine En.block_norm ?_
          refine En.next ?_
          refine WC.region ?_
          refine Lt.ofWL.step rfl rfl rfl (OpV.move rfl) ?_
          refine Lt.ofWL.step rfl rfl rfl (OpV.addR rfl rfl) ?_
          refine Lt.ofWL.step rfl rfl rfl (OpV.assign rfl) ?_
          refine WL.nil ?_
          exact En.backP zb0 zh0 () (Sub.cons rfl (Sub.cons rfl (Sub.cons rfl (Sub.nil _)))) (fun _ h => h)
      ·
        intro hc_2
        replace zh0 := ifO_f hc_2 zh0
        refine WC.exit ?_
        refine En.then_exit ?_
        refine En.then_exit ?_
        have hx := exitP ze0 zh0
        exact En.wk _ _ (Sub.cons rfl (Sub.nil _)) (fun _ h => h) (zK0_0 (left_0, ()) hx.symm)

theorem w_laws_szFlips {a_p0 : FlipsT} {left_p1 : Int} {r : Int} {q0_0 : Option Addr} {n0_0 k0_0 : Nat} {q0_1 : Option Addr} {n0_1 k0_1 : Nat} {q0_2 : Option Addr} {n0_2 k0_2 : Nat} (h : laws_szFlips a_p0 left_p1 = some r) {w : World} (r0_0 : Rd tFlip w q0_0 n0_0 k0_0 a_p0.Pending) (r0_1 : Rd tInt w q0_1 n0_1 k0_1 a_p0.Signalled) (r0_2 : Rd tInt w q0_2 n0_2 k0_2 a_p0.Events)   :
    Calls Try.prog 17 #[.agg #[.slice q0_0 n0_0 k0_0, .slice q0_1 n0_1 k0_1, .int .i64 a_p0.Next, .slice q0_2 n0_2 k0_2], .int .i64 left_p1] w (fun en w' => en = .returned (.int .i64 r) ∧ Ext w w') := by
  obtain rfl := r0_0.1
  obtain rfl := r0_1.1
  obtain rfl := r0_2.1
  unfold laws_szFlips at h
  refine enter (vs := [_, _]) Try.func17 rfl rfl rfl rfl ?_
  refine WC.seq ?_
  refine WC.region ?_
  refine WL.heavy rfl rfl rfl (OpH.box rfl rfl ?_)
  intro b0_0
  refine Lt.ofWL.step rfl rfl rfl (OpV.assign rfl) ?_
  refine WL.nil ?_
  refine En.next ?_
  refine WC.seq ?_
  obtain ⟨x1_3, e1_3, h⟩ := bnd h
  refine WC.region ?_
  refine Lt.ofWL.step rfl rfl rfl (OpV.fieldAddr rfl fo_43_0) ?_
  refine Lt.ofWL.step rfl rfl rfl (OpV.loadBox rfl pt_41 (.head _) rfl) ?_
  refine Lt.ofWL.step rfl rfl rfl (OpV.move rfl) ?_
  refine Lt.ofWL.step rfl rfl rfl (OpV.call (evs.cons rfl (evs.cons rfl (evs.nil))) ca_48 (fun w hs => w_laws_szFlipS e1_3 (r0_0.ext hs.below))) ?_
  refine Lt.ofWL.step rfl rfl rfl (OpV.assign rfl) ?_
  refine WL.nil ?_
  refine En.next ?_
  refine WC.seq ?_
  refine WC.seq ?_
  refine WC.region ?_
  refine Lt.ofWL.step rfl rfl rfl (OpV.move rfl) ?_
  refine Lt.ofWL.step rfl rfl rfl (OpV.lss rfl rfl) ?_
  refine WL.nil ?_
  refine En.next ?_
  refine WC.cond rfl ?_ ?_
  ·
    intro hc_1
    replace h := ifO_t hc_1 h
    refine WC.seq ?_
    refine WC.region ?_
    refine Lt.ofWL.step rfl rfl rfl (OpV.assign rfl) ?_
    refine WL.nil ?_
    refine En.next ?_
    refine WC.ret ?_
    refine En.then_ret ?_
    refine En.ret1 rfl (Res.tmp rfl) ?_
    obtain rfl := Option.some.inj h
    intro w' hs
    exact ⟨rfl, hs.below⟩
  ·
    intro hc_1
    replace h := ifO_f hc_1 h
    refine WC.skip ?_
    refine En.next ?_
    refine WC.seq ?_
    obtain ⟨x4_3, e4_3, h⟩ := bnd h
    refine WC.region ?_
    refine Lt.ofWL.step rfl rfl rfl (OpV.fieldAddr rfl fo_43_1) ?_
    refine Lt.ofWL.step rfl rfl rfl (OpV.loadBox rfl pt_23 (.head _) rfl) ?_
    refine Lt.ofWL.step rfl rfl rfl (OpV.move rfl) ?_
    refine Lt.ofWL.step rfl rfl rfl (OpV.call (evs.cons rfl (evs.cons rfl (evs.nil))) ca_49 (fun w hs => w_laws_szIntS e4_3 (r0_1.ext hs.below))) ?_
    refine Lt.ofWL.step rfl rfl rfl (OpV.assign rfl) ?_
    refine WL.nil ?_
    refine En.next ?_
    refine WC.seq ?_
    refine WC.seq ?_
    refine WC.region ?_
    refine Lt.ofWL.step rfl rfl rfl (OpV.move rfl) ?_
    refine Lt.ofWL.step rfl rfl rfl (OpV.lss rfl rfl) ?_
    refine WL.nil ?_
    refine En.next ?_
    refine WC.cond rfl ?_ ?_
    ·
      intro hc_2
      replace h := ifO_t hc_2 h
      refine WC.seq ?_
      refine WC.region ?_
      refine Lt.ofWL.step rfl rfl rfl (OpV.assign rfl) ?_
      refine WL.nil ?_
      refine En.next ?_
      refine WC.ret ?_
      refine En.then_ret ?_
      refine En.ret1 rfl (Res.tmp rfl) ?_
      obtain rfl := Option.some.inj h
      intro w' hs
      exact ⟨rfl, hs.below⟩
    ·
      intro hc_2
      replace h := ifO_f hc_2 h
      refine WC.skip ?_
      refine En.next ?_
      refine WC.seq ?_
      obtain ⟨x7_3, e7_3, h⟩ := bnd h
      refine WC.region ?_
      refine Lt.ofWL.step rfl rfl rfl (OpV.fieldAddr rfl fo_43_3) ?_
      refine Lt.ofWL.step rfl rfl rfl (OpV.loadBox rfl pt_23 (.head _) rfl) ?_
      refine Lt.ofWL.step rfl rfl rfl (OpV.move rfl) ?_
      refine Lt.ofWL.step rfl rfl rfl (OpV.call (evs.cons rfl (evs.cons rfl (evs.nil))) ca_49 (fun w hs => w_laws_szIntS e7_3 (r0_2.ext hs.below))) ?_
      refine Lt.ofWL.step rfl rfl rfl (OpV.assign rfl) ?_
      refine WL.nil ?_
      refine En.next ?_
      refine WC.seq ?_
      refine WC.seq ?_
      refine WC.region ?_
      refine Lt.ofWL.step rfl rfl rfl (OpV.move rfl) ?_
      refine Lt.ofWL.step rfl rfl rfl (OpV.lss rfl rfl) ?_
      refine WL.nil ?_
      refine En.next ?_
      refine WC.cond rfl ?_ ?_
      ·
        intro hc_3
        replace h := ifO_t hc_3 h
        refine WC.seq ?_
        refine WC.region ?_
        refine Lt.ofWL.step rfl rfl rfl (OpV.assign rfl) ?_
        refine WL.nil ?_
        refine En.next ?_
        refine WC.ret ?_
        refine En.then_ret ?_
        refine En.ret1 rfl (Res.tmp rfl) ?_
        obtain rfl := Option.some.inj h
        intro w' hs
        exact ⟨rfl, hs.below⟩
      ·
        intro hc_3
        replace h := ifO_f hc_3 h
        refine WC.skip ?_
        refine En.next ?_
        refine WC.seq ?_
        refine WC.region ?_
        refine Lt.ofWL.step rfl rfl rfl (OpV.move rfl) ?_
        refine Lt.ofWL.step rfl rfl rfl (OpV.assign rfl) ?_
        refine WL.nil ?_
        refine En.next ?_
        refine WC.ret ?_
        refine En.ret1 rfl (Res.tmp rfl) ?_
        obtain rfl := Option.some.inj h
        intro w' hs
        exact ⟨rfl, hs.below⟩

theorem w_laws_toFlip {a_p0 : FlipT} {r : FlipT} {q0_0 : Option Addr} {n0_0 k0_0 : Nat} {q0_1 : Option Addr} {n0_1 k0_1 : Nat} {q0_2 : Option Addr} {n0_2 k0_2 : Nat} (h : laws_toFlip a_p0 = some r) {w : World} (r0_0 : Rd tPlane w q0_0 n0_0 k0_0 a_p0.State.Planes) (r0_1 : Rd tInt w q0_1 n0_1 k0_1 a_p0.State.Color.Matrix) (r0_2 : Rd tInt w q0_2 n0_2 k0_2 a_p0.State.Color.Curve)   :
    Calls Try.prog 83 #[.agg #[.int .i64 a_p0.Seq, .int .i64 a_p0.Fence, .int .i64 a_p0.State.W, .int .i64 a_p0.State.H, .slice q0_0 n0_0 k0_0, .slice q0_1 n0_1 k0_1, .slice q0_2 n0_2 k0_2]] w (fun en w' => ∃ rv G, en = .returned rv ∧ (∃ (a0_0 : Option Addr) (n0_0 : Nat) (c0_0 : Nat) (f0_0 : List Nat) (a0_1 : Option Addr) (n0_1 : Nat) (c0_1 : Nat) (f0_1 : List Nat) (a0_2 : Option Addr) (n0_2 : Nat) (c0_2 : Nat) (f0_2 : List Nat), rv = .agg #[.int .i64 r.Seq, .int .i64 r.Fence, .int .i64 r.State.W, .int .i64 r.State.H, .slice a0_0 n0_0 c0_0, .slice a0_1 n0_1 c0_1, .slice a0_2 n0_2 c0_2] ∧ G = [Chunk.own tPlane f0_0 a0_0 n0_0 c0_0 r.State.Planes, Chunk.own tInt f0_1 a0_1 n0_1 c0_1 r.State.Color.Matrix, Chunk.own tInt f0_2 a0_2 n0_2 c0_2 r.State.Color.Curve]) ∧ St w G w') := by
  obtain rfl := r0_0.1
  obtain rfl := r0_1.1
  obtain rfl := r0_2.1
  unfold laws_toFlip at h
  refine enter (vs := [_]) Try.func83 rfl rfl rfl rfl ?_
  refine WC.seq ?_
  refine WC.region ?_
  refine WL.heavy rfl rfl rfl (OpH.box rfl rfl ?_)
  intro b0_0
  refine WL.heavy rfl rfl rfl (OpH.alloc zc_80 ?_)
  intro b0_1
  refine WL.nil ?_
  refine En.next ?_
  refine WC.seq ?_
  refine WC.region ?_
  refine WL.heavy rfl rfl rfl (OpH.alloc zc_80 ?_)
  intro b1_0
  refine WL.nil ?_
  refine En.next ?_
  refine WC.seq ?_
  refine WC.region ?_
  refine Lt.ofWL.step rfl rfl rfl (OpV.fieldAddr rfl fo_107_0) ?_
  refine Lt.ofWL.step rfl rfl rfl (OpV.loadBox rfl pt_3 (.tail _ (.tail _ (.head _))) rfl) ?_
  refine Lt.ofWL.step rfl rfl rfl (OpV.fieldAddr rfl fo_80_0) ?_
  refine WL.heavy0 rfl rfl (OpH.storeTo (A := []) [_, _, _, _, _, _, _] rfl rfl rfl ts_3 rfl rfl rfl ?_)
  refine WL.nil ?_
  refine En.next ?_
  refine WC.seq ?_
  refine WC.region ?_
  refine Lt.ofWL.step rfl rfl rfl (OpV.fieldAddr rfl fo_107_1) ?_
  refine Lt.ofWL.step rfl rfl rfl (OpV.loadBox rfl pt_3 (.tail _ (.tail _ (.head _))) rfl) ?_
  refine Lt.ofWL.step rfl rfl rfl (OpV.fieldAddr rfl fo_80_1) ?_
  refine WL.heavy0 rfl rfl (OpH.storeTo (A := []) [_, _, _, _, _, _, _] rfl rfl rfl ts_3 rfl rfl rfl ?_)
  refine WL.nil ?_
  refine En.next ?_
  refine WC.seq ?_
  obtain ⟨x4_2, e4_2, h⟩ := bnd h
  refine WC.region ?_
  refine Lt.ofWL.step rfl rfl rfl (OpV.fieldAddr rfl fo_107_2) ?_
  refine Lt.ofWL.step rfl rfl rfl (OpV.loadPart rfl (.tail _ (.tail _ (.head _))) ag_27 rfl rfl) ?_
  refine WL.heavy rfl rfl rfl (OpH.callR (evs.cons rfl (evs.nil)) ca_10 (fun w hs => w_laws_toCrtc e4_2 (r0_0.ext hs.below) (r0_1.ext hs.below) (r0_2.ext hs.below)) ?_)
  rintro _ _ ⟨a4_200, n4_200, c4_200, f4_200, a4_201, n4_201, c4_201, f4_201, a4_202, n4_202, c4_202, f4_202, rfl, rfl⟩
  refine Lt.ofWL.step rfl rfl rfl (OpV.fieldAddr rfl fo_80_2) ?_
  refine WL.heavy0 rfl rfl (OpH.storeTo (A := [_, _, _]) [_, _, _, _, _, _, _] rfl rfl rfl ts_33 rfl rfl rfl ?_)
  refine WL.nil ?_
  refine En.next ?_
  refine WC.seq ?_
  refine WC.region ?_
  refine Lt.ofWL.step rfl rfl rfl (OpV.loadAll rfl (.tail _ (.tail _ (.tail _ (.head _)))) ag_80) ?_
  refine WL.heavy0 rfl rfl (OpH.storeTo (A := [_, _, _, _]) [_, _, _, _, _, _, _] rfl rfl rfl ts_80 rfl rfl rfl ?_)
  refine WL.nil ?_
  refine En.next ?_
  refine WC.ret ?_
  refine En.ret1 rfl (Res.cell rfl (.tail _ (.tail _ (.tail _ (.tail _ (.head _))))) ag_80) ?_
  obtain rfl := Option.some.inj h
  intro w' hs
  have hs := (hs).sub (.cons_cons _ (.cons_cons _ (.cons_cons _ (.cons _ (.cons _ (.cons _ (.slnil)))))))
  exact ⟨_, _, rfl, ⟨a4_200, n4_200, c4_200, f4_200, a4_201, n4_201, c4_201, f4_201, a4_202, n4_202, c4_202, f4_202, rfl, rfl⟩, hs⟩

theorem w_laws_toFlipS {a_p0 : List FlipT} {r : (List FlipT)} {q0_0 : Option Addr} {n0_0 k0_0 : Nat} (h : laws_toFlipS a_p0 = some r) {w : World} (r0_0 : Rd tFlip w q0_0 n0_0 k0_0 a_p0)   :
    Calls Try.prog 51 #[.slice q0_0 n0_0 k0_0] w (fun en w' => ∃ rv G, en = .returned rv ∧ (∃ (a0_0 : Option Addr) (n0_0 : Nat) (c0_0 : Nat) (f0_0 : List Nat), rv = .slice a0_0 n0_0 c0_0 ∧ G = [Chunk.own tFlip f0_0 a0_0 n0_0 c0_0 r]) ∧ St w G w') := by
  obtain rfl := r0_0.1
  unfold laws_toFlipS at h
  refine enter (vs := [_]) Try.func51 rfl rfl rfl rfl ?_
  refine WC.seq ?_
  refine WC.region ?_
  refine Lt.ofWL.step rfl rfl rfl (OpV.assign rfl) ?_
  refine WL.nil ?_
  refine En.next ?_
  refine WC.seq ?_
  obtain ⟨x1_2, e1_2, h⟩ := bnd h
  refine WC.region ?_
  refine Lt.ofWL.step rfl rfl rfl (OpV.move rfl) ?_
  refine Lt.ofWL.step rfl rfl rfl (OpV.len rfl si_41 rfl) ?_
  refine WL.heavy rfl rfl rfl (OpH.makeO (A := tFlip) rfl rfl mi_46 tFlip_zero (by decide) e1_2 ⟨Int.le_refl _, (mkO_some e1_2).1.2⟩ ?_)
  intro b1_2
  refine Lt.ofWL.step rfl rfl rfl (OpV.assign rfl) ?_
  refine WL.nil ?_
  refine En.next ?_
  refine WC.seq ?_
  refine WC.seq ?_
  refine WC.region ?_
  refine Lt.ofWL.step rfl rfl rfl (OpV.assign rfl) ?_
  refine WL.nil ?_
  refine En.next ?_
  refine WC.block ?_
  obtain ⟨zy0, ezy0, h⟩ := bnd h
  refine WC.cut (X := ((List FlipT)) × ((List Nat))) (.exit 0) (fun x => zy0 = x.1) (fun x => match x with | (out_0e, fout_0e) => [(3, .slice (some ⟨b1_2, 0, .none⟩) x1_2.length ((a_p0.length : Int).toNat))]) (fun x => match x with | (out_0e, fout_0e) => [Chunk.own tFlip fout_0e (some ⟨b1_2, 0, .none⟩) x1_2.length ((a_p0.length : Int).toNat) out_0e]) ?_ ?_
  ·
    rintro ⟨out_0e, fout_0e⟩ hx
    replace hx : out_0e = zy0 := hx.symm
    subst hx
    show En _ _ _ _ [(3, .slice (some ⟨b1_2, 0, .none⟩) x1_2.length ((a_p0.length : Int).toNat))] [Chunk.own tFlip fout_0e (some ⟨b1_2, 0, .none⟩) x1_2.length ((a_p0.length : Int).toNat) out_0e]
    refine En.block_exit ?_
    refine En.next ?_
    refine WC.seq ?_
    refine WC.region ?_
    refine Lt.ofWL.step rfl rfl rfl (OpV.move rfl) ?_
    refine Lt.ofWL.step rfl rfl rfl (OpV.assign rfl) ?_
    refine WL.nil ?_
    refine En.next ?_
    refine WC.ret ?_
    refine En.ret1 rfl (Res.tmp rfl) ?_
    obtain rfl := Option.some.inj h
    intro w' hs
    have hs := hs
    exact ⟨_, _, rfl, ⟨(some ⟨b1_2, 0, .none⟩), x1_2.length, ((a_p0.length : Int).toNat), fout_0e, rfl, rfl⟩, hs⟩
  ·
    intro zK0_0
    refine WC.loopP (G := (List Nat)) (fun s g => match s, g with | (out_0, i_0), fout_0 => [(0, .slice q0_0 a_p0.length k0_0), (3, .slice (some ⟨b1_2, 0, .none⟩) x1_2.length ((a_p0.length : Int).toNat)), (4, .int .i64 i_0)]) (fun s g => match s, g with | (out_0, i_0), fout_0 => [Chunk.own tFlip fout_0 (some ⟨b1_2, 0, .none⟩) x1_2.length ((a_p0.length : Int).toNat) out_0]) (x1_2, 0) [b1_2] ezy0 (by exact Sub.cons rfl (Sub.cons rfl (Sub.cons rfl (Sub.nil _)))) (by exact (fun _ h => h)) ?_
    rintro zm0 ⟨out_0, i_0⟩ fout_0 zo0 zf0 zb0 ze0
    have zh0 : laws_toFlipS_L0 a_p0 out_0 i_0 = some zo0 := zf0
    unfold laws_toFlipS_L0 at zh0
    show WC _ _ _ _ _ [(0, .slice q0_0 a_p0.length k0_0), (3, .slice (some ⟨b1_2, 0, .none⟩) x1_2.length ((a_p0.length : Int).toNat)), (4, .int .i64 i_0)] [Chunk.own tFlip fout_0 (some ⟨b1_2, 0, .none⟩) x1_2.length ((a_p0.length : Int).toNat) out_0]
    refine WC.seq ?_
    refine WC.seq ?_
    refine WC.region ?_
    refine Lt.ofWL.step rfl rfl rfl (OpV.move rfl) ?_
    refine Lt.ofWL.step rfl rfl rfl (OpV.move rfl) ?_
    refine Lt.ofWL.step rfl rfl rfl (OpV.len rfl si_41 rfl) ?_
    refine Lt.ofWL.step rfl rfl rfl (OpV.lss rfl rfl) ?_
    refine WL.nil ?_
    refine En.next ?_
    refine WC.cond rfl ?_ ?_
    ·
      intro hc_1
      replace zh0 := ifO_t hc_1 zh0
      refine WC.skip ?_
      refine En.next ?_
      refine WC.seq ?_
      refine WC.block ?_
      refine WC.inh fun hin5 => ?_
      obtain ⟨x5_4, e5_4, zh0⟩ := bnd zh0
      obtain ⟨g5_4, o5_4, _, ha5_4, ⟨a5_4_1, c5_4_1, a5_4_2, c5_4_2, a5_4_3, c5_4_3, rfl, r5_4_1, r5_4_2, r5_4_3⟩, hd5_4⟩ := Rd.atIdx r0_0 e5_4
      replace hd5_4 : ∀ (j : Nat) v, ([.int .i64 x5_4.Seq, .int .i64 x5_4.Fence, .int .i64 x5_4.State.W, .int .i64 x5_4.State.H, .slice a5_4_1 x5_4.State.Planes.length c5_4_1, .slice a5_4_2 x5_4.State.Color.Matrix.length c5_4_2, .slice a5_4_3 x5_4.State.Color.Curve.length c5_4_3] : List Value)[j]? = some v → w.cell? ⟨g5_4, o5_4 + i_0.toNat * 7 + j, .none⟩ = some v := hd5_4
      obtain ⟨x5_6, e5_6, zh0⟩ := bnd zh0
      have hn5_7 := ownLen hin5 (.head _)
      obtain ⟨x5_8, e5_8, zh0⟩ := bnd zh0
      obtain ⟨g5_7, ha5_7⟩ := ownAddrU hin5 (.head _) e5_8
      refine WC.region ?_
      refine Lt.ofWL.step rfl rfl rfl (OpV.move rfl) ?_
      refine Lt.ofWL.step rfl rfl rfl (OpV.move rfl) ?_
      refine Lt.ofWL.step rfl rfl rfl (OpV.move rfl) ?_
      refine Lt.ofWL.step rfl rfl rfl (OpV.move rfl) ?_
      refine Lt.ofWL.step rfl rfl rfl (OpV.idxA rfl rfl se_41 ha5_4 ⟨(idx_some e5_4).1, (idx_some e5_4).2.1⟩) ?_
      refine Lt.ofWL.step rfl rfl rfl (OpV.loadN rfl ag_107 rfl (fun w hs => hs.cellsAt hd5_4)) ?_
      refine WL.heavy rfl rfl rfl (OpH.callR (evs.cons rfl (evs.nil)) ca_83 (fun w hs => w_laws_toFlip e5_6 (r5_4_1.ext hs.below) (r5_4_2.ext hs.below) (r5_4_3.ext hs.below)) ?_)
      rintro _ _ ⟨a5_600, n5_600, c5_600, f5_600, a5_601, n5_601, c5_601, f5_601, a5_602, n5_602, c5_602, f5_602, rfl, rfl⟩
      refine Lt.ofWL.step rfl rfl rfl (OpV.idxA rfl rfl se_46 ha5_7 ⟨(upd_some e5_8).1.1, by rw [hn5_7]; exact (upd_some e5_8).1.2⟩) ?_
      refine WL.wkF (fun _ h => tFlip_mk x5_6.Seq x5_6.Fence x5_6.State h) ?_
      refine WL.heavy0 rfl rfl (OpH.setEl (A := tFlip) ha5_7 rfl rfl rfl ts_80 e5_8 ?_)
      intro f5_8
      refine WL.nil ?_
      refine En.block_norm ?_
      refine En.next ?_
      refine WC.region ?_
      refine Lt.ofWL.step rfl rfl rfl (OpV.move rfl) ?_
      refine Lt.ofWL.step rfl rfl rfl (OpV.addR rfl rfl) ?_
      refine Lt.ofWL.step rfl rfl rfl (OpV.assign rfl) ?_
      refine WL.nil ?_
      exact En.backP zb0 zh0 f5_8 (Sub.cons rfl (Sub.cons rfl (Sub.cons rfl (Sub.nil _)))) (fun _ h => h)
    ·
      intro hc_1
      replace zh0 := ifO_f hc_1 zh0
      refine WC.exit ?_
      refine En.then_exit ?_
      refine En.then_exit ?_
      have hx := exitP ze0 zh0
      exact En.wk _ _ (Sub.cons rfl (Sub.nil _)) (fun _ h => h) (zK0_0 (out_0, fout_0) hx.symm)

theorem w_laws_toFlips {a_p0 : FlipsT} {r : FlipsT} {q0_0 : Option Addr} {n0_0 k0_0 : Nat} {q0_1 : Option Addr} {n0_1 k0_1 : Nat} {q0_2 : Option Addr} {n0_2 k0_2 : Nat} (h : laws_toFlips a_p0 = some r) {w : World} (r0_0 : Rd tFlip w q0_0 n0_0 k0_0 a_p0.Pending) (r0_1 : Rd tInt w q0_1 n0_1 k0_1 a_p0.Signalled) (r0_2 : Rd tInt w q0_2 n0_2 k0_2 a_p0.Events)   :
    Calls Try.prog 19 #[.agg #[.slice q0_0 n0_0 k0_0, .slice q0_1 n0_1 k0_1, .int .i64 a_p0.Next, .slice q0_2 n0_2 k0_2]] w (fun en w' => ∃ rv G, en = .returned rv ∧ (∃ (a0_0 : Option Addr) (n0_0 : Nat) (c0_0 : Nat) (f0_0 : List Nat) (a0_1 : Option Addr) (n0_1 : Nat) (c0_1 : Nat) (f0_1 : List Nat) (a0_2 : Option Addr) (n0_2 : Nat) (c0_2 : Nat) (f0_2 : List Nat), rv = .agg #[.slice a0_0 n0_0 c0_0, .slice a0_1 n0_1 c0_1, .int .i64 r.Next, .slice a0_2 n0_2 c0_2] ∧ G = [Chunk.own tFlip f0_0 a0_0 n0_0 c0_0 r.Pending, Chunk.own tInt f0_1 a0_1 n0_1 c0_1 r.Signalled, Chunk.own tInt f0_2 a0_2 n0_2 c0_2 r.Events]) ∧ St w G w') := by
  obtain rfl := r0_0.1
  obtain rfl := r0_1.1
  obtain rfl := r0_2.1
  unfold laws_toFlips at h
  refine enter (vs := [_]) Try.func19 rfl rfl rfl rfl ?_
  refine WC.seq ?_
  refine WC.region ?_
  refine WL.heavy rfl rfl rfl (OpH.box rfl rfl ?_)
  intro b0_0
  refine WL.heavy rfl rfl rfl (OpH.alloc zc_48 ?_)
  intro b0_1
  refine WL.nil ?_
  refine En.next ?_
  refine WC.seq ?_
  refine WC.region ?_
  refine WL.heavy rfl rfl rfl (OpH.alloc zc_48 ?_)
  intro b1_0
  refine WL.nil ?_
  refine En.next ?_
  refine WC.seq ?_
  obtain ⟨x2_2, e2_2, h⟩ := bnd h
  refine WC.region ?_
  refine Lt.ofWL.step rfl rfl rfl (OpV.fieldAddr rfl fo_43_0) ?_
  refine Lt.ofWL.step rfl rfl rfl (OpV.loadBox rfl pt_41 (.tail _ (.tail _ (.head _))) rfl) ?_
  refine WL.heavy rfl rfl rfl (OpH.callR (evs.cons rfl (evs.nil)) ca_51 (fun w hs => w_laws_toFlipS e2_2 (r0_0.ext hs.below)) ?_)
  rintro _ _ ⟨a2_200, n2_200, c2_200, f2_200, rfl, rfl⟩
  refine Lt.ofWL.step rfl rfl rfl (OpV.fieldAddr rfl fo_48_0) ?_
  refine WL.heavy0 rfl rfl (OpH.storeTo (A := [_]) [_, _, _, _] rfl rfl rfl ts_46 rfl rfl rfl ?_)
  refine WL.nil ?_
  refine En.next ?_
  refine WC.seq ?_
  obtain ⟨x3_2, e3_2, h⟩ := bnd h
  refine WC.region ?_
  refine Lt.ofWL.step rfl rfl rfl (OpV.fieldAddr rfl fo_43_1) ?_
  refine Lt.ofWL.step rfl rfl rfl (OpV.loadBox rfl pt_23 (.tail _ (.tail _ (.tail _ (.head _)))) rfl) ?_
  refine WL.heavy rfl rfl rfl (OpH.callR (evs.cons rfl (evs.nil)) ca_52 (fun w hs => w_laws_toIntS e3_2 (r0_1.ext hs.below)) ?_)
  rintro _ _ ⟨a3_200, n3_200, c3_200, f3_200, rfl, rfl⟩
  refine Lt.ofWL.step rfl rfl rfl (OpV.fieldAddr rfl fo_48_1) ?_
  refine WL.heavy0 rfl rfl (OpH.storeTo (A := [_, _]) [_, _, _, _] rfl rfl rfl ts_23 rfl rfl rfl ?_)
  refine WL.nil ?_
  refine En.next ?_
  refine WC.seq ?_
  refine WC.region ?_
  refine Lt.ofWL.step rfl rfl rfl (OpV.fieldAddr rfl fo_43_2) ?_
  refine Lt.ofWL.step rfl rfl rfl (OpV.loadBox rfl pt_3 (.tail _ (.tail _ (.tail _ (.tail _ (.head _))))) rfl) ?_
  refine Lt.ofWL.step rfl rfl rfl (OpV.fieldAddr rfl fo_48_2) ?_
  refine WL.heavy0 rfl rfl (OpH.storeTo (A := [_, _]) [_, _, _, _] rfl rfl rfl ts_3 rfl rfl rfl ?_)
  refine WL.nil ?_
  refine En.next ?_
  refine WC.seq ?_
  obtain ⟨x5_2, e5_2, h⟩ := bnd h
  refine WC.region ?_
  refine Lt.ofWL.step rfl rfl rfl (OpV.fieldAddr rfl fo_43_3) ?_
  refine Lt.ofWL.step rfl rfl rfl (OpV.loadBox rfl pt_23 (.tail _ (.tail _ (.tail _ (.tail _ (.head _))))) rfl) ?_
  refine WL.heavy rfl rfl rfl (OpH.callR (evs.cons rfl (evs.nil)) ca_52 (fun w hs => w_laws_toIntS e5_2 (r0_2.ext hs.below)) ?_)
  rintro _ _ ⟨a5_200, n5_200, c5_200, f5_200, rfl, rfl⟩
  refine Lt.ofWL.step rfl rfl rfl (OpV.fieldAddr rfl fo_48_3) ?_
  refine WL.heavy0 rfl rfl (OpH.storeTo (A := [_, _, _]) [_, _, _, _] rfl rfl rfl ts_23 rfl rfl rfl ?_)
  refine WL.nil ?_
  refine En.next ?_
  refine WC.seq ?_
  refine WC.region ?_
  refine Lt.ofWL.step rfl rfl rfl (OpV.loadAll rfl (.tail _ (.tail _ (.tail _ (.head _)))) ag_48) ?_
  refine WL.heavy0 rfl rfl (OpH.storeTo (A := [_, _, _, _]) [_, _, _, _] rfl rfl rfl ts_48 rfl rfl rfl ?_)
  refine WL.nil ?_
  refine En.next ?_
  refine WC.ret ?_
  refine En.ret1 rfl (Res.cell rfl (.tail _ (.tail _ (.tail _ (.tail _ (.head _))))) ag_48) ?_
  obtain rfl := Option.some.inj h
  intro w' hs
  have hs := (((hs).perm (List.perm_middle (l₁ := [_]))).perm (List.perm_middle (l₁ := [_, _]))).sub (.cons_cons _ (.cons_cons _ (.cons_cons _ (.cons _ (.cons _ (.cons _ (.slnil)))))))
  exact ⟨_, _, rfl, ⟨a2_200, n2_200, c2_200, f2_200, a3_200, n3_200, c3_200, f3_200, a5_200, n5_200, c5_200, f5_200, rfl, rfl⟩, hs⟩

theorem w_spec_FlipsOk {a_p0 : FlipsT} {r : Bool} {q0_0 : Option Addr} {n0_0 k0_0 : Nat} {q0_1 : Option Addr} {n0_1 k0_1 : Nat} {q0_2 : Option Addr} {n0_2 k0_2 : Nat} (h : spec_FlipsOk a_p0 = some r) {w : World} (r0_0 : Rd tFlip w q0_0 n0_0 k0_0 a_p0.Pending) (r0_1 : Rd tInt w q0_1 n0_1 k0_1 a_p0.Signalled) (r0_2 : Rd tInt w q0_2 n0_2 k0_2 a_p0.Events)   :
    Calls Try.prog 18 #[.agg #[.slice q0_0 n0_0 k0_0, .slice q0_1 n0_1 k0_1, .int .i64 a_p0.Next, .slice q0_2 n0_2 k0_2]] w (fun en w' => en = .returned (.bool r) ∧ Ext w w') := by
  obtain rfl := r0_0.1
  obtain rfl := r0_1.1
  obtain rfl := r0_2.1
  unfold spec_FlipsOk at h
  refine enter (vs := [_]) Try.func18 rfl rfl rfl rfl ?_
  refine WC.seq ?_
  refine WC.region ?_
  refine WL.heavy rfl rfl rfl (OpH.box rfl rfl ?_)
  intro b0_0
  refine Lt.ofWL.step rfl rfl rfl (OpV.assign rfl) ?_
  refine WL.nil ?_
  refine En.next ?_
  refine WC.seq ?_
  refine WC.region ?_
  refine Lt.ofWL.step rfl rfl rfl (OpV.fieldAddr rfl fo_48_0) ?_
  refine Lt.ofWL.step rfl rfl rfl (OpV.loadBox rfl pt_46 (.head _) rfl) ?_
  refine Lt.ofWL.step rfl rfl rfl (OpV.len rfl si_46 rfl) ?_
  refine Lt.ofWL.step rfl rfl rfl (OpV.assign rfl) ?_
  refine WL.nil ?_
  refine En.next ?_
  refine WC.seq ?_
  refine WC.seq ?_
  obtain ⟨q2_7, e2_7, h⟩ := bnd h
  refine WC.region ?_
  refine Lt.ofWL.step rfl rfl rfl (OpV.move rfl) ?_
  refine Lt.ofWL.step rfl rfl rfl (OpV.gtr rfl rfl) ?_
  refine Lt.ofWL.step rfl rfl rfl (OpV.move rfl) ?_
  refine Lt.ofWL.orQ 13 18 17 (p := ?pz1) (rest := ?qz1) (B := q2_7) rfl (fun hz => orO_t e2_7 hz) ?Tz1 ?Fz1 ?az1 ?bz1 ?cz1 ?dz1 ?ez1
  case Tz1 =>
    intro hcz1 hkz1
    refine Lt.ofWL.skip rfl rfl rfl ?_
    refine Lt.ofWL.skip rfl rfl rfl ?_
    refine Lt.ofWL.skip rfl rfl rfl ?_
    refine Lt.ofWL.skip rfl rfl rfl ?_
    refine hkz1 _ ?_
    repeat (first | exact Sub.refl _ | refine Sub.skip rfl ?_)
  case Fz1 =>
    intro hcz1 hkz1
    have hqz1 := orO_f e2_7 hcz1
    obtain ⟨x2_5, e2_5, hqz1⟩ := bnd hqz1
    obtain rfl := Option.some.inj hqz1
    refine Lt.ofWL.step rfl rfl rfl (OpV.fieldAddr rfl fo_48_2) ?_
    refine Lt.ofWL.step rfl rfl rfl (OpV.loadBox rfl pt_3 (.head _) rfl) ?_
    refine Lt.ofWL.step rfl rfl rfl (OpV.call (evs.cons rfl (evs.cons rfl (evs.cons rfl (evs.nil)))) ca_50 (fun w hs => w_spec_l01In e2_5)) ?_
    refine Lt.ofWL.step rfl rfl rfl (OpV.not rfl) ?_
    refine hkz1 _ ?_ ?_
    exact rfl
    repeat (first | exact Sub.refl _ | refine Sub.skip rfl ?_)
  case az1 => exact rfl
  case bz1 => exact rfl
  case cz1 => exact rfl
  case dz1 => exact rfl
  refine WL.nil ?_
  refine En.next ?_
  refine WC.cond rfl ?_ ?_
  ·
    intro hc_1
    replace h := ifO_t hc_1 h
    refine WC.seq ?_
    refine WC.region ?_
    refine Lt.ofWL.step rfl rfl rfl (OpV.assign rfl) ?_
    refine WL.nil ?_
    refine En.next ?_
    refine WC.ret ?_
    refine En.then_ret ?_
    refine En.ret1 rfl (Res.tmp rfl) ?_
    obtain rfl := Option.some.inj h
    intro w' hs
    exact ⟨rfl, hs.below⟩
  ·
    intro hc_1
    replace h := ifO_f hc_1 h
    refine WC.skip ?_
    refine En.next ?_
    refine WC.seq ?_
    refine WC.seq ?_
    refine WC.region ?_
    refine Lt.ofWL.step rfl rfl rfl (OpV.assign rfl) ?_
    refine WL.nil ?_
    refine En.next ?_
    refine WC.block ?_
    obtain ⟨zy0, ezy0, h⟩ := bnd h
    refine WC.cut (X := (Unit) × (Unit)) (.exit 0) (fun x => zy0 = .inl x.1) (fun x => match x with | ((), ()) => [(1, .pointer (some ⟨b0_0, 0, .none⟩)), (3, .int .i64 (a_p0.Pending.length : Int))]) (fun x => match x with | ((), ()) => [Chunk.box b0_0 48 [.slice q0_0 a_p0.Pending.length k0_0, .slice q0_1 a_p0.Signalled.length k0_1, .int .i64 a_p0.Next, .slice q0_2 a_p0.Events.length k0_2]]) ?_ ?_
    ·
      rintro ⟨⟨⟩, ⟨⟩⟩ hx
      replace hx : .inl () = zy0 := hx.symm
      subst hx
      replace h := fork_l h
      show En _ _ _ _ [(1, .pointer (some ⟨b0_0, 0, .none⟩)), (3, .int .i64 (a_p0.Pending.length : Int))] [Chunk.box b0_0 48 [.slice q0_0 a_p0.Pending.length k0_0, .slice q0_1 a_p0.Signalled.length k0_1, .int .i64 a_p0.Next, .slice q0_2 a_p0.Events.length k0_2]]
      refine En.block_exit ?_
      refine En.next ?_
      refine WC.seq ?_
      refine WC.seq ?_
      refine WC.region ?_
      refine Lt.ofWL.step rfl rfl rfl (OpV.assign rfl) ?_
      refine WL.nil ?_
      refine En.next ?_
      refine WC.block ?_
      obtain ⟨zy1, ezy1, h⟩ := bnd h
      refine WC.cut (X := (Unit) × (Unit)) (.exit 2) (fun x => zy1 = .inl x.1) (fun x => match x with | ((), ()) => [(1, .pointer (some ⟨b0_0, 0, .none⟩)), (3, .int .i64 (a_p0.Pending.length : Int))]) (fun x => match x with | ((), ()) => [Chunk.box b0_0 48 [.slice q0_0 a_p0.Pending.length k0_0, .slice q0_1 a_p0.Signalled.length k0_1, .int .i64 a_p0.Next, .slice q0_2 a_p0.Events.length k0_2]]) ?_ ?_
      ·
        rintro ⟨⟨⟩, ⟨⟩⟩ hx
        replace hx : .inl () = zy1 := hx.symm
        subst hx
        replace h := fork_l h
        show En _ _ _ _ [(1, .pointer (some ⟨b0_0, 0, .none⟩)), (3, .int .i64 (a_p0.Pending.length : Int))] [Chunk.box b0_0 48 [.slice q0_0 a_p0.Pending.length k0_0, .slice q0_1 a_p0.Signalled.length k0_1, .int .i64 a_p0.Next, .slice q0_2 a_p0.Events.length k0_2]]
        refine En.block_exit ?_
        refine En.next ?_
        refine WC.seq ?_
        refine WC.seq ?_
        refine WC.region ?_
        refine Lt.ofWL.step rfl rfl rfl (OpV.assign rfl) ?_
        refine WL.nil ?_
        refine En.next ?_
        refine WC.block ?_
        obtain ⟨zy2, ezy2, h⟩ := bnd h
        refine WC.cut (X := (Unit) × (Unit)) (.exit 4) (fun x => zy2 = .inl x.1) (fun x => match x with | ((), ()) => []) (fun x => match x with | ((), ()) => []) ?_ ?_
        ·
          rintro ⟨⟨⟩, ⟨⟩⟩ hx
          replace hx : .inl () = zy2 := hx.symm
          subst hx
          replace h := fork_l h
          show En _ _ _ _ [] []
          refine En.block_exit ?_
          refine En.next ?_
          refine WC.seq ?_
          refine WC.region ?_
          refine Lt.ofWL.step rfl rfl rfl (OpV.assign rfl) ?_
          refine WL.nil ?_
          refine En.next ?_
          refine WC.ret ?_
          refine En.ret1 rfl (Res.tmp rfl) ?_
          obtain rfl := Option.some.inj h
          intro w' hs
          exact ⟨rfl, hs.below⟩
        ·
          intro zK2_0
          refine WC.loopP (G := Unit) (fun s g => match s, g with | v_2, () => [(1, .pointer (some ⟨b0_0, 0, .none⟩)), (3, .int .i64 (a_p0.Pending.length : Int)), (7, .int .i64 v_2)]) (fun s g => match s, g with | v_2, () => [Chunk.box b0_0 48 [.slice q0_0 a_p0.Pending.length k0_0, .slice q0_1 a_p0.Signalled.length k0_1, .int .i64 a_p0.Next, .slice q0_2 a_p0.Events.length k0_2]]) 0 () ezy2 (by exact Sub.cons rfl (Sub.cons rfl (Sub.cons rfl (Sub.nil _)))) (by exact (fun _ h => h)) ?_
          rintro zm2 v_2 ⟨⟩ zo2 zf2 zb2 ze2
          have zh2 : spec_FlipsOk_L2 a_p0 v_2 = some zo2 := zf2
          unfold spec_FlipsOk_L2 at zh2
          show WC _ _ _ _ _ [(1, .pointer (some ⟨b0_0, 0, .none⟩)), (3, .int .i64 (a_p0.Pending.length : Int)), (7, .int .i64 v_2)] [Chunk.box b0_0 48 [.slice q0_0 a_p0.Pending.length k0_0, .slice q0_1 a_p0.Signalled.length k0_1, .int .i64 a_p0.Next, .slice q0_2 a_p0.Events.length k0_2]]
          refine WC.seq ?_
          refine WC.seq ?_
          refine WC.region ?_
          refine Lt.ofWL.step rfl rfl rfl (OpV.move rfl) ?_
          refine Lt.ofWL.step rfl rfl rfl (OpV.fieldAddr rfl fo_48_3) ?_
          refine Lt.ofWL.step rfl rfl rfl (OpV.loadBox rfl pt_23 (.head _) rfl) ?_
          refine Lt.ofWL.step rfl rfl rfl (OpV.len rfl si_23 rfl) ?_
          refine Lt.ofWL.step rfl rfl rfl (OpV.lss rfl rfl) ?_
          refine WL.nil ?_
          refine En.next ?_
          refine WC.cond rfl ?_ ?_
          ·
            intro hc_2
            replace zh2 := ifO_t hc_2 zh2
            refine WC.skip ?_
            refine En.next ?_
            refine WC.seq ?_
            refine WC.block ?_
            refine WC.seq ?_
            obtain ⟨x18_3, e18_3, zh2⟩ := bnd zh2
            obtain ⟨g18_3, o18_3, _, ha18_3, rfl, hd18_3⟩ := Rd.atIdx r0_2 e18_3
            replace hd18_3 : ∀ (j : Nat) v, ([.int .i64 x18_3] : List Value)[j]? = some v → w.cell? ⟨g18_3, o18_3 + v_2.toNat * 1 + j, .none⟩ = some v := hd18_3
            obtain ⟨x18_10, e18_10, zh2⟩ := bnd zh2
            obtain ⟨q18_29, e18_29, zh2⟩ := bnd zh2
            refine WC.drawn [(1, ?r18v1), (3, ?r18v3), (7, ?r18v7), (123, ?r18v123)] (by kernel_rfl) (by kernel_rfl) ?dH18 ?dK18
            case dH18 =>
              intro W hW hk
              refine hW.step rfl rfl rfl (OpV.fieldAddr rfl fo_48_3) ?_
              refine hW.step rfl rfl rfl (OpV.loadBox rfl pt_23 (.head _) rfl) ?_
              refine hW.step rfl rfl rfl (OpV.move rfl) ?_
              refine hW.step rfl rfl rfl (OpV.idxA rfl rfl se_23 ha18_3 ⟨(idx_some e18_3).1, (idx_some e18_3).2.1⟩) ?_
              refine hW.step rfl rfl rfl (OpV.load1 rfl pt_3 (fun w hs => hs.cell (hd18_3 0 _ rfl))) ?_
              refine hW.step rfl rfl rfl (OpV.fieldAddr rfl fo_48_2) ?_
              refine hW.step rfl rfl rfl (OpV.loadBox rfl pt_3 (.head _) rfl) ?_
              refine hW.step rfl rfl rfl (OpV.move rfl) ?_
              refine hW.step rfl rfl rfl (OpV.subR rfl rfl) ?_
              refine hW.step rfl rfl rfl (OpV.subR rfl rfl) ?_
              refine hW.step rfl rfl rfl (OpV.call (evs.cons rfl (evs.cons rfl (evs.cons rfl (evs.nil)))) ca_50 (fun w hs => w_spec_l01In e18_10)) ?_
              refine hW.step rfl rfl rfl (OpV.not rfl) ?_
              refine hW.step rfl rfl rfl (OpV.move rfl) ?_
              refine hW.orQ 106 123 122 (p := ?pz2) (rest := ?qz2) (B := q18_29) rfl (fun hz => orO_t e18_29 hz) ?Tz2 ?Fz2 ?az2 ?bz2 ?cz2 ?dz2 ?ez2
              case Tz2 =>
                intro hcz2 hkz2
                refine hW.skip rfl rfl rfl ?_
                refine hW.skip rfl rfl rfl ?_
                refine hW.skip rfl rfl rfl ?_
                refine hW.skip rfl rfl rfl ?_
                refine hW.skip rfl rfl rfl ?_
                refine hW.skip rfl rfl rfl ?_
                refine hW.skip rfl rfl rfl ?_
                refine hW.skip rfl rfl rfl ?_
                refine hW.skip rfl rfl rfl ?_
                refine hW.skip rfl rfl rfl ?_
                refine hW.skip rfl rfl rfl ?_
                refine hW.skip rfl rfl rfl ?_
                refine hW.skip rfl rfl rfl ?_
                refine hW.skip rfl rfl rfl ?_
                refine hW.skip rfl rfl rfl ?_
                refine hW.skip rfl rfl rfl ?_
                refine hkz2 _ ?_
                repeat (first | exact Sub.refl _ | refine Sub.skip rfl ?_)
              case Fz2 =>
                intro hcz2 hkz2
                have hqz2 := orO_f e18_29 hcz2
                obtain ⟨q18_28, e18_28, hqz2⟩ := bnd hqz2
                obtain rfl := Option.some.inj hqz2
                refine hW.step rfl rfl rfl (OpV.move rfl) ?_
                refine hW.step rfl rfl rfl (OpV.gtr rfl rfl) ?_
                refine hW.step rfl rfl rfl (OpV.move rfl) ?_
                refine hW.andQ 109 122 121 (p := ?pz3) (rest := ?qz3) (B := q18_28) rfl (fun hz => andO_f e18_28 hz) ?Tz3 ?Fz3 ?az3 ?bz3 ?cz3 ?dz3 ?ez3
                case Tz3 =>
                  intro hcz3 hkz3
                  have hqz3 := andO_t e18_28 hcz3
                  obtain ⟨x18_19, e18_19, hqz3⟩ := bnd hqz3
                  obtain ⟨g18_19, o18_19, _, ha18_19, rfl, hd18_19⟩ := Rd.atIdx r0_2 e18_19
                  replace hd18_19 : ∀ (j : Nat) v, ([.int .i64 x18_19] : List Value)[j]? = some v → w.cell? ⟨g18_19, o18_19 + v_2.toNat * 1 + j, .none⟩ = some v := hd18_19
                  obtain ⟨x18_25, e18_25, hqz3⟩ := bnd hqz3
                  obtain ⟨g18_25, o18_25, _, ha18_25, rfl, hd18_25⟩ := Rd.atIdx r0_2 e18_25
                  replace hd18_25 : ∀ (j : Nat) v, ([.int .i64 x18_25] : List Value)[j]? = some v → w.cell? ⟨g18_25, o18_25 + (wr (v_2 - 1)).toNat * 1 + j, .none⟩ = some v := hd18_25
                  obtain rfl := Option.some.inj hqz3
                  refine hW.step rfl rfl rfl (OpV.fieldAddr rfl fo_48_3) ?_
                  refine hW.step rfl rfl rfl (OpV.loadBox rfl pt_23 (.head _) rfl) ?_
                  refine hW.step rfl rfl rfl (OpV.move rfl) ?_
                  refine hW.step rfl rfl rfl (OpV.idxA rfl rfl se_23 ha18_19 ⟨(idx_some e18_19).1, (idx_some e18_19).2.1⟩) ?_
                  refine hW.step rfl rfl rfl (OpV.load1 rfl pt_3 (fun w hs => hs.cell (hd18_19 0 _ rfl))) ?_
                  refine hW.step rfl rfl rfl (OpV.fieldAddr rfl fo_48_3) ?_
                  refine hW.step rfl rfl rfl (OpV.loadBox rfl pt_23 (.head _) rfl) ?_
                  refine hW.step rfl rfl rfl (OpV.move rfl) ?_
                  refine hW.step rfl rfl rfl (OpV.subR rfl rfl) ?_
                  refine hW.step rfl rfl rfl (OpV.idxA rfl rfl se_23 ha18_25 ⟨(idx_some e18_25).1, (idx_some e18_25).2.1⟩) ?_
                  refine hW.step rfl rfl rfl (OpV.load1 rfl pt_3 (fun w hs => hs.cell (hd18_25 0 _ rfl))) ?_
                  refine hW.step rfl rfl rfl (OpV.leq rfl rfl) ?_
                  refine hkz3 _ ?_ ?_
                  exact rfl
                  repeat (first | exact Sub.refl _ | refine Sub.skip rfl ?_)
                case Fz3 =>
                  intro hcz3 hkz3
                  refine hW.skip rfl rfl rfl ?_
                  refine hW.skip rfl rfl rfl ?_
                  refine hW.skip rfl rfl rfl ?_
                  refine hW.skip rfl rfl rfl ?_
                  refine hW.skip rfl rfl rfl ?_
                  refine hW.skip rfl rfl rfl ?_
                  refine hW.skip rfl rfl rfl ?_
                  refine hW.skip rfl rfl rfl ?_
                  refine hW.skip rfl rfl rfl ?_
                  refine hW.skip rfl rfl rfl ?_
                  refine hW.skip rfl rfl rfl ?_
                  refine hW.skip rfl rfl rfl ?_
                  refine hkz3 _ ?_
                  repeat (first | exact Sub.refl _ | refine Sub.skip rfl ?_)
                case az3 => exact rfl
                case bz3 => exact rfl
                case cz3 => exact rfl
                case dz3 => exact rfl
                refine hkz2 _ ?_ ?_
                exact rfl
                repeat (first | exact Sub.refl _ | refine Sub.skip rfl ?_)
              case az2 => exact rfl
              case bz2 => exact rfl
              case cz2 => exact rfl
              case dz2 => exact rfl
              refine hk _ ?_
              refine Sub.cons ?_ (Sub.cons ?_ (Sub.cons ?_ (Sub.cons ?_ (Sub.nil _))))
              all_goals exact rfl
            refine En.next ?_
            refine WC.cond rfl ?_ ?_
            ·
              intro hc_3
              replace zh2 := ifO_t hc_3 zh2
              refine WC.seq ?_
              refine WC.region ?_
              refine Lt.ofWL.step rfl rfl rfl (OpV.assign rfl) ?_
              refine WL.nil ?_
              refine En.next ?_
              refine WC.ret ?_
              refine En.block_ret ?_
              refine En.then_ret ?_
              refine En.then_ret ?_
              refine En.block_ret ?_
              refine En.then_ret ?_
              refine En.ret1 rfl (Res.tmp rfl) ?_
              have hx := exitP ze2 zh2
              subst hx
              replace h := fork_r h
              obtain rfl := Option.some.inj h
              intro w' hs
              exact ⟨rfl, hs.below⟩
            ·
              intro hc_3
              replace zh2 := ifO_f hc_3 zh2
              refine WC.skip ?_
              refine En.block_norm ?_
              refine En.next ?_
              refine WC.region ?_
              refine Lt.ofWL.step rfl rfl rfl (OpV.move rfl) ?_
              refine Lt.ofWL.step rfl rfl rfl (OpV.addR rfl rfl) ?_
              refine Lt.ofWL.step rfl rfl rfl (OpV.assign rfl) ?_
              refine WL.nil ?_
              exact En.backP zb2 zh2 () (Sub.cons rfl (Sub.cons rfl (Sub.cons rfl (Sub.nil _)))) (fun _ h => h)
          ·
            intro hc_2
            replace zh2 := ifO_f hc_2 zh2
            refine WC.exit ?_
            refine En.then_exit ?_
            refine En.then_exit ?_
            have hx := exitP ze2 zh2
            exact En.wk _ _ (Sub.nil _) (fun _ h => (h).sub (.cons _ (.slnil))) (zK2_0 ((), ()) hx.symm)
      ·
        intro zK1_0
        refine WC.loopP (G := Unit) (fun s g => match s, g with | v_1, () => [(1, .pointer (some ⟨b0_0, 0, .none⟩)), (3, .int .i64 (a_p0.Pending.length : Int)), (6, .int .i64 v_1)]) (fun s g => match s, g with | v_1, () => [Chunk.box b0_0 48 [.slice q0_0 a_p0.Pending.length k0_0, .slice q0_1 a_p0.Signalled.length k0_1, .int .i64 a_p0.Next, .slice q0_2 a_p0.Events.length k0_2]]) 0 () ezy1 (by exact Sub.cons rfl (Sub.cons rfl (Sub.cons rfl (Sub.nil _)))) (by exact (fun _ h => h)) ?_
        rintro zm1 v_1 ⟨⟩ zo1 zf1 zb1 ze1
        have zh1 : spec_FlipsOk_L1 a_p0 v_1 = some zo1 := zf1
        unfold spec_FlipsOk_L1 at zh1
        show WC _ _ _ _ _ [(1, .pointer (some ⟨b0_0, 0, .none⟩)), (3, .int .i64 (a_p0.Pending.length : Int)), (6, .int .i64 v_1)] [Chunk.box b0_0 48 [.slice q0_0 a_p0.Pending.length k0_0, .slice q0_1 a_p0.Signalled.length k0_1, .int .i64 a_p0.Next, .slice q0_2 a_p0.Events.length k0_2]]
        refine WC.seq ?_
        refine WC.seq ?_
        refine WC.region ?_
        refine Lt.ofWL.step rfl rfl rfl (OpV.move rfl) ?_
        refine Lt.ofWL.step rfl rfl rfl (OpV.fieldAddr rfl fo_48_1) ?_
        refine Lt.ofWL.step rfl rfl rfl (OpV.loadBox rfl pt_23 (.head _) rfl) ?_
        refine Lt.ofWL.step rfl rfl rfl (OpV.len rfl si_23 rfl) ?_
        refine Lt.ofWL.step rfl rfl rfl (OpV.lss rfl rfl) ?_
        refine WL.nil ?_
        refine En.next ?_
        refine WC.cond rfl ?_ ?_
        ·
          intro hc_4
          replace zh1 := ifO_t hc_4 zh1
          refine WC.skip ?_
          refine En.next ?_
          refine WC.seq ?_
          refine WC.block ?_
          refine WC.seq ?_
          obtain ⟨x13_3, e13_3, zh1⟩ := bnd zh1
          obtain ⟨g13_3, o13_3, _, ha13_3, rfl, hd13_3⟩ := Rd.atIdx r0_1 e13_3
          replace hd13_3 : ∀ (j : Nat) v, ([.int .i64 x13_3] : List Value)[j]? = some v → w.cell? ⟨g13_3, o13_3 + v_1.toNat * 1 + j, .none⟩ = some v := hd13_3
          obtain ⟨x13_5, e13_5, zh1⟩ := bnd zh1
          obtain ⟨q13_24, e13_24, zh1⟩ := bnd zh1
          refine WC.drawn [(1, ?r13v1), (3, ?r13v3), (6, ?r13v6), (86, ?r13v86)] (by kernel_rfl) (by kernel_rfl) ?dH13 ?dK13
          case dH13 =>
            intro W hW hk
            refine hW.step rfl rfl rfl (OpV.fieldAddr rfl fo_48_1) ?_
            refine hW.step rfl rfl rfl (OpV.loadBox rfl pt_23 (.head _) rfl) ?_
            refine hW.step rfl rfl rfl (OpV.move rfl) ?_
            refine hW.step rfl rfl rfl (OpV.idxA rfl rfl se_23 ha13_3 ⟨(idx_some e13_3).1, (idx_some e13_3).2.1⟩) ?_
            refine hW.step rfl rfl rfl (OpV.load1 rfl pt_3 (fun w hs => hs.cell (hd13_3 0 _ rfl))) ?_
            refine hW.step rfl rfl rfl (OpV.call (evs.cons rfl (evs.cons rfl (evs.cons rfl (evs.nil)))) ca_50 (fun w hs => w_spec_l01In e13_5)) ?_
            refine hW.step rfl rfl rfl (OpV.not rfl) ?_
            refine hW.step rfl rfl rfl (OpV.move rfl) ?_
            refine hW.orQ 69 86 85 (p := ?pz4) (rest := ?qz4) (B := q13_24) rfl (fun hz => orO_t e13_24 hz) ?Tz4 ?Fz4 ?az4 ?bz4 ?cz4 ?dz4 ?ez4
            case Tz4 =>
              intro hcz4 hkz4
              refine hW.skip rfl rfl rfl ?_
              refine hW.skip rfl rfl rfl ?_
              refine hW.skip rfl rfl rfl ?_
              refine hW.skip rfl rfl rfl ?_
              refine hW.skip rfl rfl rfl ?_
              refine hW.skip rfl rfl rfl ?_
              refine hW.skip rfl rfl rfl ?_
              refine hW.skip rfl rfl rfl ?_
              refine hW.skip rfl rfl rfl ?_
              refine hW.skip rfl rfl rfl ?_
              refine hW.skip rfl rfl rfl ?_
              refine hW.skip rfl rfl rfl ?_
              refine hW.skip rfl rfl rfl ?_
              refine hW.skip rfl rfl rfl ?_
              refine hW.skip rfl rfl rfl ?_
              refine hW.skip rfl rfl rfl ?_
              refine hkz4 _ ?_
              repeat (first | exact Sub.refl _ | refine Sub.skip rfl ?_)
            case Fz4 =>
              intro hcz4 hkz4
              have hqz4 := orO_f e13_24 hcz4
              obtain ⟨q13_23, e13_23, hqz4⟩ := bnd hqz4
              obtain rfl := Option.some.inj hqz4
              refine hW.step rfl rfl rfl (OpV.move rfl) ?_
              refine hW.step rfl rfl rfl (OpV.gtr rfl rfl) ?_
              refine hW.step rfl rfl rfl (OpV.move rfl) ?_
              refine hW.andQ 72 85 84 (p := ?pz5) (rest := ?qz5) (B := q13_23) rfl (fun hz => andO_f e13_23 hz) ?Tz5 ?Fz5 ?az5 ?bz5 ?cz5 ?dz5 ?ez5
              case Tz5 =>
                intro hcz5 hkz5
                have hqz5 := andO_t e13_23 hcz5
                obtain ⟨x13_14, e13_14, hqz5⟩ := bnd hqz5
                obtain ⟨g13_14, o13_14, _, ha13_14, rfl, hd13_14⟩ := Rd.atIdx r0_1 e13_14
                replace hd13_14 : ∀ (j : Nat) v, ([.int .i64 x13_14] : List Value)[j]? = some v → w.cell? ⟨g13_14, o13_14 + v_1.toNat * 1 + j, .none⟩ = some v := hd13_14
                obtain ⟨x13_20, e13_20, hqz5⟩ := bnd hqz5
                obtain ⟨g13_20, o13_20, _, ha13_20, rfl, hd13_20⟩ := Rd.atIdx r0_1 e13_20
                replace hd13_20 : ∀ (j : Nat) v, ([.int .i64 x13_20] : List Value)[j]? = some v → w.cell? ⟨g13_20, o13_20 + (wr (v_1 - 1)).toNat * 1 + j, .none⟩ = some v := hd13_20
                obtain rfl := Option.some.inj hqz5
                refine hW.step rfl rfl rfl (OpV.fieldAddr rfl fo_48_1) ?_
                refine hW.step rfl rfl rfl (OpV.loadBox rfl pt_23 (.head _) rfl) ?_
                refine hW.step rfl rfl rfl (OpV.move rfl) ?_
                refine hW.step rfl rfl rfl (OpV.idxA rfl rfl se_23 ha13_14 ⟨(idx_some e13_14).1, (idx_some e13_14).2.1⟩) ?_
                refine hW.step rfl rfl rfl (OpV.load1 rfl pt_3 (fun w hs => hs.cell (hd13_14 0 _ rfl))) ?_
                refine hW.step rfl rfl rfl (OpV.fieldAddr rfl fo_48_1) ?_
                refine hW.step rfl rfl rfl (OpV.loadBox rfl pt_23 (.head _) rfl) ?_
                refine hW.step rfl rfl rfl (OpV.move rfl) ?_
                refine hW.step rfl rfl rfl (OpV.subR rfl rfl) ?_
                refine hW.step rfl rfl rfl (OpV.idxA rfl rfl se_23 ha13_20 ⟨(idx_some e13_20).1, (idx_some e13_20).2.1⟩) ?_
                refine hW.step rfl rfl rfl (OpV.load1 rfl pt_3 (fun w hs => hs.cell (hd13_20 0 _ rfl))) ?_
                refine hW.step rfl rfl rfl (OpV.leq rfl rfl) ?_
                refine hkz5 _ ?_ ?_
                exact rfl
                repeat (first | exact Sub.refl _ | refine Sub.skip rfl ?_)
              case Fz5 =>
                intro hcz5 hkz5
                refine hW.skip rfl rfl rfl ?_
                refine hW.skip rfl rfl rfl ?_
                refine hW.skip rfl rfl rfl ?_
                refine hW.skip rfl rfl rfl ?_
                refine hW.skip rfl rfl rfl ?_
                refine hW.skip rfl rfl rfl ?_
                refine hW.skip rfl rfl rfl ?_
                refine hW.skip rfl rfl rfl ?_
                refine hW.skip rfl rfl rfl ?_
                refine hW.skip rfl rfl rfl ?_
                refine hW.skip rfl rfl rfl ?_
                refine hW.skip rfl rfl rfl ?_
                refine hkz5 _ ?_
                repeat (first | exact Sub.refl _ | refine Sub.skip rfl ?_)
              case az5 => exact rfl
              case bz5 => exact rfl
              case cz5 => exact rfl
              case dz5 => exact rfl
              refine hkz4 _ ?_ ?_
              exact rfl
              repeat (first | exact Sub.refl _ | refine Sub.skip rfl ?_)
            case az4 => exact rfl
            case bz4 => exact rfl
            case cz4 => exact rfl
            case dz4 => exact rfl
            refine hk _ ?_
            refine Sub.cons ?_ (Sub.cons ?_ (Sub.cons ?_ (Sub.cons ?_ (Sub.nil _))))
            all_goals exact rfl
          refine En.next ?_
          refine WC.cond rfl ?_ ?_
          ·
            intro hc_5
            replace zh1 := ifO_t hc_5 zh1
            refine WC.seq ?_
            refine WC.region ?_
            refine Lt.ofWL.step rfl rfl rfl (OpV.assign rfl) ?_
            refine WL.nil ?_
            refine En.next ?_
            refine WC.ret ?_
            refine En.block_ret ?_
            refine En.then_ret ?_
            refine En.then_ret ?_
            refine En.block_ret ?_
            refine En.then_ret ?_
            refine En.ret1 rfl (Res.tmp rfl) ?_
            have hx := exitP ze1 zh1
            subst hx
            replace h := fork_r h
            obtain rfl := Option.some.inj h
            intro w' hs
            exact ⟨rfl, hs.below⟩
          ·
            intro hc_5
            replace zh1 := ifO_f hc_5 zh1
            refine WC.skip ?_
            refine En.block_norm ?_
            refine En.next ?_
            refine WC.region ?_
            refine Lt.ofWL.step rfl rfl rfl (OpV.move rfl) ?_
            refine Lt.ofWL.step rfl rfl rfl (OpV.addR rfl rfl) ?_
            refine Lt.ofWL.step rfl rfl rfl (OpV.assign rfl) ?_
            refine WL.nil ?_
            exact En.backP zb1 zh1 () (Sub.cons rfl (Sub.cons rfl (Sub.cons rfl (Sub.nil _)))) (fun _ h => h)
        ·
          intro hc_4
          replace zh1 := ifO_f hc_4 zh1
          refine WC.exit ?_
          refine En.then_exit ?_
          refine En.then_exit ?_
          have hx := exitP ze1 zh1
          exact En.wk _ _ (Sub.cons rfl (Sub.cons rfl (Sub.nil _))) (fun _ h => h) (zK1_0 ((), ()) hx.symm)
    ·
      intro zK0_0
      refine WC.loopP (G := Unit) (fun s g => match s, g with | v_0, () => [(1, .pointer (some ⟨b0_0, 0, .none⟩)), (3, .int .i64 (a_p0.Pending.length : Int)), (4, .int .i64 v_0)]) (fun s g => match s, g with | v_0, () => [Chunk.box b0_0 48 [.slice q0_0 a_p0.Pending.length k0_0, .slice q0_1 a_p0.Signalled.length k0_1, .int .i64 a_p0.Next, .slice q0_2 a_p0.Events.length k0_2]]) 0 () ezy0 (by exact Sub.cons rfl (Sub.cons rfl (Sub.cons rfl (Sub.nil _)))) (by exact (fun _ h => h)) ?_
      rintro zm0 v_0 ⟨⟩ zo0 zf0 zb0 ze0
      have zh0 : spec_FlipsOk_L0 a_p0 v_0 = some zo0 := zf0
      unfold spec_FlipsOk_L0 at zh0
      show WC _ _ _ _ _ [(1, .pointer (some ⟨b0_0, 0, .none⟩)), (3, .int .i64 (a_p0.Pending.length : Int)), (4, .int .i64 v_0)] [Chunk.box b0_0 48 [.slice q0_0 a_p0.Pending.length k0_0, .slice q0_1 a_p0.Signalled.length k0_1, .int .i64 a_p0.Next, .slice q0_2 a_p0.Events.length k0_2]]
      refine WC.seq ?_
      refine WC.seq ?_
      refine WC.region ?_
      refine Lt.ofWL.step rfl rfl rfl (OpV.move rfl) ?_
      refine Lt.ofWL.step rfl rfl rfl (OpV.move rfl) ?_
      refine Lt.ofWL.step rfl rfl rfl (OpV.lss rfl rfl) ?_
      refine WL.nil ?_
      refine En.next ?_
      refine WC.cond rfl ?_ ?_
      ·
        intro hc_6
        replace zh0 := ifO_t hc_6 zh0
        refine WC.skip ?_
        refine En.next ?_
        refine WC.seq ?_
        refine WC.block ?_
        refine WC.seq ?_
        obtain ⟨x7_3, e7_3, zh0⟩ := bnd zh0
        obtain ⟨g7_3, o7_3, _, ha7_3, ⟨a7_3_1, c7_3_1, a7_3_2, c7_3_2, a7_3_3, c7_3_3, rfl, r7_3_1, r7_3_2, r7_3_3⟩, hd7_3⟩ := Rd.atIdx r0_0 e7_3
        replace hd7_3 : ∀ (j : Nat) v, ([.int .i64 x7_3.Seq, .int .i64 x7_3.Fence, .int .i64 x7_3.State.W, .int .i64 x7_3.State.H, .slice a7_3_1 x7_3.State.Planes.length c7_3_1, .slice a7_3_2 x7_3.State.Color.Matrix.length c7_3_2, .slice a7_3_3 x7_3.State.Color.Curve.length c7_3_3] : List Value)[j]? = some v → w.cell? ⟨g7_3, o7_3 + v_0.toNat * 7 + j, .none⟩ = some v := hd7_3
        refine WC.region ?_
        refine Lt.ofWL.step rfl rfl rfl (OpV.fieldAddr rfl fo_48_0) ?_
        refine Lt.ofWL.step rfl rfl rfl (OpV.loadBox rfl pt_46 (.head _) rfl) ?_
        refine Lt.ofWL.step rfl rfl rfl (OpV.move rfl) ?_
        refine Lt.ofWL.step rfl rfl rfl (OpV.idxA rfl rfl se_46 ha7_3 ⟨(idx_some e7_3).1, (idx_some e7_3).2.1⟩) ?_
        refine Lt.ofWL.step rfl rfl rfl (OpV.loadN rfl ag_80 rfl (fun w hs => hs.cellsAt hd7_3)) ?_
        refine WL.heavy rfl rfl rfl (OpH.alloc zc_80 ?_)
        intro b7_5
        refine WL.heavy0 rfl rfl (OpH.storeTo (A := []) [_, _, _, _, _, _, _] rfl rfl rfl ts_80 rfl rfl rfl ?_)
        refine WL.nil ?_
        refine En.next ?_
        refine WC.seq ?_
        obtain ⟨x8_2, e8_2, zh0⟩ := bnd zh0
        obtain ⟨q8_25, e8_25, zh0⟩ := bnd zh0
        refine WC.region ?_
        refine Lt.ofWL.step rfl rfl rfl (OpV.fieldAddr rfl fo_80_2) ?_
        refine Lt.ofWL.step rfl rfl rfl (OpV.loadPart rfl (.head _) ag_33 rfl rfl) ?_
        refine Lt.ofWL.step rfl rfl rfl (OpV.call (evs.cons rfl (evs.nil)) ca_9 (fun w hs => w_spec_CrtcOk e8_2 (r7_3_1.ext hs.below) (r7_3_2.ext hs.below) (r7_3_3.ext hs.below))) ?_
        refine Lt.ofWL.step rfl rfl rfl (OpV.not rfl) ?_
        refine Lt.ofWL.step rfl rfl rfl (OpV.move rfl) ?_
        refine Lt.ofWL.or 33 43 42 (p := ?pz6) (rest := ?qz6) (B := ?Bz6) rfl ?Tz6 ?Fz6 ?az6 ?bz6 ?cz6 ?dz6 ?ez6
        case Tz6 =>
          intro hcz6 hkz6
          refine Lt.ofWL.skip rfl rfl rfl ?_
          refine Lt.ofWL.skip rfl rfl rfl ?_
          refine Lt.ofWL.skip rfl rfl rfl ?_
          refine Lt.ofWL.skip rfl rfl rfl ?_
          refine Lt.ofWL.skip rfl rfl rfl ?_
          refine Lt.ofWL.skip rfl rfl rfl ?_
          refine Lt.ofWL.skip rfl rfl rfl ?_
          refine Lt.ofWL.skip rfl rfl rfl ?_
          refine Lt.ofWL.skip rfl rfl rfl ?_
          refine hkz6 _ ?_
          repeat (first | exact Sub.refl _ | refine Sub.skip rfl ?_)
        case Fz6 =>
          intro hcz6 hkz6
          refine Lt.ofWL.step rfl rfl rfl (OpV.fieldAddr rfl fo_80_0) ?_
          refine Lt.ofWL.step rfl rfl rfl (OpV.loadBox rfl pt_3 (.head _) rfl) ?_
          refine Lt.ofWL.step rfl rfl rfl (OpV.fieldAddr rfl fo_48_2) ?_
          refine Lt.ofWL.step rfl rfl rfl (OpV.loadBox rfl pt_3 (.tail _ (.head _)) rfl) ?_
          refine Lt.ofWL.step rfl rfl rfl (OpV.move rfl) ?_
          refine Lt.ofWL.step rfl rfl rfl (OpV.subR rfl rfl) ?_
          refine Lt.ofWL.step rfl rfl rfl (OpV.move rfl) ?_
          refine Lt.ofWL.step rfl rfl rfl (OpV.addR rfl rfl) ?_
          refine Lt.ofWL.step rfl rfl rfl (OpV.neq rfl rfl) ?_
          refine hkz6 _ ?_ ?_
          exact rfl
          repeat (first | exact Sub.refl _ | refine Sub.skip rfl ?_)
        case az6 => exact rfl
        case bz6 => exact rfl
        case cz6 => exact rfl
        case dz6 => exact rfl
        refine Lt.ofWL.step rfl rfl rfl (OpV.move rfl) ?_
        refine Lt.ofWL.or 44 48 47 (p := ?pz7) (rest := ?qz7) (B := ?Bz7) rfl ?Tz7 ?Fz7 ?az7 ?bz7 ?cz7 ?dz7 ?ez7
        case Tz7 =>
          intro hcz7 hkz7
          refine Lt.ofWL.skip rfl rfl rfl ?_
          refine Lt.ofWL.skip rfl rfl rfl ?_
          refine Lt.ofWL.skip rfl rfl rfl ?_
          refine hkz7 _ ?_
          repeat (first | exact Sub.refl _ | refine Sub.skip rfl ?_)
        case Fz7 =>
          intro hcz7 hkz7
          refine Lt.ofWL.step rfl rfl rfl (OpV.fieldAddr rfl fo_80_0) ?_
          refine Lt.ofWL.step rfl rfl rfl (OpV.loadBox rfl pt_3 (.head _) rfl) ?_
          refine Lt.ofWL.step rfl rfl rfl (OpV.lss rfl rfl) ?_
          refine hkz7 _ ?_ ?_
          exact rfl
          repeat (first | exact Sub.refl _ | refine Sub.skip rfl ?_)
        case az7 => exact rfl
        case bz7 => exact rfl
        case cz7 => exact rfl
        case dz7 => exact rfl
        refine Lt.ofWL.step rfl rfl rfl (OpV.move rfl) ?_
        refine Lt.ofWL.orQ 49 54 53 (p := ?pz8) (rest := ?qz8) (B := q8_25) rfl (fun hz => orO_t e8_25 hz) ?Tz8 ?Fz8 ?az8 ?bz8 ?cz8 ?dz8 ?ez8
        case Tz8 =>
          intro hcz8 hkz8
          refine Lt.ofWL.skip rfl rfl rfl ?_
          refine Lt.ofWL.skip rfl rfl rfl ?_
          refine Lt.ofWL.skip rfl rfl rfl ?_
          refine Lt.ofWL.skip rfl rfl rfl ?_
          refine hkz8 _ ?_
          repeat (first | exact Sub.refl _ | refine Sub.skip rfl ?_)
        case Fz8 =>
          intro hcz8 hkz8
          have hqz8 := orO_f e8_25 hcz8
          obtain ⟨x8_23, e8_23, hqz8⟩ := bnd hqz8
          obtain rfl := Option.some.inj hqz8
          refine Lt.ofWL.step rfl rfl rfl (OpV.fieldAddr rfl fo_80_1) ?_
          refine Lt.ofWL.step rfl rfl rfl (OpV.loadBox rfl pt_3 (.head _) rfl) ?_
          refine Lt.ofWL.step rfl rfl rfl (OpV.call (evs.cons rfl (evs.cons rfl (evs.cons rfl (evs.nil)))) ca_50 (fun w hs => w_spec_l01In e8_23)) ?_
          refine Lt.ofWL.step rfl rfl rfl (OpV.not rfl) ?_
          refine hkz8 _ ?_ ?_
          exact rfl
          repeat (first | exact Sub.refl _ | refine Sub.skip rfl ?_)
        case az8 => exact rfl
        case bz8 => exact rfl
        case cz8 => exact rfl
        case dz8 => exact rfl
        refine WL.nil ?_
        refine En.next ?_
        refine WC.cond rfl ?_ ?_
        ·
          intro hc_7
          replace zh0 := ifO_t hc_7 zh0
          refine WC.seq ?_
          refine WC.region ?_
          refine Lt.ofWL.step rfl rfl rfl (OpV.assign rfl) ?_
          refine WL.nil ?_
          refine En.next ?_
          refine WC.ret ?_
          refine En.block_ret ?_
          refine En.then_ret ?_
          refine En.then_ret ?_
          refine En.block_ret ?_
          refine En.then_ret ?_
          refine En.ret1 rfl (Res.tmp rfl) ?_
          have hx := exitP ze0 zh0
          subst hx
          replace h := fork_r h
          obtain rfl := Option.some.inj h
          intro w' hs
          exact ⟨rfl, hs.below⟩
        ·
          intro hc_7
          replace zh0 := ifO_f hc_7 zh0
          refine WC.skip ?_
          refine En.block_norm ?_
          refine En.next ?_
          refine WC.region ?_
          refine Lt.ofWL.step rfl rfl rfl (OpV.move rfl) ?_
          refine Lt.ofWL.step rfl rfl rfl (OpV.addR rfl rfl) ?_
          refine Lt.ofWL.step rfl rfl rfl (OpV.assign rfl) ?_
          refine WL.nil ?_
          exact En.backP zb0 zh0 () (Sub.cons rfl (Sub.cons rfl (Sub.cons rfl (Sub.nil _)))) (fun _ h => ((h).perm (List.perm_middle (l₁ := [_]))).sub (.cons_cons _ (.cons _ (.slnil))))
      ·
        intro hc_6
        replace zh0 := ifO_f hc_6 zh0
        refine WC.exit ?_
        refine En.then_exit ?_
        refine En.then_exit ?_
        have hx := exitP ze0 zh0
        exact En.wk _ _ (Sub.cons rfl (Sub.cons rfl (Sub.nil _))) (fun _ h => h) (zK0_0 ((), ()) hx.symm)

theorem w_impl_ascendingWithin {list_p0 : List Int} {low_p1 : Int} {high_p2 : Int} {r : Bool} {q0_0 : Option Addr} {n0_0 k0_0 : Nat} (h : impl_ascendingWithin list_p0 low_p1 high_p2 = some r) {w : World} (r0_0 : Rd tInt w q0_0 n0_0 k0_0 list_p0)   :
    Calls Try.prog 54 #[.slice q0_0 n0_0 k0_0, .int .i64 low_p1, .int .i64 high_p2] w (fun en w' => en = .returned (.bool r) ∧ Ext w w') := by
  obtain rfl := r0_0.1
  unfold impl_ascendingWithin at h
  refine enter (vs := [_, _, _]) Try.func54 rfl rfl rfl rfl ?_
  refine WC.seq ?_
  refine WC.region ?_
  refine Lt.ofWL.step rfl rfl rfl (OpV.assign rfl) ?_
  refine WL.nil ?_
  refine En.next ?_
  refine WC.seq ?_
  refine WC.seq ?_
  refine WC.region ?_
  refine Lt.ofWL.step rfl rfl rfl (OpV.move rfl) ?_
  refine Lt.ofWL.step rfl rfl rfl (OpV.len rfl si_23 rfl) ?_
  refine Lt.ofWL.step rfl rfl rfl (OpV.move rfl) ?_
  refine WL.nil ?_
  refine En.next ?_
  refine WC.block ?_
  obtain ⟨zy0, ezy0, h⟩ := bnd h
  refine WC.cut (X := (Unit) × (Unit)) (.exit 0) (fun x => zy0 = .inl x.1) (fun x => match x with | ((), ()) => []) (fun x => match x with | ((), ()) => []) ?_ ?_
  ·
    rintro ⟨⟨⟩, ⟨⟩⟩ hx
    replace hx : .inl () = zy0 := hx.symm
    subst hx
    replace h := fork_l h
    show En _ _ _ _ [] []
    refine En.block_exit ?_
    refine En.next ?_
    refine WC.seq ?_
    refine WC.region ?_
    refine Lt.ofWL.step rfl rfl rfl (OpV.assign rfl) ?_
    refine WL.nil ?_
    refine En.next ?_
    refine WC.ret ?_
    refine En.ret1 rfl (Res.tmp rfl) ?_
    obtain rfl := Option.some.inj h
    intro w' hs
    exact ⟨rfl, hs.below⟩
  ·
    intro zK0_0
    refine WC.loopP (G := Unit) (fun s g => match s, g with | v_0, () => [(0, .slice q0_0 list_p0.length k0_0), (1, .int .i64 low_p1), (2, .int .i64 high_p2), (9, .slice q0_0 list_p0.length k0_0), (10, .int .i64 (list_p0.length : Int)), (11, .int .i64 v_0)]) (fun s g => match s, g with | v_0, () => []) 0 () ezy0 (by exact Sub.cons rfl (Sub.cons rfl (Sub.cons rfl (Sub.cons rfl (Sub.cons rfl (Sub.cons rfl (Sub.nil _))))))) (by exact (fun _ h => h)) ?_
    rintro zm0 v_0 ⟨⟩ zo0 zf0 zb0 ze0
    have zh0 : impl_ascendingWithin_L0 list_p0 low_p1 high_p2 v_0 = some zo0 := zf0
    unfold impl_ascendingWithin_L0 at zh0
    show WC _ _ _ _ _ [(0, .slice q0_0 list_p0.length k0_0), (1, .int .i64 low_p1), (2, .int .i64 high_p2), (9, .slice q0_0 list_p0.length k0_0), (10, .int .i64 (list_p0.length : Int)), (11, .int .i64 v_0)] []
    refine WC.seq ?_
    refine WC.region ?_
    refine Lt.ofWL.step rfl rfl rfl (OpV.lss rfl rfl) ?_
    refine WL.nil ?_
    refine En.next ?_
    refine WC.seq ?_
    refine WC.cond rfl ?_ ?_
    ·
      intro hc_1
      replace zh0 := ifO_t hc_1 zh0
      refine WC.skip ?_
      refine En.next ?_
      refine WC.seq ?_
      refine WC.block ?_
      refine WC.seq ?_
      obtain ⟨x3_1, e3_1, zh0⟩ := bnd zh0
      obtain ⟨g3_1, o3_1, _, ha3_1, rfl, hd3_1⟩ := Rd.atIdx r0_0 e3_1
      replace hd3_1 : ∀ (j : Nat) v, ([.int .i64 x3_1] : List Value)[j]? = some v → w.cell? ⟨g3_1, o3_1 + v_0.toNat * 1 + j, .none⟩ = some v := hd3_1
      refine WC.region ?_
      refine Lt.ofWL.step rfl rfl rfl (OpV.move rfl) ?_
      refine Lt.ofWL.step rfl rfl rfl (OpV.idxA rfl rfl se_23 ha3_1 ⟨(idx_some e3_1).1, (idx_some e3_1).2.1⟩) ?_
      refine Lt.ofWL.step rfl rfl rfl (OpV.load1 rfl pt_3 (fun w hs => hs.cell (hd3_1 0 _ rfl))) ?_
      refine Lt.ofWL.step rfl rfl rfl (OpV.assign rfl) ?_
      refine Lt.ofWL.step rfl rfl rfl (OpV.assign rfl) ?_
      refine WL.nil ?_
      refine En.next ?_
      refine WC.seq ?_
      obtain ⟨x4_3, e4_3, zh0⟩ := bnd zh0
      obtain ⟨q4_17, e4_17, zh0⟩ := bnd zh0
      refine WC.region ?_
      refine Lt.ofWL.step rfl rfl rfl (OpV.move rfl) ?_
      refine Lt.ofWL.step rfl rfl rfl (OpV.move rfl) ?_
      refine Lt.ofWL.step rfl rfl rfl (OpV.move rfl) ?_
      refine Lt.ofWL.step rfl rfl rfl (OpV.call (evs.cons rfl (evs.cons rfl (evs.cons rfl (evs.nil)))) ca_53 (fun w hs => w_impl_within e4_3)) ?_
      refine Lt.ofWL.step rfl rfl rfl (OpV.not rfl) ?_
      refine Lt.ofWL.step rfl rfl rfl (OpV.move rfl) ?_
      refine Lt.ofWL.orQ 21 33 32 (p := ?pz1) (rest := ?qz1) (B := q4_17) rfl (fun hz => orO_t e4_17 hz) ?Tz1 ?Fz1 ?az1 ?bz1 ?cz1 ?dz1 ?ez1
      case Tz1 =>
        intro hcz1 hkz1
        refine Lt.ofWL.skip rfl rfl rfl ?_
        refine Lt.ofWL.skip rfl rfl rfl ?_
        refine Lt.ofWL.skip rfl rfl rfl ?_
        refine Lt.ofWL.skip rfl rfl rfl ?_
        refine Lt.ofWL.skip rfl rfl rfl ?_
        refine Lt.ofWL.skip rfl rfl rfl ?_
        refine Lt.ofWL.skip rfl rfl rfl ?_
        refine Lt.ofWL.skip rfl rfl rfl ?_
        refine Lt.ofWL.skip rfl rfl rfl ?_
        refine Lt.ofWL.skip rfl rfl rfl ?_
        refine Lt.ofWL.skip rfl rfl rfl ?_
        refine hkz1 _ ?_
        repeat (first | exact Sub.refl _ | refine Sub.skip rfl ?_)
      case Fz1 =>
        intro hcz1 hkz1
        have hqz1 := orO_f e4_17 hcz1
        obtain ⟨q4_16, e4_16, hqz1⟩ := bnd hqz1
        obtain rfl := Option.some.inj hqz1
        refine Lt.ofWL.step rfl rfl rfl (OpV.move rfl) ?_
        refine Lt.ofWL.step rfl rfl rfl (OpV.gtr rfl rfl) ?_
        refine Lt.ofWL.step rfl rfl rfl (OpV.move rfl) ?_
        refine Lt.ofWL.andQ 24 32 31 (p := ?pz2) (rest := ?qz2) (B := q4_16) rfl (fun hz => andO_f e4_16 hz) ?Tz2 ?Fz2 ?az2 ?bz2 ?cz2 ?dz2 ?ez2
        case Tz2 =>
          intro hcz2 hkz2
          have hqz2 := andO_t e4_16 hcz2
          obtain ⟨x4_12, e4_12, hqz2⟩ := bnd hqz2
          obtain ⟨g4_12, o4_12, _, ha4_12, rfl, hd4_12⟩ := Rd.atIdx r0_0 e4_12
          replace hd4_12 : ∀ (j : Nat) v, ([.int .i64 x4_12] : List Value)[j]? = some v → w.cell? ⟨g4_12, o4_12 + (wr (v_0 - 1)).toNat * 1 + j, .none⟩ = some v := hd4_12
          obtain rfl := Option.some.inj hqz2
          refine Lt.ofWL.step rfl rfl rfl (OpV.move rfl) ?_
          refine Lt.ofWL.step rfl rfl rfl (OpV.move rfl) ?_
          refine Lt.ofWL.step rfl rfl rfl (OpV.subR rfl rfl) ?_
          refine Lt.ofWL.step rfl rfl rfl (OpV.idxA rfl rfl se_23 ha4_12 ⟨(idx_some e4_12).1, (idx_some e4_12).2.1⟩) ?_
          refine Lt.ofWL.step rfl rfl rfl (OpV.load1 rfl pt_3 (fun w hs => hs.cell (hd4_12 0 _ rfl))) ?_
          refine Lt.ofWL.step rfl rfl rfl (OpV.move rfl) ?_
          refine Lt.ofWL.step rfl rfl rfl (OpV.geq rfl rfl) ?_
          refine hkz2 _ ?_ ?_
          exact rfl
          repeat (first | exact Sub.refl _ | refine Sub.skip rfl ?_)
        case Fz2 =>
          intro hcz2 hkz2
          refine Lt.ofWL.skip rfl rfl rfl ?_
          refine Lt.ofWL.skip rfl rfl rfl ?_
          refine Lt.ofWL.skip rfl rfl rfl ?_
          refine Lt.ofWL.skip rfl rfl rfl ?_
          refine Lt.ofWL.skip rfl rfl rfl ?_
          refine Lt.ofWL.skip rfl rfl rfl ?_
          refine Lt.ofWL.skip rfl rfl rfl ?_
          refine hkz2 _ ?_
          repeat (first | exact Sub.refl _ | refine Sub.skip rfl ?_)
        case az2 => exact rfl
        case bz2 => exact rfl
        case cz2 => exact rfl
        case dz2 => exact rfl
        refine hkz1 _ ?_ ?_
        exact rfl
        repeat (first | exact Sub.refl _ | refine Sub.skip rfl ?_)
      case az1 => exact rfl
      case bz1 => exact rfl
      case cz1 => exact rfl
      case dz1 => exact rfl
      refine WL.nil ?_
      refine En.next ?_
      refine WC.cond rfl ?_ ?_
      ·
        intro hc_2
        replace zh0 := ifO_t hc_2 zh0
        refine WC.seq ?_
        refine WC.region ?_
        refine Lt.ofWL.step rfl rfl rfl (OpV.assign rfl) ?_
        refine WL.nil ?_
        refine En.next ?_
        refine WC.ret ?_
        refine En.block_ret ?_
        refine En.then_ret ?_
        refine En.then_ret ?_
        refine En.block_ret ?_
        refine En.then_ret ?_
        refine En.ret1 rfl (Res.tmp rfl) ?_
        have hx := exitP ze0 zh0
        subst hx
        replace h := fork_r h
        obtain rfl := Option.some.inj h
        intro w' hs
        exact ⟨rfl, hs.below⟩
      ·
        intro hc_2
        replace zh0 := ifO_f hc_2 zh0
        refine WC.skip ?_
        refine En.block_norm ?_
        refine En.next ?_
        refine WC.region ?_
        refine Lt.ofWL.step rfl rfl rfl (OpV.addR rfl rfl) ?_
        refine Lt.ofWL.step rfl rfl rfl (OpV.move rfl) ?_
        refine WL.nil ?_
        exact En.backP zb0 zh0 () (Sub.cons rfl (Sub.cons rfl (Sub.cons rfl (Sub.cons rfl (Sub.cons rfl (Sub.cons rfl (Sub.nil _))))))) (fun _ h => h)
    ·
      intro hc_1
      replace zh0 := ifO_f hc_1 zh0
      refine WC.exit ?_
      refine En.then_exit ?_
      refine En.then_exit ?_
      have hx := exitP ze0 zh0
      exact En.wk _ _ (Sub.nil _) (fun _ h => h) (zK0_0 ((), ()) hx.symm)

end Go.Proofs.Ytdbnoiiacpmbpaa
