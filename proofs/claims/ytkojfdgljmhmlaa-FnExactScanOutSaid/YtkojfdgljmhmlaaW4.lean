/- Walks: the program computes the pure functions. -/
import Derived.Test.YtkojfdgljmhmlaaW3
namespace Go.Proofs.Ytkojfdgljmhmlaa
open Go.RowKit K
set_option maxRecDepth 100000
set_option maxHeartbeats 4000000

theorem w_spec_l20Out {a_p0 : List PlaneT} {a_p1 : Int} {a_p2 : Int} {r : ImageT} {q0_0 : Option Addr} {n0_0 k0_0 : Nat} (h : spec_l20Out a_p0 a_p1 a_p2 = some r) {w : World} (r0_0 : Rd tPlane w q0_0 n0_0 k0_0 a_p0)   :
    Calls Try.prog 118 #[.slice q0_0 n0_0 k0_0, .int .i64 a_p1, .int .i64 a_p2] w (fun en w' => ∃ rv G, en = .returned rv ∧ (∃ (a0_0 : Option Addr) (n0_0 : Nat) (c0_0 : Nat) (f0_0 : List Nat), rv = .agg #[.int .i64 r.W, .int .i64 r.H, .slice a0_0 n0_0 c0_0] ∧ G = [Chunk.own tInt f0_0 a0_0 n0_0 c0_0 r.Data]) ∧ St w G w') := by
  obtain rfl := r0_0.1
  unfold spec_l20Out at h
  refine enter (vs := [_, _, _]) Try.func118 rfl rfl rfl rfl ?_
  refine WC.seq ?_
  refine WC.region ?_
  refine WL.heavy rfl rfl rfl (OpH.alloc zc_36 ?_)
  intro b0_0
  refine WL.nil ?_
  refine En.next ?_
  refine WC.seq ?_
  obtain ⟨x1_1, e1_1, h⟩ := bnd h
  obtain ⟨g1_1, o1_1, _, ha1_1, ⟨a1_1_1, c1_1_1, rfl, r1_1_1⟩, hd1_1⟩ := Rd.atIdx r0_0 e1_1
  replace hd1_1 : ∀ (j : Nat) v, ([.bool x1_1.On, .int .i64 x1_1.X, .int .i64 x1_1.Y, .int .i64 x1_1.W, .int .i64 x1_1.H, .int .i64 x1_1.Layout, .slice a1_1_1 x1_1.Words.length c1_1_1, .int .i64 x1_1.Alpha, .int .i64 x1_1.Orient, .int .i64 x1_1.ToW, .int .i64 x1_1.ToH] : List Value)[j]? = some v → w.cell? ⟨g1_1, o1_1 + (Int.toNat 0) * 11 + j, .none⟩ = some v := hd1_1
  obtain ⟨⟨x1_3a, x1_3b⟩, e1_3, h⟩ := bnd h
  refine WC.region ?_
  refine Lt.ofWL.step rfl rfl rfl (OpV.move rfl) ?_
  refine Lt.ofWL.step rfl rfl rfl (OpV.idxA rfl rfl se_53 ha1_1 ⟨(idx_some e1_1).1, (idx_some e1_1).2.1⟩) ?_
  refine Lt.ofWL.step rfl rfl rfl (OpV.loadN rfl ag_57 rfl (fun w hs => hs.cellsAt hd1_1)) ?_
  refine WL.heavy rfl rfl rfl (OpH.callR (evs.cons rfl (evs.nil)) ca_40 (fun w hs => w_spec_PlaneImage e1_3 (r1_1_1.ext hs.below)) ?_)
  rintro _ _ ⟨a1_300, n1_300, c1_300, f1_300, rfl, rfl⟩
  refine Lt.ofWL.step rfl rfl rfl (OpV.move rfl) ?_
  refine Lt.ofWL.step rfl rfl rfl (OpV.extract rfl rfl) ?_
  refine Lt.ofWL.step rfl rfl rfl (OpV.extract rfl rfl) ?_
  refine WL.heavy rfl rfl rfl (OpH.alloc zc_36 ?_)
  intro b1_7
  refine WL.heavy0 rfl rfl (OpH.storeTo (A := []) [_, _, _] rfl rfl rfl ts_36 rfl rfl rfl ?_)
  refine Lt.ofWL.step rfl rfl rfl (OpV.assign rfl) ?_
  refine WL.nil ?_
  refine En.next ?_
  refine WC.seq ?_
  refine WC.seq ?_
  refine WC.region ?_
  refine Lt.ofWL.step rfl rfl rfl (OpV.assign rfl) ?_
  refine WL.nil ?_
  refine En.next ?_
  refine WC.block ?_
  obtain ⟨zy0, ezy0, h⟩ := bnd h
  refine WC.cut (X := ((List Int)) × ((List Nat))) (.exit 0) (fun x => zy0 = x.1) (fun x => match x with | (x_0e, fx_0e) => [(6, .pointer (some ⟨b0_0, 0, .none⟩)), (7, .pointer (some ⟨b1_7, 0, .none⟩))]) (fun x => match x with | (x_0e, fx_0e) => [Chunk.box b0_0 36 [.int .i64 0, .int .i64 0, .slice .none 0 0], Chunk.box b1_7 36 [.int .i64 x1_3a.W, .int .i64 x1_3a.H, .slice a1_300 n1_300 c1_300], Chunk.own tInt fx_0e a1_300 n1_300 c1_300 x_0e]) ?_ ?_
  ·
    rintro ⟨x_0e, fx_0e⟩ hx
    replace hx : x_0e = zy0 := hx.symm
    subst hx
    show En _ _ _ _ [(6, .pointer (some ⟨b0_0, 0, .none⟩)), (7, .pointer (some ⟨b1_7, 0, .none⟩))] [Chunk.box b0_0 36 [.int .i64 0, .int .i64 0, .slice .none 0 0], Chunk.box b1_7 36 [.int .i64 x1_3a.W, .int .i64 x1_3a.H, .slice a1_300 n1_300 c1_300], Chunk.own tInt fx_0e a1_300 n1_300 c1_300 x_0e]
    refine En.block_exit ?_
    refine En.next ?_
    refine WC.seq ?_
    refine WC.region ?_
    refine Lt.ofWL.step rfl rfl rfl (OpV.loadAll rfl (.tail _ (.head _)) ag_36) ?_
    refine WL.heavy0 rfl rfl (OpH.storeTo (A := []) [_, _, _] rfl rfl rfl ts_36 rfl rfl rfl ?_)
    refine WL.nil ?_
    refine En.next ?_
    refine WC.ret ?_
    refine En.ret1 rfl (Res.cell rfl (.head _) ag_36) ?_
    obtain rfl := Option.some.inj h
    intro w' hs
    have hs := ((hs).perm (List.perm_middle (l₁ := [_, _]))).sub (.cons_cons _ (.cons _ (.cons _ (.slnil))))
    exact ⟨_, _, rfl, ⟨a1_300, n1_300, c1_300, fx_0e, rfl, rfl⟩, hs⟩
  ·
    intro zK0_0
    refine WC.loopP (G := (List Nat)) (fun s g => match s, g with | (x_0, v_0), fx_0 => [(0, .slice q0_0 a_p0.length k0_0), (1, .int .i64 a_p1), (2, .int .i64 a_p2), (6, .pointer (some ⟨b0_0, 0, .none⟩)), (7, .pointer (some ⟨b1_7, 0, .none⟩)), (9, .int .i64 v_0)]) (fun s g => match s, g with | (x_0, v_0), fx_0 => [Chunk.box b0_0 36 [.int .i64 0, .int .i64 0, .slice .none 0 0], Chunk.box b1_7 36 [.int .i64 x1_3a.W, .int .i64 x1_3a.H, .slice a1_300 n1_300 c1_300], Chunk.own tInt fx_0 a1_300 n1_300 c1_300 x_0]) (x1_3a.Data, 1) f1_300 ezy0 (by exact Sub.cons rfl (Sub.cons rfl (Sub.cons rfl (Sub.cons rfl (Sub.cons rfl (Sub.cons rfl (Sub.nil _))))))) (by exact (fun _ h => (((h).perm (List.perm_middle (l₁ := [_]))).perm (List.perm_middle (l₁ := [_]))).perm (List.perm_middle (l₁ := [_, _])))) ?_
    rintro zm0 ⟨x_0, v_0⟩ fx_0 zo0 zf0 zb0 ze0
    have zh0 : spec_l20Out_L0 a_p0 a_p1 a_p2 x_0 v_0 = some zo0 := zf0
    unfold spec_l20Out_L0 at zh0
    show WC _ _ _ _ _ [(0, .slice q0_0 a_p0.length k0_0), (1, .int .i64 a_p1), (2, .int .i64 a_p2), (6, .pointer (some ⟨b0_0, 0, .none⟩)), (7, .pointer (some ⟨b1_7, 0, .none⟩)), (9, .int .i64 v_0)] [Chunk.box b0_0 36 [.int .i64 0, .int .i64 0, .slice .none 0 0], Chunk.box b1_7 36 [.int .i64 x1_3a.W, .int .i64 x1_3a.H, .slice a1_300 n1_300 c1_300], Chunk.own tInt fx_0 a1_300 n1_300 c1_300 x_0]
    refine WC.seq ?_
    refine WC.seq ?_
    refine WC.region ?_
    refine Lt.ofWL.step rfl rfl rfl (OpV.move rfl) ?_
    refine Lt.ofWL.step rfl rfl rfl (OpV.move rfl) ?_
    refine Lt.ofWL.step rfl rfl rfl (OpV.len rfl si_53 rfl) ?_
    refine Lt.ofWL.step rfl rfl rfl (OpV.lss rfl rfl) ?_
    refine WL.nil ?_
    refine En.next ?_
    refine WC.cond rfl ?_ ?_
    ·
      intro hc_1
      replace zh0 := ifO_t hc_1 zh0
      refine WC.skip ?_
      refine En.next ?_
      refine WC.seq ?_
      obtain ⟨zy1, ej1, zh0⟩ := bnd zh0
      refine WC.cut (X := ((List Int)) × ((List Nat))) .normal (fun x => zy1 = x.1) (fun x => match x with | (x_1j, fx_1j) => [(0, .slice q0_0 a_p0.length k0_0), (1, .int .i64 a_p1), (2, .int .i64 a_p2), (6, .pointer (some ⟨b0_0, 0, .none⟩)), (7, .pointer (some ⟨b1_7, 0, .none⟩)), (9, .int .i64 v_0)]) (fun x => match x with | (x_1j, fx_1j) => [Chunk.box b0_0 36 [.int .i64 0, .int .i64 0, .slice .none 0 0], Chunk.box b1_7 36 [.int .i64 x1_3a.W, .int .i64 x1_3a.H, .slice a1_300 n1_300 c1_300], Chunk.own tInt fx_1j a1_300 n1_300 c1_300 x_1j]) ?_ ?_
      ·
        rintro ⟨x_1j, fx_1j⟩ hx
        replace hx : x_1j = zy1 := hx.symm
        subst hx
        show En _ _ _ _ [(0, .slice q0_0 a_p0.length k0_0), (1, .int .i64 a_p1), (2, .int .i64 a_p2), (6, .pointer (some ⟨b0_0, 0, .none⟩)), (7, .pointer (some ⟨b1_7, 0, .none⟩)), (9, .int .i64 v_0)] [Chunk.box b0_0 36 [.int .i64 0, .int .i64 0, .slice .none 0 0], Chunk.box b1_7 36 [.int .i64 x1_3a.W, .int .i64 x1_3a.H, .slice a1_300 n1_300 c1_300], Chunk.own tInt fx_1j a1_300 n1_300 c1_300 x_1j]
        refine En.next ?_
        refine WC.region ?_
        refine Lt.ofWL.step rfl rfl rfl (OpV.move rfl) ?_
        refine Lt.ofWL.step rfl rfl rfl (OpV.addR rfl rfl) ?_
        refine Lt.ofWL.step rfl rfl rfl (OpV.assign rfl) ?_
        refine WL.nil ?_
        exact En.backP zb0 zh0 fx_1j (Sub.cons rfl (Sub.cons rfl (Sub.cons rfl (Sub.cons rfl (Sub.cons rfl (Sub.cons rfl (Sub.nil _))))))) (fun _ h => h)
      ·
        intro zK1
        refine WC.block ?_
        refine WC.seq ?_
        obtain ⟨x5_2, e5_2, ej1⟩ := bnd ej1
        obtain ⟨g5_2, o5_2, _, ha5_2, ⟨a5_2_1, c5_2_1, rfl, r5_2_1⟩, hd5_2⟩ := Rd.atIdx r0_0 e5_2
        replace hd5_2 : ∀ (j : Nat) v, ([.bool x5_2.On, .int .i64 x5_2.X, .int .i64 x5_2.Y, .int .i64 x5_2.W, .int .i64 x5_2.H, .int .i64 x5_2.Layout, .slice a5_2_1 x5_2.Words.length c5_2_1, .int .i64 x5_2.Alpha, .int .i64 x5_2.Orient, .int .i64 x5_2.ToW, .int .i64 x5_2.ToH] : List Value)[j]? = some v → w.cell? ⟨g5_2, o5_2 + v_0.toNat * 11 + j, .none⟩ = some v := hd5_2
        obtain ⟨⟨x5_4a, x5_4b⟩, e5_4, ej1⟩ := bnd ej1
        refine WC.region ?_
        refine Lt.ofWL.step rfl rfl rfl (OpV.move rfl) ?_
        refine Lt.ofWL.step rfl rfl rfl (OpV.move rfl) ?_
        refine Lt.ofWL.step rfl rfl rfl (OpV.idxA rfl rfl se_53 ha5_2 ⟨(idx_some e5_2).1, (idx_some e5_2).2.1⟩) ?_
        refine Lt.ofWL.step rfl rfl rfl (OpV.loadN rfl ag_57 rfl (fun w hs => hs.cellsAt hd5_2)) ?_
        refine WL.heavy rfl rfl rfl (OpH.callR (evs.cons rfl (evs.nil)) ca_40 (fun w hs => w_spec_PlaneImage e5_4 (r5_2_1.ext hs.below)) ?_)
        rintro _ _ ⟨a5_400, n5_400, c5_400, f5_400, rfl, rfl⟩
        refine Lt.ofWL.step rfl rfl rfl (OpV.move rfl) ?_
        refine Lt.ofWL.step rfl rfl rfl (OpV.extract rfl rfl) ?_
        refine Lt.ofWL.step rfl rfl rfl (OpV.extract rfl rfl) ?_
        refine WL.heavy rfl rfl rfl (OpH.alloc zc_36 ?_)
        intro b5_8
        refine WL.heavy0 rfl rfl (OpH.storeTo (A := []) [_, _, _] rfl rfl rfl ts_36 rfl rfl rfl ?_)
        refine Lt.ofWL.step rfl rfl rfl (OpV.assign rfl) ?_
        refine WL.nil ?_
        refine En.next ?_
        refine WC.seq ?_
        refine WC.seq ?_
        refine WC.region ?_
        refine Lt.ofWL.step rfl rfl rfl (OpV.move rfl) ?_
        refine Lt.ofWL.step rfl rfl rfl (OpV.not rfl) ?_
        refine WL.nil ?_
        refine En.next ?_
        refine WC.cond rfl ?_ ?_
        ·
          intro hc_2
          replace ej1 := ifO_t hc_2 ej1
          refine WC.exit ?_
          refine En.then_exit ?_
          refine En.block_exit ?_
          exact En.wk _ _ (Sub.cons rfl (Sub.cons rfl (Sub.cons rfl (Sub.cons rfl (Sub.cons rfl (Sub.cons rfl (Sub.nil _))))))) (fun _ h => ((((h).perm (List.perm_middle (l₁ := [_, _, _, _]))).perm (List.perm_middle (l₁ := [_, _, _, _]))).perm (List.perm_middle (l₁ := [_, _, _, _]))).sub (.cons_cons _ (.cons_cons _ (.cons_cons _ (.cons _ (.cons _ (.slnil))))))) (zK1 (x_0, fx_0) (Option.some.inj ej1).symm)
        ·
          intro hc_2
          replace ej1 := ifO_f hc_2 ej1
          refine WC.skip ?_
          refine En.next ?_
          refine WC.seq ?_
          refine WC.region ?_
          refine Lt.ofWL.step rfl rfl rfl (OpV.assign rfl) ?_
          refine WL.nil ?_
          refine En.next ?_
          refine WC.block ?_
          obtain ⟨zy2, ezy2, ej1⟩ := bnd ej1
          refine WC.cut (X := ((List Int)) × ((List Nat))) (.exit 2) (fun x => zy2 = x.1) (fun x => match x with | (x_2e, fx_2e) => [(0, .slice q0_0 a_p0.length k0_0), (1, .int .i64 a_p1), (2, .int .i64 a_p2), (6, .pointer (some ⟨b0_0, 0, .none⟩)), (7, .pointer (some ⟨b1_7, 0, .none⟩)), (9, .int .i64 v_0)]) (fun x => match x with | (x_2e, fx_2e) => [Chunk.box b0_0 36 [.int .i64 0, .int .i64 0, .slice .none 0 0], Chunk.box b1_7 36 [.int .i64 x1_3a.W, .int .i64 x1_3a.H, .slice a1_300 n1_300 c1_300], Chunk.own tInt fx_2e a1_300 n1_300 c1_300 x_2e]) ?_ ?_
          ·
            rintro ⟨x_2e, fx_2e⟩ hx
            replace hx : x_2e = zy2 := hx.symm
            subst hx
            show En _ _ _ _ [(0, .slice q0_0 a_p0.length k0_0), (1, .int .i64 a_p1), (2, .int .i64 a_p2), (6, .pointer (some ⟨b0_0, 0, .none⟩)), (7, .pointer (some ⟨b1_7, 0, .none⟩)), (9, .int .i64 v_0)] [Chunk.box b0_0 36 [.int .i64 0, .int .i64 0, .slice .none 0 0], Chunk.box b1_7 36 [.int .i64 x1_3a.W, .int .i64 x1_3a.H, .slice a1_300 n1_300 c1_300], Chunk.own tInt fx_2e a1_300 n1_300 c1_300 x_2e]
            refine En.block_exit ?_
            refine En.block_norm ?_
            exact En.wk _ _ (Sub.cons rfl (Sub.cons rfl (Sub.cons rfl (Sub.cons rfl (Sub.cons rfl (Sub.cons rfl (Sub.nil _))))))) (fun _ h => h) (zK1 (x_2e, fx_2e) (Option.some.inj ej1).symm)
          ·
            intro zK2_0
            refine WC.loopP (G := (List Nat)) (fun s g => match s, g with | (x_2, v_2), fx_2 => [(0, .slice q0_0 a_p0.length k0_0), (1, .int .i64 a_p1), (2, .int .i64 a_p2), (6, .pointer (some ⟨b0_0, 0, .none⟩)), (7, .pointer (some ⟨b1_7, 0, .none⟩)), (9, .int .i64 v_0), (10, .pointer (some ⟨b5_8, 0, .none⟩)), (12, .int .i64 v_2)]) (fun s g => match s, g with | (x_2, v_2), fx_2 => [Chunk.box b0_0 36 [.int .i64 0, .int .i64 0, .slice .none 0 0], Chunk.box b1_7 36 [.int .i64 x1_3a.W, .int .i64 x1_3a.H, .slice a1_300 n1_300 c1_300], Chunk.own tInt fx_2 a1_300 n1_300 c1_300 x_2, Chunk.box b5_8 36 [.int .i64 x5_4a.W, .int .i64 x5_4a.H, .slice a5_400 n5_400 c5_400], Chunk.own tInt f5_400 a5_400 n5_400 c5_400 x5_4a.Data]) (x_0, 0) fx_0 ezy2 (by exact Sub.cons rfl (Sub.cons rfl (Sub.cons rfl (Sub.cons rfl (Sub.cons rfl (Sub.cons rfl (Sub.cons rfl (Sub.cons rfl (Sub.nil _))))))))) (by exact (fun _ h => (((((h).perm (List.perm_middle (l₁ := [_]))).perm (List.perm_middle (l₁ := [_]))).perm (List.perm_middle (l₁ := [_, _, _, _]))).perm (List.perm_middle (l₁ := [_, _, _, _]))).perm (List.perm_middle (l₁ := [_, _, _, _])))) ?_
            rintro zm2 ⟨x_2, v_2⟩ fx_2 zo2 zf2 zb2 ze2
            have zh2 : spec_l20Out_L2 a_p0 a_p1 a_p2 v_0 x5_4a x_2 v_2 = some zo2 := zf2
            unfold spec_l20Out_L2 at zh2
            show WC _ _ _ _ _ [(0, .slice q0_0 a_p0.length k0_0), (1, .int .i64 a_p1), (2, .int .i64 a_p2), (6, .pointer (some ⟨b0_0, 0, .none⟩)), (7, .pointer (some ⟨b1_7, 0, .none⟩)), (9, .int .i64 v_0), (10, .pointer (some ⟨b5_8, 0, .none⟩)), (12, .int .i64 v_2)] [Chunk.box b0_0 36 [.int .i64 0, .int .i64 0, .slice .none 0 0], Chunk.box b1_7 36 [.int .i64 x1_3a.W, .int .i64 x1_3a.H, .slice a1_300 n1_300 c1_300], Chunk.own tInt fx_2 a1_300 n1_300 c1_300 x_2, Chunk.box b5_8 36 [.int .i64 x5_4a.W, .int .i64 x5_4a.H, .slice a5_400 n5_400 c5_400], Chunk.own tInt f5_400 a5_400 n5_400 c5_400 x5_4a.Data]
            refine WC.seq ?_
            refine WC.seq ?_
            refine WC.region ?_
            refine Lt.ofWL.step rfl rfl rfl (OpV.move rfl) ?_
            refine Lt.ofWL.step rfl rfl rfl (OpV.move rfl) ?_
            refine Lt.ofWL.step rfl rfl rfl (OpV.lss rfl rfl) ?_
            refine WL.nil ?_
            refine En.next ?_
            refine WC.cond rfl ?_ ?_
            ·
              intro hc_3
              replace zh2 := ifO_t hc_3 zh2
              refine WC.skip ?_
              refine En.next ?_
              refine WC.seq ?_
              refine WC.block ?_
              refine WC.seq ?_
              refine WC.region ?_
              refine Lt.ofWL.step rfl rfl rfl (OpV.assign rfl) ?_
              refine WL.nil ?_
              refine En.next ?_
              refine WC.block ?_
              obtain ⟨zy3, ezy3, zh2⟩ := bnd zh2
              refine WC.cut (X := ((List Int)) × ((List Nat))) (.exit 4) (fun x => zy3 = x.1) (fun x => match x with | (x_3e, fx_3e) => [(0, .slice q0_0 a_p0.length k0_0), (1, .int .i64 a_p1), (2, .int .i64 a_p2), (6, .pointer (some ⟨b0_0, 0, .none⟩)), (7, .pointer (some ⟨b1_7, 0, .none⟩)), (9, .int .i64 v_0), (10, .pointer (some ⟨b5_8, 0, .none⟩)), (12, .int .i64 v_2)]) (fun x => match x with | (x_3e, fx_3e) => [Chunk.box b0_0 36 [.int .i64 0, .int .i64 0, .slice .none 0 0], Chunk.box b1_7 36 [.int .i64 x1_3a.W, .int .i64 x1_3a.H, .slice a1_300 n1_300 c1_300], Chunk.own tInt fx_3e a1_300 n1_300 c1_300 x_3e, Chunk.box b5_8 36 [.int .i64 x5_4a.W, .int .i64 x5_4a.H, .slice a5_400 n5_400 c5_400], Chunk.own tInt f5_400 a5_400 n5_400 c5_400 x5_4a.Data]) ?_ ?_
              ·
                rintro ⟨x_3e, fx_3e⟩ hx
                replace hx : x_3e = zy3 := hx.symm
                subst hx
                show En _ _ _ _ [(0, .slice q0_0 a_p0.length k0_0), (1, .int .i64 a_p1), (2, .int .i64 a_p2), (6, .pointer (some ⟨b0_0, 0, .none⟩)), (7, .pointer (some ⟨b1_7, 0, .none⟩)), (9, .int .i64 v_0), (10, .pointer (some ⟨b5_8, 0, .none⟩)), (12, .int .i64 v_2)] [Chunk.box b0_0 36 [.int .i64 0, .int .i64 0, .slice .none 0 0], Chunk.box b1_7 36 [.int .i64 x1_3a.W, .int .i64 x1_3a.H, .slice a1_300 n1_300 c1_300], Chunk.own tInt fx_3e a1_300 n1_300 c1_300 x_3e, Chunk.box b5_8 36 [.int .i64 x5_4a.W, .int .i64 x5_4a.H, .slice a5_400 n5_400 c5_400], Chunk.own tInt f5_400 a5_400 n5_400 c5_400 x5_4a.Data]
                refine En.block_exit ?_
                refine En.block_norm ?_
                refine En.next ?_
                refine WC.region ?_
                refine Lt.ofWL.step rfl rfl rfl (OpV.move rfl) ?_
                refine Lt.ofWL.step rfl rfl rfl (OpV.addR rfl rfl) ?_
                refine Lt.ofWL.step rfl rfl rfl (OpV.assign rfl) ?_
                refine WL.nil ?_
                exact En.backP zb2 zh2 fx_3e (Sub.cons rfl (Sub.cons rfl (Sub.cons rfl (Sub.cons rfl (Sub.cons rfl (Sub.cons rfl (Sub.cons rfl (Sub.cons rfl (Sub.nil _))))))))) (fun _ h => h)
              ·
                intro zK3_0
                refine WC.loopP (G := (List Nat)) (fun s g => match s, g with | (x_3, v_3), fx_3 => [(0, .slice q0_0 a_p0.length k0_0), (1, .int .i64 a_p1), (2, .int .i64 a_p2), (6, .pointer (some ⟨b0_0, 0, .none⟩)), (7, .pointer (some ⟨b1_7, 0, .none⟩)), (9, .int .i64 v_0), (10, .pointer (some ⟨b5_8, 0, .none⟩)), (12, .int .i64 v_2), (13, .int .i64 v_3)]) (fun s g => match s, g with | (x_3, v_3), fx_3 => [Chunk.box b0_0 36 [.int .i64 0, .int .i64 0, .slice .none 0 0], Chunk.box b1_7 36 [.int .i64 x1_3a.W, .int .i64 x1_3a.H, .slice a1_300 n1_300 c1_300], Chunk.own tInt fx_3 a1_300 n1_300 c1_300 x_3, Chunk.box b5_8 36 [.int .i64 x5_4a.W, .int .i64 x5_4a.H, .slice a5_400 n5_400 c5_400], Chunk.own tInt f5_400 a5_400 n5_400 c5_400 x5_4a.Data]) (x_2, 0) fx_2 ezy3 (by exact Sub.cons rfl (Sub.cons rfl (Sub.cons rfl (Sub.cons rfl (Sub.cons rfl (Sub.cons rfl (Sub.cons rfl (Sub.cons rfl (Sub.cons rfl (Sub.nil _)))))))))) (by exact (fun _ h => h)) ?_
                rintro zm3 ⟨x_3, v_3⟩ fx_3 zo3 zf3 zb3 ze3
                have zh3 : spec_l20Out_L3 a_p0 a_p1 v_0 x5_4a v_2 x_3 v_3 = some zo3 := zf3
                unfold spec_l20Out_L3 at zh3
                show WC _ _ _ _ _ [(0, .slice q0_0 a_p0.length k0_0), (1, .int .i64 a_p1), (2, .int .i64 a_p2), (6, .pointer (some ⟨b0_0, 0, .none⟩)), (7, .pointer (some ⟨b1_7, 0, .none⟩)), (9, .int .i64 v_0), (10, .pointer (some ⟨b5_8, 0, .none⟩)), (12, .int .i64 v_2), (13, .int .i64 v_3)] [Chunk.box b0_0 36 [.int .i64 0, .int .i64 0, .slice .none 0 0], Chunk.box b1_7 36 [.int .i64 x1_3a.W, .int .i64 x1_3a.H, .slice a1_300 n1_300 c1_300], Chunk.own tInt fx_3 a1_300 n1_300 c1_300 x_3, Chunk.box b5_8 36 [.int .i64 x5_4a.W, .int .i64 x5_4a.H, .slice a5_400 n5_400 c5_400], Chunk.own tInt f5_400 a5_400 n5_400 c5_400 x5_4a.Data]
                refine WC.seq ?_
                refine WC.seq ?_
                refine WC.region ?_
                refine Lt.ofWL.step rfl rfl rfl (OpV.move rfl) ?_
                refine Lt.ofWL.step rfl rfl rfl (OpV.move rfl) ?_
                refine Lt.ofWL.step rfl rfl rfl (OpV.lss rfl rfl) ?_
                refine WL.nil ?_
                refine En.next ?_
                refine WC.cond rfl ?_ ?_
                ·
                  intro hc_4
                  replace zh3 := ifO_t hc_4 zh3
                  refine WC.skip ?_
                  refine En.next ?_
                  refine WC.seq ?_
                  obtain ⟨zy4, ej4, zh3⟩ := bnd zh3
                  refine WC.cut (X := ((List Int)) × ((List Nat))) .normal (fun x => zy4 = x.1) (fun x => match x with | (x_4j, fx_4j) => [(0, .slice q0_0 a_p0.length k0_0), (1, .int .i64 a_p1), (2, .int .i64 a_p2), (6, .pointer (some ⟨b0_0, 0, .none⟩)), (7, .pointer (some ⟨b1_7, 0, .none⟩)), (9, .int .i64 v_0), (10, .pointer (some ⟨b5_8, 0, .none⟩)), (12, .int .i64 v_2), (13, .int .i64 v_3)]) (fun x => match x with | (x_4j, fx_4j) => [Chunk.box b0_0 36 [.int .i64 0, .int .i64 0, .slice .none 0 0], Chunk.box b1_7 36 [.int .i64 x1_3a.W, .int .i64 x1_3a.H, .slice a1_300 n1_300 c1_300], Chunk.own tInt fx_4j a1_300 n1_300 c1_300 x_4j, Chunk.box b5_8 36 [.int .i64 x5_4a.W, .int .i64 x5_4a.H, .slice a5_400 n5_400 c5_400], Chunk.own tInt f5_400 a5_400 n5_400 c5_400 x5_4a.Data]) ?_ ?_
                  ·
                    rintro ⟨x_4j, fx_4j⟩ hx
                    replace hx : x_4j = zy4 := hx.symm
                    subst hx
                    show En _ _ _ _ [(0, .slice q0_0 a_p0.length k0_0), (1, .int .i64 a_p1), (2, .int .i64 a_p2), (6, .pointer (some ⟨b0_0, 0, .none⟩)), (7, .pointer (some ⟨b1_7, 0, .none⟩)), (9, .int .i64 v_0), (10, .pointer (some ⟨b5_8, 0, .none⟩)), (12, .int .i64 v_2), (13, .int .i64 v_3)] [Chunk.box b0_0 36 [.int .i64 0, .int .i64 0, .slice .none 0 0], Chunk.box b1_7 36 [.int .i64 x1_3a.W, .int .i64 x1_3a.H, .slice a1_300 n1_300 c1_300], Chunk.own tInt fx_4j a1_300 n1_300 c1_300 x_4j, Chunk.box b5_8 36 [.int .i64 x5_4a.W, .int .i64 x5_4a.H, .slice a5_400 n5_400 c5_400], Chunk.own tInt f5_400 a5_400 n5_400 c5_400 x5_4a.Data]
                    refine En.next ?_
                    refine WC.region ?_
                    refine Lt.ofWL.step rfl rfl rfl (OpV.move rfl) ?_
                    refine Lt.ofWL.step rfl rfl rfl (OpV.addR rfl rfl) ?_
                    refine Lt.ofWL.step rfl rfl rfl (OpV.assign rfl) ?_
                    refine WL.nil ?_
                    exact En.backP zb3 zh3 fx_4j (Sub.cons rfl (Sub.cons rfl (Sub.cons rfl (Sub.cons rfl (Sub.cons rfl (Sub.cons rfl (Sub.cons rfl (Sub.cons rfl (Sub.cons rfl (Sub.nil _)))))))))) (fun _ h => h)
                  ·
                    intro zK4
                    refine WC.block ?_
                    refine WC.seq ?_
                    obtain ⟨x13_4, e13_4, ej4⟩ := bnd ej4
                    obtain ⟨g13_4, o13_4, _, ha13_4, ⟨a13_4_1, c13_4_1, rfl, r13_4_1⟩, hd13_4⟩ := Rd.atIdx r0_0 e13_4
                    replace hd13_4 : ∀ (j : Nat) v, ([.bool x13_4.On, .int .i64 x13_4.X, .int .i64 x13_4.Y, .int .i64 x13_4.W, .int .i64 x13_4.H, .int .i64 x13_4.Layout, .slice a13_4_1 x13_4.Words.length c13_4_1, .int .i64 x13_4.Alpha, .int .i64 x13_4.Orient, .int .i64 x13_4.ToW, .int .i64 x13_4.ToH] : List Value)[j]? = some v → w.cell? ⟨g13_4, o13_4 + v_0.toNat * 11 + j, .none⟩ = some v := hd13_4
                    obtain ⟨x13_11, e13_11, ej4⟩ := bnd ej4
                    obtain ⟨g13_11, o13_11, _, ha13_11, ⟨a13_11_1, c13_11_1, rfl, r13_11_1⟩, hd13_11⟩ := Rd.atIdx r0_0 e13_11
                    replace hd13_11 : ∀ (j : Nat) v, ([.bool x13_11.On, .int .i64 x13_11.X, .int .i64 x13_11.Y, .int .i64 x13_11.W, .int .i64 x13_11.H, .int .i64 x13_11.Layout, .slice a13_11_1 x13_11.Words.length c13_11_1, .int .i64 x13_11.Alpha, .int .i64 x13_11.Orient, .int .i64 x13_11.ToW, .int .i64 x13_11.ToH] : List Value)[j]? = some v → w.cell? ⟨g13_11, o13_11 + v_0.toNat * 11 + j, .none⟩ = some v := hd13_11
                    obtain ⟨x13_15, e13_15, ej4⟩ := bnd ej4
                    refine WC.drawn [(0, ?r13v0), (1, ?r13v1), (2, ?r13v2), (6, ?r13v6), (7, ?r13v7), (9, ?r13v9), (10, ?r13v10), (12, ?r13v12), (13, ?r13v13), (14, ?r13v14)] (by kernel_rfl) (by kernel_rfl) ?dH13 ?dK13
                    case dH13 =>
                      intro W hW hk
                      refine hW.step rfl rfl rfl (OpV.loadAll rfl (.tail _ (.tail _ (.tail _ (.head _)))) ag_36) ?_
                      refine hW.step rfl rfl rfl (OpV.move rfl) ?_
                      refine hW.step rfl rfl rfl (OpV.move rfl) ?_
                      refine hW.step rfl rfl rfl (OpV.move rfl) ?_
                      refine hW.step rfl rfl rfl (OpV.idxA rfl rfl se_53 ha13_4 ⟨(idx_some e13_4).1, (idx_some e13_4).2.1⟩) ?_
                      refine hW.step rfl rfl rfl (OpV.fieldAddr rfl fo_57_1) ?_
                      refine hW.step rfl rfl rfl (OpV.load1 rfl pt_3 (fun w hs => hs.cell (hd13_4 1 _ rfl))) ?_
                      refine hW.step rfl rfl rfl (OpV.subR rfl rfl) ?_
                      refine hW.step rfl rfl rfl (OpV.move rfl) ?_
                      refine hW.step rfl rfl rfl (OpV.move rfl) ?_
                      refine hW.step rfl rfl rfl (OpV.move rfl) ?_
                      refine hW.step rfl rfl rfl (OpV.idxA rfl rfl se_53 ha13_11 ⟨(idx_some e13_11).1, (idx_some e13_11).2.1⟩) ?_
                      refine hW.step rfl rfl rfl (OpV.fieldAddr rfl fo_57_2) ?_
                      refine hW.step rfl rfl rfl (OpV.load1 rfl pt_3 (fun w hs => hs.cell (hd13_11 2 _ rfl))) ?_
                      refine hW.step rfl rfl rfl (OpV.subR rfl rfl) ?_
                      refine hW.step rfl rfl rfl (OpV.call (evs.cons rfl (evs.cons rfl (evs.cons rfl (evs.nil)))) ca_117 (fun w hs => w_spec_l05At e13_15 (Ow.rd (hs.mem (.tail _ (.tail _ (.tail _ (.tail _ (.head _))))))))) ?_
                      refine hW.step rfl rfl rfl (OpV.assign rfl) ?_
                      refine hk _ ?_
                      refine Sub.cons ?_ (Sub.cons ?_ (Sub.cons ?_ (Sub.cons ?_ (Sub.cons ?_ (Sub.cons ?_ (Sub.cons ?_ (Sub.cons ?_ (Sub.cons ?_ (Sub.cons ?_ (Sub.nil _))))))))))
                      all_goals exact rfl
                    refine En.next ?_
                    refine WC.seq ?_
                    refine WC.region ?_
                    refine Lt.ofWL.step rfl rfl rfl (OpV.move rfl) ?_
                    refine Lt.ofWL.step rfl rfl rfl (OpV.geq rfl rfl) ?_
                    refine WL.nil ?_
                    refine En.next ?_
                    refine WC.cond rfl ?_ ?_
                    ·
                      intro hc_5
                      replace ej4 := ifO_t hc_5 ej4
                      refine WC.inh fun hin15 => ?_
                      obtain ⟨x15_15, e15_15, ej4⟩ := bnd ej4
                      obtain ⟨g15_15, ha15_15⟩ := ownAddr hin15 (.tail _ (.tail _ (.head _))) e15_15
                      have hn15_15 := ownLen hin15 (.tail _ (.tail _ (.head _)))
                      obtain ⟨x15_17, e15_17, ej4⟩ := bnd ej4
                      have hn15_18 := ownLen hin15 (.tail _ (.tail _ (.head _)))
                      obtain ⟨x15_19, e15_19, ej4⟩ := bnd ej4
                      obtain ⟨g15_18, ha15_18⟩ := ownAddrU hin15 (.tail _ (.tail _ (.head _))) e15_19
                      refine WC.wkF (fun _ h => h.perm (List.perm_middle (l₁ := [_, _]))) ?_
                      refine WC.drawnH [_] ([_, _, _, _]) (fun _ h => h) (by kernel_rfl) ?_
                      refine WAE.take (i := 0) rfl (by kernel_rfl) (by kernel_rfl) (by kernel_rfl) rfl rfl rfl (OpV.fieldAddr rfl fo_36_2) ?_
                      refine WAE.take (i := 1) rfl (by kernel_rfl) (by kernel_rfl) (by kernel_rfl) rfl rfl rfl (OpV.loadBox rfl pt_32 (.tail _ (.head _)) rfl) ?_
                      refine WAE.take (i := 2) rfl (by kernel_rfl) (by kernel_rfl) (by kernel_rfl) rfl rfl rfl (OpV.move rfl) ?_
                      refine WAE.take (i := 3) rfl (by kernel_rfl) (by kernel_rfl) (by kernel_rfl) rfl rfl rfl (OpV.move rfl) ?_
                      refine WAE.take (i := 4) rfl (by kernel_rfl) (by kernel_rfl) (by kernel_rfl) rfl rfl rfl (OpV.mulR rfl rfl) ?_
                      refine WAE.take (i := 5) rfl (by kernel_rfl) (by kernel_rfl) (by kernel_rfl) rfl rfl rfl (OpV.move rfl) ?_
                      refine WAE.take (i := 6) rfl (by kernel_rfl) (by kernel_rfl) (by kernel_rfl) rfl rfl rfl (OpV.addR rfl rfl) ?_
                      refine WAE.take (i := 7) rfl (by kernel_rfl) (by kernel_rfl) (by kernel_rfl) rfl rfl rfl (OpV.move rfl) ?_
                      refine WAE.take (i := 8) rfl (by kernel_rfl) (by kernel_rfl) (by kernel_rfl) rfl rfl rfl (OpV.fieldAddr rfl fo_36_2) ?_
                      refine WAE.take (i := 9) rfl (by kernel_rfl) (by kernel_rfl) (by kernel_rfl) rfl rfl rfl (OpV.loadBox rfl pt_32 (.tail _ (.head _)) rfl) ?_
                      refine WAE.take (i := 10) rfl (by kernel_rfl) (by kernel_rfl) (by kernel_rfl) rfl rfl rfl (OpV.move rfl) ?_
                      refine WAE.take (i := 11) rfl (by kernel_rfl) (by kernel_rfl) (by kernel_rfl) rfl rfl rfl (OpV.move rfl) ?_
                      refine WAE.take (i := 12) rfl (by kernel_rfl) (by kernel_rfl) (by kernel_rfl) rfl rfl rfl (OpV.mulR rfl rfl) ?_
                      refine WAE.take (i := 13) rfl (by kernel_rfl) (by kernel_rfl) (by kernel_rfl) rfl rfl rfl (OpV.move rfl) ?_
                      refine WAE.take (i := 14) rfl (by kernel_rfl) (by kernel_rfl) (by kernel_rfl) rfl rfl rfl (OpV.addR rfl rfl) ?_
                      refine WAE.take (i := 15) rfl (by kernel_rfl) (by kernel_rfl) (by kernel_rfl) rfl rfl rfl (OpV.idxA rfl rfl se_32 ha15_15 ⟨(idx_some e15_15).1, by rw [hn15_15]; exact (idx_some e15_15).2.1⟩) ?_
                      refine WAE.all (rs := [16]) (by kernel_rfl) rfl (AllR.cons rfl rfl rfl rfl ?_ AllR.nil)
                      refine OpH.light (OpV.load1 rfl pt_3 (fun w hs => Rd.cell1 tInt_flat (Ow.rd (hs.mem (.head _))) e15_15 ha15_15 rfl)) ?_
                      refine ⟨[_], rfl, ?_⟩
                      refine WAE.take (i := 17) rfl (by kernel_rfl) (by kernel_rfl) (by kernel_rfl) rfl rfl rfl (OpV.call (evs.cons rfl (evs.cons rfl (evs.nil))) ca_163 (fun w hs => w_spec_Over e15_17)) ?_
                      refine WAE.take (i := 18) rfl (by kernel_rfl) (by kernel_rfl) (by kernel_rfl) rfl rfl rfl (OpV.idxA rfl rfl se_32 ha15_18 ⟨(upd_some e15_19).1.1, by rw [hn15_18]; exact (upd_some e15_19).1.2⟩) ?_
                      refine WAE.all (rs := [19]) (by kernel_rfl) rfl (AllR.cons0 rfl rfl rfl ?_ AllR.nil)
                      refine OpH.wkF (fun _ h => St.elFlat tInt_flat x15_17 h) ?_
                      refine OpH.setEl (A := tInt) ha15_18 rfl rfl rfl ts_3 e15_19 ?_
                      intro f15_19
                      refine ⟨[_], rfl, ?_⟩
                      refine WAE.rebase (H := []) ?_
                      refine WAE.done (by kernel_rfl) ?_ _
                      refine En.block_norm ?_
                      exact En.wk _ _ (Sub.cons rfl (Sub.cons rfl (Sub.cons rfl (Sub.cons rfl (Sub.cons rfl (Sub.cons rfl (Sub.cons rfl (Sub.cons rfl (Sub.cons rfl (Sub.nil _)))))))))) (fun _ h => (((((h).perm (List.perm_middle (l₁ := [_, _, _, _]))).perm (List.perm_middle (l₁ := [_, _, _, _]))).perm (List.perm_middle (l₁ := [_, _]))).perm (List.perm_middle (l₁ := [_, _, _, _]))).perm (List.perm_middle (l₁ := [_, _, _, _]))) (zK4 (x15_19, f15_19) (Option.some.inj ej4).symm)
                    ·
                      intro hc_5
                      replace ej4 := ifO_f hc_5 ej4
                      refine WC.skip ?_
                      refine En.block_norm ?_
                      exact En.wk _ _ (Sub.cons rfl (Sub.cons rfl (Sub.cons rfl (Sub.cons rfl (Sub.cons rfl (Sub.cons rfl (Sub.cons rfl (Sub.cons rfl (Sub.cons rfl (Sub.nil _)))))))))) (fun _ h => h) (zK4 (x_3, fx_3) (Option.some.inj ej4).symm)
                ·
                  intro hc_4
                  replace zh3 := ifO_f hc_4 zh3
                  refine WC.exit ?_
                  refine En.then_exit ?_
                  refine En.then_exit ?_
                  have hx := exitP ze3 zh3
                  exact En.wk _ _ (Sub.cons rfl (Sub.cons rfl (Sub.cons rfl (Sub.cons rfl (Sub.cons rfl (Sub.cons rfl (Sub.cons rfl (Sub.cons rfl (Sub.nil _))))))))) (fun _ h => h) (zK3_0 (x_3, fx_3) hx.symm)
            ·
              intro hc_3
              replace zh2 := ifO_f hc_3 zh2
              refine WC.exit ?_
              refine En.then_exit ?_
              refine En.then_exit ?_
              have hx := exitP ze2 zh2
              exact En.wk _ _ (Sub.cons rfl (Sub.cons rfl (Sub.cons rfl (Sub.cons rfl (Sub.cons rfl (Sub.cons rfl (Sub.nil _))))))) (fun _ h => (h).sub (.cons_cons _ (.cons_cons _ (.cons_cons _ (.cons _ (.cons _ (.slnil))))))) (zK2_0 (x_2, fx_2) hx.symm)
    ·
      intro hc_1
      replace zh0 := ifO_f hc_1 zh0
      refine WC.exit ?_
      refine En.then_exit ?_
      refine En.then_exit ?_
      have hx := exitP ze0 zh0
      exact En.wk _ _ (Sub.cons rfl (Sub.cons rfl (Sub.nil _))) (fun _ h => h) (zK0_0 (x_0, fx_0) hx.symm)

theorem w_spec_ScanPixel {list_p0 : List PlaneT} {w_p1 : Int} {h_p2 : Int} {x_p3 : Int} {y_p4 : Int} {r : Int} {q0_0 : Option Addr} {n0_0 k0_0 : Nat} (h : spec_ScanPixel list_p0 w_p1 h_p2 x_p3 y_p4 = some r) {w : World} (r0_0 : Rd tPlane w q0_0 n0_0 k0_0 list_p0)   :
    Calls Try.prog 64 #[.slice q0_0 n0_0 k0_0, .int .i64 w_p1, .int .i64 h_p2, .int .i64 x_p3, .int .i64 y_p4] w (fun en w' => en = .returned (.int .i64 r) ∧ Ext w w') := by
  obtain rfl := r0_0.1
  unfold spec_ScanPixel at h
  refine enter (vs := [_, _, _, _, _]) Try.func64 rfl rfl rfl rfl ?_
  refine WC.seq ?_
  refine WC.region ?_
  refine Lt.ofWL.step rfl rfl rfl (OpV.assign rfl) ?_
  refine WL.nil ?_
  refine En.next ?_
  refine WC.seq ?_
  refine WC.seq ?_
  obtain ⟨x1_3, e1_3, h⟩ := bnd h
  refine WC.region ?_
  refine Lt.ofWL.step rfl rfl rfl (OpV.move rfl) ?_
  refine Lt.ofWL.step rfl rfl rfl (OpV.move rfl) ?_
  refine Lt.ofWL.step rfl rfl rfl (OpV.move rfl) ?_
  refine Lt.ofWL.step rfl rfl rfl (OpV.call (evs.cons rfl (evs.cons rfl (evs.cons rfl (evs.nil)))) ca_50 (fun w hs => w_spec_PlanesOk e1_3 (r0_0.ext hs.below))) ?_
  refine Lt.ofWL.step rfl rfl rfl (OpV.not rfl) ?_
  refine WL.nil ?_
  refine En.next ?_
  refine WC.cond rfl ?_ ?_
  ·
    intro hc_1
    replace h := ifO_t hc_1 h
    refine WC.seq ?_
    refine WC.region ?_
    refine Lt.ofWL.step rfl rfl rfl (OpV.assign rfl) ?_
    refine WL.nil ?_
    refine En.next ?_
    refine WC.ret ?_
    refine En.then_ret ?_
    refine En.ret1 rfl (Res.tmp rfl) ?_
    obtain rfl := Option.some.inj h
    intro w' hs
    exact ⟨rfl, hs.below⟩
  ·
    intro hc_1
    replace h := ifO_f hc_1 h
    refine WC.skip ?_
    refine En.next ?_
    refine WC.seq ?_
    obtain ⟨x3_3, e3_3, h⟩ := bnd h
    obtain ⟨x3_6, e3_6, h⟩ := bnd h
    refine WC.region ?_
    refine Lt.ofWL.step rfl rfl rfl (OpV.move rfl) ?_
    refine Lt.ofWL.step rfl rfl rfl (OpV.move rfl) ?_
    refine Lt.ofWL.step rfl rfl rfl (OpV.move rfl) ?_
    refine WL.heavy rfl rfl rfl (OpH.callR (evs.cons rfl (evs.cons rfl (evs.cons rfl (evs.nil)))) ca_118 (fun w hs => w_spec_l20Out e3_3 (r0_0.ext hs.below)) ?_)
    rintro _ _ ⟨a3_300, n3_300, c3_300, f3_300, rfl, rfl⟩
    refine Lt.ofWL.step rfl rfl rfl (OpV.move rfl) ?_
    refine Lt.ofWL.step rfl rfl rfl (OpV.move rfl) ?_
    refine Lt.ofWL.step rfl rfl rfl (OpV.call (evs.cons rfl (evs.cons rfl (evs.cons rfl (evs.nil)))) ca_117 (fun w hs => w_spec_l05At e3_6 (Ow.rd (hs.mem (.head _))))) ?_
    refine Lt.ofWL.step rfl rfl rfl (OpV.assign rfl) ?_
    refine WL.nil ?_
    refine En.next ?_
    refine WC.ret ?_
    refine En.ret1 rfl (Res.tmp rfl) ?_
    obtain rfl := Option.some.inj h
    intro w' hs
    exact ⟨rfl, hs.below⟩

theorem w_impl_Over {top_p0 : Int} {bottom_p1 : Int} {r : Int}  (h : impl_Over top_p0 bottom_p1 = some r) {w : World}    :
    Calls Try.prog 140 #[.int .i64 top_p0, .int .i64 bottom_p1] w (fun en w' => en = .returned (.int .i64 r) ∧ Ext w w') := by
  unfold impl_Over at h
  refine enter (vs := [_, _]) Try.func140 rfl rfl rfl rfl ?_
  refine WC.seq ?_
  refine WC.region ?_
  refine Lt.ofWL.step rfl rfl rfl (OpV.assign rfl) ?_
  refine WL.nil ?_
  refine En.next ?_
  refine WC.seq ?_
  refine WC.seq ?_
  obtain ⟨x1_1, e1_1, h⟩ := bnd h
  obtain ⟨q1_7, e1_7, h⟩ := bnd h
  refine WC.region ?_
  refine Lt.ofWL.step rfl rfl rfl (OpV.move rfl) ?_
  refine Lt.ofWL.step rfl rfl rfl (OpV.call (evs.cons rfl (evs.nil)) ca_143 (fun w hs => w_impl_isPixel e1_1)) ?_
  refine Lt.ofWL.step rfl rfl rfl (OpV.not rfl) ?_
  refine Lt.ofWL.step rfl rfl rfl (OpV.move rfl) ?_
  refine Lt.ofWL.orQ 11 15 14 (p := ?pz1) (rest := ?qz1) (B := q1_7) rfl (fun hz => orO_t e1_7 hz) ?Tz1 ?Fz1 ?az1 ?bz1 ?cz1 ?dz1 ?ez1
  case Tz1 =>
    intro hcz1 hkz1
    refine Lt.ofWL.skip rfl rfl rfl ?_
    refine Lt.ofWL.skip rfl rfl rfl ?_
    refine Lt.ofWL.skip rfl rfl rfl ?_
    refine hkz1 _ ?_
    repeat (first | exact Sub.refl _ | refine Sub.skip rfl ?_)
  case Fz1 =>
    intro hcz1 hkz1
    have hqz1 := orO_f e1_7 hcz1
    obtain ⟨x1_5, e1_5, hqz1⟩ := bnd hqz1
    obtain rfl := Option.some.inj hqz1
    refine Lt.ofWL.step rfl rfl rfl (OpV.move rfl) ?_
    refine Lt.ofWL.step rfl rfl rfl (OpV.call (evs.cons rfl (evs.nil)) ca_143 (fun w hs => w_impl_isPixel e1_5)) ?_
    refine Lt.ofWL.step rfl rfl rfl (OpV.not rfl) ?_
    refine hkz1 _ ?_ ?_
    exact rfl
    repeat (first | exact Sub.refl _ | refine Sub.skip rfl ?_)
  case az1 => exact rfl
  case bz1 => exact rfl
  case cz1 => exact rfl
  case dz1 => exact rfl
  refine WL.nil ?_
  refine En.next ?_
  refine WC.cond rfl ?_ ?_
  ·
    intro hc_1
    replace h := ifO_t hc_1 h
    refine WC.seq ?_
    refine WC.region ?_
    refine Lt.ofWL.step rfl rfl rfl (OpV.assign rfl) ?_
    refine WL.nil ?_
    refine En.next ?_
    refine WC.ret ?_
    refine En.then_ret ?_
    refine En.ret1 rfl (Res.tmp rfl) ?_
    obtain rfl := Option.some.inj h
    intro w' hs
    exact ⟨rfl, hs.below⟩
  ·
    intro hc_1
    replace h := ifO_f hc_1 h
    refine WC.skip ?_
    refine En.next ?_
    refine WC.seq ?_
    obtain ⟨x3_1, e3_1, h⟩ := bnd h
    refine WC.region ?_
    refine Lt.ofWL.step rfl rfl rfl (OpV.move rfl) ?_
    refine Lt.ofWL.step rfl rfl rfl (OpV.call (evs.cons rfl (evs.cons rfl (evs.nil))) ca_144 (fun w hs => w_impl_channel e3_1)) ?_
    refine Lt.ofWL.step rfl rfl rfl (OpV.assign rfl) ?_
    refine WL.nil ?_
    refine En.next ?_
    refine WC.seq ?_
    refine WC.region ?_
    refine Lt.ofWL.step rfl rfl rfl (OpV.assign rfl) ?_
    refine WL.nil ?_
    refine En.next ?_
    refine WC.seq ?_
    refine WC.seq ?_
    refine WC.region ?_
    refine Lt.ofWL.step rfl rfl rfl (OpV.assign rfl) ?_
    refine WL.nil ?_
    refine En.next ?_
    refine WC.block ?_
    obtain ⟨zy0, ezy0, h⟩ := bnd h
    refine WC.cut (X := (Int) × (Unit)) (.exit 0) (fun x => zy0 = x.1) (fun x => match x with | (out_0e, ()) => [(6, .int .i64 out_0e)]) (fun x => match x with | (out_0e, ()) => []) ?_ ?_
    ·
      rintro ⟨out_0e, ⟨⟩⟩ hx
      replace hx : out_0e = zy0 := hx.symm
      subst hx
      show En _ _ _ _ [(6, .int .i64 out_0e)] []
      refine En.block_exit ?_
      refine En.next ?_
      refine WC.seq ?_
      refine WC.region ?_
      refine Lt.ofWL.step rfl rfl rfl (OpV.move rfl) ?_
      refine Lt.ofWL.step rfl rfl rfl (OpV.assign rfl) ?_
      refine WL.nil ?_
      refine En.next ?_
      refine WC.ret ?_
      refine En.ret1 rfl (Res.tmp rfl) ?_
      obtain rfl := Option.some.inj h
      intro w' hs
      exact ⟨rfl, hs.below⟩
    ·
      intro zK0_0
      refine WC.loopP (G := Unit) (fun s g => match s, g with | (out_0, k_0), () => [(0, .int .i64 top_p0), (1, .int .i64 bottom_p1), (5, .int .i64 x3_1), (6, .int .i64 out_0), (7, .int .i64 k_0)]) (fun s g => match s, g with | (out_0, k_0), () => []) (255, 1) () ezy0 (by exact Sub.cons rfl (Sub.cons rfl (Sub.cons rfl (Sub.cons rfl (Sub.cons rfl (Sub.nil _)))))) (by exact (fun _ h => h)) ?_
      rintro zm0 ⟨out_0, k_0⟩ ⟨⟩ zo0 zf0 zb0 ze0
      have zh0 : impl_Over_L0 top_p0 bottom_p1 x3_1 out_0 k_0 = some zo0 := zf0
      unfold impl_Over_L0 at zh0
      show WC _ _ _ _ _ [(0, .int .i64 top_p0), (1, .int .i64 bottom_p1), (5, .int .i64 x3_1), (6, .int .i64 out_0), (7, .int .i64 k_0)] []
      refine WC.seq ?_
      refine WC.seq ?_
      refine WC.region ?_
      refine Lt.ofWL.step rfl rfl rfl (OpV.move rfl) ?_
      refine Lt.ofWL.step rfl rfl rfl (OpV.lss rfl rfl) ?_
      refine WL.nil ?_
      refine En.next ?_
      refine WC.cond rfl ?_ ?_
      ·
        intro hc_2
        replace zh0 := ifO_t hc_2 zh0
        refine WC.skip ?_
        refine En.next ?_
        refine WC.seq ?_
        refine WC.block ?_
        obtain ⟨x8_4, e8_4, zh0⟩ := bnd zh0
        obtain ⟨x8_6, e8_6, zh0⟩ := bnd zh0
        obtain ⟨x8_10, e8_10, zh0⟩ := bnd zh0
        obtain ⟨x8_13, e8_13, zh0⟩ := bnd zh0
        refine WC.region ?_
        refine Lt.ofWL.step rfl rfl rfl (OpV.move rfl) ?_
        refine Lt.ofWL.step rfl rfl rfl (OpV.shlR rfl rfl rfl) ?_
        refine Lt.ofWL.step rfl rfl rfl (OpV.move rfl) ?_
        refine Lt.ofWL.step rfl rfl rfl (OpV.move rfl) ?_
        refine Lt.ofWL.step rfl rfl rfl (OpV.call (evs.cons rfl (evs.cons rfl (evs.nil))) ca_144 (fun w hs => w_impl_channel e8_4)) ?_
        refine Lt.ofWL.step rfl rfl rfl (OpV.move rfl) ?_
        refine Lt.ofWL.step rfl rfl rfl (OpV.call (evs.cons rfl (evs.cons rfl (evs.nil))) ca_170 (fun w hs => w_impl_Part e8_6)) ?_
        refine Lt.ofWL.step rfl rfl rfl (OpV.orR rfl rfl) ?_
        refine Lt.ofWL.step rfl rfl rfl (OpV.move rfl) ?_
        refine Lt.ofWL.step rfl rfl rfl (OpV.move rfl) ?_
        refine Lt.ofWL.step rfl rfl rfl (OpV.call (evs.cons rfl (evs.cons rfl (evs.nil))) ca_144 (fun w hs => w_impl_channel e8_10)) ?_
        refine Lt.ofWL.step rfl rfl rfl (OpV.move rfl) ?_
        refine Lt.ofWL.step rfl rfl rfl (OpV.subR rfl rfl) ?_
        refine Lt.ofWL.step rfl rfl rfl (OpV.call (evs.cons rfl (evs.cons rfl (evs.nil))) ca_170 (fun w hs => w_impl_Part e8_13)) ?_
        refine Lt.ofWL.step rfl rfl rfl (OpV.addR rfl rfl) ?_
        refine Lt.ofWL.step rfl rfl rfl (OpV.assign rfl) ?_
        refine WL.nil ?_
        refine En.block_norm ?_
        refine En.next ?_
        refine WC.region ?_
        refine Lt.ofWL.step rfl rfl rfl (OpV.move rfl) ?_
        refine Lt.ofWL.step rfl rfl rfl (OpV.addR rfl rfl) ?_
        refine Lt.ofWL.step rfl rfl rfl (OpV.assign rfl) ?_
        refine WL.nil ?_
        exact En.backP zb0 zh0 () (Sub.cons rfl (Sub.cons rfl (Sub.cons rfl (Sub.cons rfl (Sub.cons rfl (Sub.nil _)))))) (fun _ h => h)
      ·
        intro hc_2
        replace zh0 := ifO_f hc_2 zh0
        refine WC.exit ?_
        refine En.then_exit ?_
        refine En.then_exit ?_
        have hx := exitP ze0 zh0
        exact En.wk _ _ (Sub.cons rfl (Sub.nil _)) (fun _ h => h) (zK0_0 (out_0, ()) hx.symm)

theorem w_impl_scanned {a_p0 : List PlaneT} {r : ImageT} {q0_0 : Option Addr} {n0_0 k0_0 : Nat} (h : impl_scanned a_p0 = some r) {w : World} (r0_0 : Rd tPlane w q0_0 n0_0 k0_0 a_p0)   :
    Calls Try.prog 90 #[.slice q0_0 n0_0 k0_0] w (fun en w' => ∃ rv G, en = .returned rv ∧ (∃ (a0_0 : Option Addr) (n0_0 : Nat) (c0_0 : Nat) (f0_0 : List Nat), rv = .agg #[.int .i64 r.W, .int .i64 r.H, .slice a0_0 n0_0 c0_0] ∧ G = [Chunk.own tInt f0_0 a0_0 n0_0 c0_0 r.Data]) ∧ St w G w') := by
  obtain rfl := r0_0.1
  unfold impl_scanned at h
  refine enter (vs := [_]) Try.func90 rfl rfl rfl rfl ?_
  refine WC.seq ?_
  refine WC.region ?_
  refine WL.heavy rfl rfl rfl (OpH.alloc zc_36 ?_)
  intro b0_0
  refine WL.nil ?_
  refine En.next ?_
  refine WC.seq ?_
  obtain ⟨x1_1, e1_1, h⟩ := bnd h
  obtain ⟨g1_1, o1_1, _, ha1_1, ⟨a1_1_1, c1_1_1, rfl, r1_1_1⟩, hd1_1⟩ := Rd.atIdx r0_0 e1_1
  replace hd1_1 : ∀ (j : Nat) v, ([.bool x1_1.On, .int .i64 x1_1.X, .int .i64 x1_1.Y, .int .i64 x1_1.W, .int .i64 x1_1.H, .int .i64 x1_1.Layout, .slice a1_1_1 x1_1.Words.length c1_1_1, .int .i64 x1_1.Alpha, .int .i64 x1_1.Orient, .int .i64 x1_1.ToW, .int .i64 x1_1.ToH] : List Value)[j]? = some v → w.cell? ⟨g1_1, o1_1 + (Int.toNat 0) * 11 + j, .none⟩ = some v := hd1_1
  obtain ⟨⟨x1_3a, x1_3b⟩, e1_3, h⟩ := bnd h
  refine WC.region ?_
  refine Lt.ofWL.step rfl rfl rfl (OpV.move rfl) ?_
  refine Lt.ofWL.step rfl rfl rfl (OpV.idxA rfl rfl se_53 ha1_1 ⟨(idx_some e1_1).1, (idx_some e1_1).2.1⟩) ?_
  refine Lt.ofWL.step rfl rfl rfl (OpV.loadN rfl ag_57 rfl (fun w hs => hs.cellsAt hd1_1)) ?_
  refine WL.heavy rfl rfl rfl (OpH.callR (evs.cons rfl (evs.nil)) ca_42 (fun w hs => w_impl_PlaneImage e1_3 (r1_1_1.ext hs.below)) ?_)
  rintro _ _ ⟨a1_300, n1_300, c1_300, f1_300, rfl, rfl⟩
  refine Lt.ofWL.step rfl rfl rfl (OpV.move rfl) ?_
  refine Lt.ofWL.step rfl rfl rfl (OpV.extract rfl rfl) ?_
  refine Lt.ofWL.step rfl rfl rfl (OpV.extract rfl rfl) ?_
  refine WL.heavy rfl rfl rfl (OpH.alloc zc_36 ?_)
  intro b1_7
  refine WL.heavy0 rfl rfl (OpH.storeTo (A := []) [_, _, _] rfl rfl rfl ts_36 rfl rfl rfl ?_)
  refine Lt.ofWL.step rfl rfl rfl (OpV.assign rfl) ?_
  refine WL.nil ?_
  refine En.next ?_
  refine WC.seq ?_
  refine WC.seq ?_
  obtain ⟨x2_1, e2_1, h⟩ := bnd h
  refine WC.region ?_
  refine Lt.ofWL.step rfl rfl rfl (OpV.move rfl) ?_
  refine Lt.ofWL.step rfl rfl rfl (OpV.subL rfl rfl rfl se_53 e2_1) ?_
  refine Lt.ofWL.step rfl rfl rfl (OpV.len rfl si_53 rfl) ?_
  refine Lt.ofWL.step rfl rfl rfl (OpV.move rfl) ?_
  refine WL.nil ?_
  refine En.next ?_
  refine WC.block ?_
  obtain ⟨zy0, ezy0, h⟩ := bnd h
  refine WC.cut (X := ((List Int)) × ((List Nat))) (.exit 0) (fun x => zy0 = x.1) (fun x => match x with | (x_0e, fx_0e) => [(2, .pointer (some ⟨b0_0, 0, .none⟩)), (3, .pointer (some ⟨b1_7, 0, .none⟩))]) (fun x => match x with | (x_0e, fx_0e) => [Chunk.box b0_0 36 [.int .i64 0, .int .i64 0, .slice .none 0 0], Chunk.box b1_7 36 [.int .i64 x1_3a.W, .int .i64 x1_3a.H, .slice a1_300 n1_300 c1_300], Chunk.own tInt fx_0e a1_300 n1_300 c1_300 x_0e]) ?_ ?_
  ·
    rintro ⟨x_0e, fx_0e⟩ hx
    replace hx : x_0e = zy0 := hx.symm
    subst hx
    show En _ _ _ _ [(2, .pointer (some ⟨b0_0, 0, .none⟩)), (3, .pointer (some ⟨b1_7, 0, .none⟩))] [Chunk.box b0_0 36 [.int .i64 0, .int .i64 0, .slice .none 0 0], Chunk.box b1_7 36 [.int .i64 x1_3a.W, .int .i64 x1_3a.H, .slice a1_300 n1_300 c1_300], Chunk.own tInt fx_0e a1_300 n1_300 c1_300 x_0e]
    refine En.block_exit ?_
    refine En.next ?_
    refine WC.seq ?_
    refine WC.region ?_
    refine Lt.ofWL.step rfl rfl rfl (OpV.loadAll rfl (.tail _ (.head _)) ag_36) ?_
    refine WL.heavy0 rfl rfl (OpH.storeTo (A := []) [_, _, _] rfl rfl rfl ts_36 rfl rfl rfl ?_)
    refine WL.nil ?_
    refine En.next ?_
    refine WC.ret ?_
    refine En.ret1 rfl (Res.cell rfl (.head _) ag_36) ?_
    obtain rfl := Option.some.inj h
    intro w' hs
    have hs := ((hs).perm (List.perm_middle (l₁ := [_, _]))).sub (.cons_cons _ (.cons _ (.cons _ (.slnil))))
    exact ⟨_, _, rfl, ⟨a1_300, n1_300, c1_300, fx_0e, rfl, rfl⟩, hs⟩
  ·
    intro zK0_0
    refine WC.loopP (G := (List Nat)) (fun s g => match s, g with | (x_0, v_0), fx_0 => [(2, .pointer (some ⟨b0_0, 0, .none⟩)), (3, .pointer (some ⟨b1_7, 0, .none⟩)), (21, .slice (subA q0_0 k0_0 (Int.toNat 1) 11) x2_1.length (k0_0 - (Int.toNat 1))), (22, .int .i64 (x2_1.length : Int)), (23, .int .i64 v_0)]) (fun s g => match s, g with | (x_0, v_0), fx_0 => [Chunk.box b0_0 36 [.int .i64 0, .int .i64 0, .slice .none 0 0], Chunk.box b1_7 36 [.int .i64 x1_3a.W, .int .i64 x1_3a.H, .slice a1_300 n1_300 c1_300], Chunk.own tInt fx_0 a1_300 n1_300 c1_300 x_0]) (x1_3a.Data, 0) f1_300 ezy0 (by exact Sub.cons rfl (Sub.cons rfl (Sub.cons rfl (Sub.cons rfl (Sub.cons rfl (Sub.nil _)))))) (by exact (fun _ h => (((h).perm (List.perm_middle (l₁ := [_]))).perm (List.perm_middle (l₁ := [_]))).perm (List.perm_middle (l₁ := [_, _])))) ?_
    rintro zm0 ⟨x_0, v_0⟩ fx_0 zo0 zf0 zb0 ze0
    have zh0 : impl_scanned_L0 x1_3a x2_1 x_0 v_0 = some zo0 := zf0
    unfold impl_scanned_L0 at zh0
    show WC _ _ _ _ _ [(2, .pointer (some ⟨b0_0, 0, .none⟩)), (3, .pointer (some ⟨b1_7, 0, .none⟩)), (21, .slice (subA q0_0 k0_0 (Int.toNat 1) 11) x2_1.length (k0_0 - (Int.toNat 1))), (22, .int .i64 (x2_1.length : Int)), (23, .int .i64 v_0)] [Chunk.box b0_0 36 [.int .i64 0, .int .i64 0, .slice .none 0 0], Chunk.box b1_7 36 [.int .i64 x1_3a.W, .int .i64 x1_3a.H, .slice a1_300 n1_300 c1_300], Chunk.own tInt fx_0 a1_300 n1_300 c1_300 x_0]
    refine WC.seq ?_
    refine WC.region ?_
    refine Lt.ofWL.step rfl rfl rfl (OpV.lss rfl rfl) ?_
    refine WL.nil ?_
    refine En.next ?_
    refine WC.seq ?_
    refine WC.cond rfl ?_ ?_
    ·
      intro hc_1
      replace zh0 := ifO_t hc_1 zh0
      refine WC.skip ?_
      refine En.next ?_
      refine WC.seq ?_
      obtain ⟨zy1, ej1, zh0⟩ := bnd zh0
      refine WC.cut (X := ((List Int)) × ((List Nat))) .normal (fun x => zy1 = x.1) (fun x => match x with | (x_1j, fx_1j) => [(2, .pointer (some ⟨b0_0, 0, .none⟩)), (3, .pointer (some ⟨b1_7, 0, .none⟩)), (21, .slice (subA q0_0 k0_0 (Int.toNat 1) 11) x2_1.length (k0_0 - (Int.toNat 1))), (22, .int .i64 (x2_1.length : Int)), (23, .int .i64 v_0)]) (fun x => match x with | (x_1j, fx_1j) => [Chunk.box b0_0 36 [.int .i64 0, .int .i64 0, .slice .none 0 0], Chunk.box b1_7 36 [.int .i64 x1_3a.W, .int .i64 x1_3a.H, .slice a1_300 n1_300 c1_300], Chunk.own tInt fx_1j a1_300 n1_300 c1_300 x_1j]) ?_ ?_
      ·
        rintro ⟨x_1j, fx_1j⟩ hx
        replace hx : x_1j = zy1 := hx.symm
        subst hx
        show En _ _ _ _ [(2, .pointer (some ⟨b0_0, 0, .none⟩)), (3, .pointer (some ⟨b1_7, 0, .none⟩)), (21, .slice (subA q0_0 k0_0 (Int.toNat 1) 11) x2_1.length (k0_0 - (Int.toNat 1))), (22, .int .i64 (x2_1.length : Int)), (23, .int .i64 v_0)] [Chunk.box b0_0 36 [.int .i64 0, .int .i64 0, .slice .none 0 0], Chunk.box b1_7 36 [.int .i64 x1_3a.W, .int .i64 x1_3a.H, .slice a1_300 n1_300 c1_300], Chunk.own tInt fx_1j a1_300 n1_300 c1_300 x_1j]
        refine En.next ?_
        refine WC.region ?_
        refine Lt.ofWL.step rfl rfl rfl (OpV.addR rfl rfl) ?_
        refine Lt.ofWL.step rfl rfl rfl (OpV.move rfl) ?_
        refine WL.nil ?_
        exact En.backP zb0 zh0 fx_1j (Sub.cons rfl (Sub.cons rfl (Sub.cons rfl (Sub.cons rfl (Sub.cons rfl (Sub.nil _)))))) (fun _ h => h)
      ·
        intro zK1
        refine WC.block ?_
        refine WC.seq ?_
        obtain ⟨x4_0, e4_0, ej1⟩ := bnd ej1
        obtain ⟨g4_0, o4_0, _, ha4_0, ⟨a4_0_1, c4_0_1, rfl, r4_0_1⟩, hd4_0⟩ := Rd.atIdx (Rd.sub r0_0 e2_1) e4_0
        replace hd4_0 : ∀ (j : Nat) v, ([.bool x4_0.On, .int .i64 x4_0.X, .int .i64 x4_0.Y, .int .i64 x4_0.W, .int .i64 x4_0.H, .int .i64 x4_0.Layout, .slice a4_0_1 x4_0.Words.length c4_0_1, .int .i64 x4_0.Alpha, .int .i64 x4_0.Orient, .int .i64 x4_0.ToW, .int .i64 x4_0.ToH] : List Value)[j]? = some v → w.cell? ⟨g4_0, o4_0 + v_0.toNat * 11 + j, .none⟩ = some v := hd4_0
        refine WC.region ?_
        refine Lt.ofWL.step rfl rfl rfl (OpV.idxA rfl rfl se_53 ha4_0 ⟨(idx_some e4_0).1, (idx_some e4_0).2.1⟩) ?_
        refine Lt.ofWL.step rfl rfl rfl (OpV.loadN rfl ag_57 rfl (fun w hs => hs.cellsAt hd4_0)) ?_
        refine WL.heavy rfl rfl rfl (OpH.alloc zc_57 ?_)
        intro b4_2
        refine WL.heavy0 rfl rfl (OpH.storeTo (A := []) [_, _, _, _, _, _, _, _, _, _, _] rfl rfl rfl ts_57 rfl rfl rfl ?_)
        refine WL.nil ?_
        refine En.next ?_
        refine WC.seq ?_
        obtain ⟨⟨x5_1a, x5_1b⟩, e5_1, ej1⟩ := bnd ej1
        refine WC.region ?_
        refine Lt.ofWL.step rfl rfl rfl (OpV.loadAll rfl (.head _) ag_57) ?_
        refine WL.heavy rfl rfl rfl (OpH.callR (evs.cons rfl (evs.nil)) ca_42 (fun w hs => w_impl_PlaneImage e5_1 (r4_0_1.ext hs.below)) ?_)
        rintro _ _ ⟨a5_100, n5_100, c5_100, f5_100, rfl, rfl⟩
        refine Lt.ofWL.step rfl rfl rfl (OpV.move rfl) ?_
        refine Lt.ofWL.step rfl rfl rfl (OpV.extract rfl rfl) ?_
        refine Lt.ofWL.step rfl rfl rfl (OpV.extract rfl rfl) ?_
        refine WL.heavy rfl rfl rfl (OpH.alloc zc_36 ?_)
        intro b5_5
        refine WL.heavy0 rfl rfl (OpH.storeTo (A := []) [_, _, _] rfl rfl rfl ts_36 rfl rfl rfl ?_)
        refine Lt.ofWL.step rfl rfl rfl (OpV.assign rfl) ?_
        refine WL.nil ?_
        refine En.next ?_
        refine WC.seq ?_
        refine WC.seq ?_
        refine WC.region ?_
        refine Lt.ofWL.step rfl rfl rfl (OpV.move rfl) ?_
        refine Lt.ofWL.step rfl rfl rfl (OpV.not rfl) ?_
        refine WL.nil ?_
        refine En.next ?_
        refine WC.cond rfl ?_ ?_
        ·
          intro hc_2
          replace ej1 := ifO_t hc_2 ej1
          refine WC.exit ?_
          refine En.then_exit ?_
          refine En.block_exit ?_
          exact En.wk _ _ (Sub.cons rfl (Sub.cons rfl (Sub.cons rfl (Sub.cons rfl (Sub.cons rfl (Sub.nil _)))))) (fun _ h => ((((h).perm (List.perm_middle (l₁ := [_, _, _, _, _]))).perm (List.perm_middle (l₁ := [_, _, _, _, _]))).perm (List.perm_middle (l₁ := [_, _, _, _, _]))).sub (.cons_cons _ (.cons_cons _ (.cons_cons _ (.cons _ (.cons _ (.cons _ (.slnil)))))))) (zK1 (x_0, fx_0) (Option.some.inj ej1).symm)
        ·
          intro hc_2
          replace ej1 := ifO_f hc_2 ej1
          refine WC.skip ?_
          refine En.next ?_
          refine WC.seq ?_
          refine WC.region ?_
          refine Lt.ofWL.step rfl rfl rfl (OpV.fieldAddr rfl fo_36_2) ?_
          refine Lt.ofWL.step rfl rfl rfl (OpV.loadBox rfl pt_32 (.head _) rfl) ?_
          refine Lt.ofWL.step rfl rfl rfl (OpV.inhF fun hin => OpV.lenO (xs := x5_1a.Data) rfl si_32 rfl (ownLen hin (.tail _ (.head _)))) ?_
          refine Lt.ofWL.step rfl rfl rfl (OpV.move rfl) ?_
          refine WL.nil ?_
          refine En.next ?_
          refine WC.block ?_
          obtain ⟨zy2, ezy2, ej1⟩ := bnd ej1
          refine WC.cut (X := ((List Int)) × ((List Nat))) (.exit 2) (fun x => zy2 = x.1) (fun x => match x with | (x_2e, fx_2e) => [(2, .pointer (some ⟨b0_0, 0, .none⟩)), (3, .pointer (some ⟨b1_7, 0, .none⟩)), (21, .slice (subA q0_0 k0_0 (Int.toNat 1) 11) x2_1.length (k0_0 - (Int.toNat 1))), (22, .int .i64 (x2_1.length : Int)), (23, .int .i64 v_0)]) (fun x => match x with | (x_2e, fx_2e) => [Chunk.box b0_0 36 [.int .i64 0, .int .i64 0, .slice .none 0 0], Chunk.box b1_7 36 [.int .i64 x1_3a.W, .int .i64 x1_3a.H, .slice a1_300 n1_300 c1_300], Chunk.own tInt fx_2e a1_300 n1_300 c1_300 x_2e]) ?_ ?_
          ·
            rintro ⟨x_2e, fx_2e⟩ hx
            replace hx : x_2e = zy2 := hx.symm
            subst hx
            show En _ _ _ _ [(2, .pointer (some ⟨b0_0, 0, .none⟩)), (3, .pointer (some ⟨b1_7, 0, .none⟩)), (21, .slice (subA q0_0 k0_0 (Int.toNat 1) 11) x2_1.length (k0_0 - (Int.toNat 1))), (22, .int .i64 (x2_1.length : Int)), (23, .int .i64 v_0)] [Chunk.box b0_0 36 [.int .i64 0, .int .i64 0, .slice .none 0 0], Chunk.box b1_7 36 [.int .i64 x1_3a.W, .int .i64 x1_3a.H, .slice a1_300 n1_300 c1_300], Chunk.own tInt fx_2e a1_300 n1_300 c1_300 x_2e]
            refine En.block_exit ?_
            refine En.block_norm ?_
            exact En.wk _ _ (Sub.cons rfl (Sub.cons rfl (Sub.cons rfl (Sub.cons rfl (Sub.cons rfl (Sub.nil _)))))) (fun _ h => h) (zK1 (x_2e, fx_2e) (Option.some.inj ej1).symm)
          ·
            intro zK2_0
            refine WC.loopP (G := (List Nat)) (fun s g => match s, g with | (x_2, v_2), fx_2 => [(2, .pointer (some ⟨b0_0, 0, .none⟩)), (3, .pointer (some ⟨b1_7, 0, .none⟩)), (6, .pointer (some ⟨b4_2, 0, .none⟩)), (7, .pointer (some ⟨b5_5, 0, .none⟩)), (21, .slice (subA q0_0 k0_0 (Int.toNat 1) 11) x2_1.length (k0_0 - (Int.toNat 1))), (22, .int .i64 (x2_1.length : Int)), (23, .int .i64 v_0), (35, .slice a5_100 n5_100 c5_100), (36, .int .i64 (x5_1a.Data.length : Int)), (37, .int .i64 v_2)]) (fun s g => match s, g with | (x_2, v_2), fx_2 => [Chunk.box b0_0 36 [.int .i64 0, .int .i64 0, .slice .none 0 0], Chunk.box b1_7 36 [.int .i64 x1_3a.W, .int .i64 x1_3a.H, .slice a1_300 n1_300 c1_300], Chunk.own tInt fx_2 a1_300 n1_300 c1_300 x_2, Chunk.box b4_2 57 [.bool x4_0.On, .int .i64 x4_0.X, .int .i64 x4_0.Y, .int .i64 x4_0.W, .int .i64 x4_0.H, .int .i64 x4_0.Layout, .slice a4_0_1 x4_0.Words.length c4_0_1, .int .i64 x4_0.Alpha, .int .i64 x4_0.Orient, .int .i64 x4_0.ToW, .int .i64 x4_0.ToH], Chunk.box b5_5 36 [.int .i64 x5_1a.W, .int .i64 x5_1a.H, .slice a5_100 n5_100 c5_100], Chunk.own tInt f5_100 a5_100 n5_100 c5_100 x5_1a.Data]) (x_0, 0) fx_0 ezy2 (by exact Sub.cons rfl (Sub.cons rfl (Sub.cons rfl (Sub.cons rfl (Sub.cons rfl (Sub.cons rfl (Sub.cons rfl (Sub.cons rfl (Sub.cons rfl (Sub.cons rfl (Sub.nil _))))))))))) (by exact (fun _ h => ((((((h).perm (List.perm_middle (l₁ := [_]))).perm (List.perm_middle (l₁ := [_]))).perm (List.perm_middle (l₁ := [_, _]))).perm (List.perm_middle (l₁ := [_, _, _, _, _]))).perm (List.perm_middle (l₁ := [_, _, _, _, _]))).perm (List.perm_middle (l₁ := [_, _, _, _, _])))) ?_
            rintro zm2 ⟨x_2, v_2⟩ fx_2 zo2 zf2 zb2 ze2
            have zh2 : impl_scanned_L2 x1_3a x4_0 x5_1a x_2 v_2 = some zo2 := zf2
            unfold impl_scanned_L2 at zh2
            show WC _ _ _ _ _ [(2, .pointer (some ⟨b0_0, 0, .none⟩)), (3, .pointer (some ⟨b1_7, 0, .none⟩)), (6, .pointer (some ⟨b4_2, 0, .none⟩)), (7, .pointer (some ⟨b5_5, 0, .none⟩)), (21, .slice (subA q0_0 k0_0 (Int.toNat 1) 11) x2_1.length (k0_0 - (Int.toNat 1))), (22, .int .i64 (x2_1.length : Int)), (23, .int .i64 v_0), (35, .slice a5_100 n5_100 c5_100), (36, .int .i64 (x5_1a.Data.length : Int)), (37, .int .i64 v_2)] [Chunk.box b0_0 36 [.int .i64 0, .int .i64 0, .slice .none 0 0], Chunk.box b1_7 36 [.int .i64 x1_3a.W, .int .i64 x1_3a.H, .slice a1_300 n1_300 c1_300], Chunk.own tInt fx_2 a1_300 n1_300 c1_300 x_2, Chunk.box b4_2 57 [.bool x4_0.On, .int .i64 x4_0.X, .int .i64 x4_0.Y, .int .i64 x4_0.W, .int .i64 x4_0.H, .int .i64 x4_0.Layout, .slice a4_0_1 x4_0.Words.length c4_0_1, .int .i64 x4_0.Alpha, .int .i64 x4_0.Orient, .int .i64 x4_0.ToW, .int .i64 x4_0.ToH], Chunk.box b5_5 36 [.int .i64 x5_1a.W, .int .i64 x5_1a.H, .slice a5_100 n5_100 c5_100], Chunk.own tInt f5_100 a5_100 n5_100 c5_100 x5_1a.Data]
            refine WC.seq ?_
            refine WC.region ?_
            refine Lt.ofWL.step rfl rfl rfl (OpV.lss rfl rfl) ?_
            refine WL.nil ?_
            refine En.next ?_
            refine WC.seq ?_
            refine WC.cond rfl ?_ ?_
            ·
              intro hc_3
              replace zh2 := ifO_t hc_3 zh2
              refine WC.skip ?_
              refine En.next ?_
              refine WC.seq ?_
              obtain ⟨zy3, ej3, zh2⟩ := bnd zh2
              refine WC.cut (X := ((List Int)) × ((List Nat))) .normal (fun x => zy3 = x.1) (fun x => match x with | (x_3j, fx_3j) => [(2, .pointer (some ⟨b0_0, 0, .none⟩)), (3, .pointer (some ⟨b1_7, 0, .none⟩)), (6, .pointer (some ⟨b4_2, 0, .none⟩)), (7, .pointer (some ⟨b5_5, 0, .none⟩)), (21, .slice (subA q0_0 k0_0 (Int.toNat 1) 11) x2_1.length (k0_0 - (Int.toNat 1))), (22, .int .i64 (x2_1.length : Int)), (23, .int .i64 v_0), (35, .slice a5_100 n5_100 c5_100), (36, .int .i64 (x5_1a.Data.length : Int)), (37, .int .i64 v_2)]) (fun x => match x with | (x_3j, fx_3j) => [Chunk.box b0_0 36 [.int .i64 0, .int .i64 0, .slice .none 0 0], Chunk.box b1_7 36 [.int .i64 x1_3a.W, .int .i64 x1_3a.H, .slice a1_300 n1_300 c1_300], Chunk.own tInt fx_3j a1_300 n1_300 c1_300 x_3j, Chunk.box b4_2 57 [.bool x4_0.On, .int .i64 x4_0.X, .int .i64 x4_0.Y, .int .i64 x4_0.W, .int .i64 x4_0.H, .int .i64 x4_0.Layout, .slice a4_0_1 x4_0.Words.length c4_0_1, .int .i64 x4_0.Alpha, .int .i64 x4_0.Orient, .int .i64 x4_0.ToW, .int .i64 x4_0.ToH], Chunk.box b5_5 36 [.int .i64 x5_1a.W, .int .i64 x5_1a.H, .slice a5_100 n5_100 c5_100], Chunk.own tInt f5_100 a5_100 n5_100 c5_100 x5_1a.Data]) ?_ ?_
              ·
                rintro ⟨x_3j, fx_3j⟩ hx
                replace hx : x_3j = zy3 := hx.symm
                subst hx
                show En _ _ _ _ [(2, .pointer (some ⟨b0_0, 0, .none⟩)), (3, .pointer (some ⟨b1_7, 0, .none⟩)), (6, .pointer (some ⟨b4_2, 0, .none⟩)), (7, .pointer (some ⟨b5_5, 0, .none⟩)), (21, .slice (subA q0_0 k0_0 (Int.toNat 1) 11) x2_1.length (k0_0 - (Int.toNat 1))), (22, .int .i64 (x2_1.length : Int)), (23, .int .i64 v_0), (35, .slice a5_100 n5_100 c5_100), (36, .int .i64 (x5_1a.Data.length : Int)), (37, .int .i64 v_2)] [Chunk.box b0_0 36 [.int .i64 0, .int .i64 0, .slice .none 0 0], Chunk.box b1_7 36 [.int .i64 x1_3a.W, .int .i64 x1_3a.H, .slice a1_300 n1_300 c1_300], Chunk.own tInt fx_3j a1_300 n1_300 c1_300 x_3j, Chunk.box b4_2 57 [.bool x4_0.On, .int .i64 x4_0.X, .int .i64 x4_0.Y, .int .i64 x4_0.W, .int .i64 x4_0.H, .int .i64 x4_0.Layout, .slice a4_0_1 x4_0.Words.length c4_0_1, .int .i64 x4_0.Alpha, .int .i64 x4_0.Orient, .int .i64 x4_0.ToW, .int .i64 x4_0.ToH], Chunk.box b5_5 36 [.int .i64 x5_1a.W, .int .i64 x5_1a.H, .slice a5_100 n5_100 c5_100], Chunk.own tInt f5_100 a5_100 n5_100 c5_100 x5_1a.Data]
                refine En.next ?_
                refine WC.region ?_
                refine Lt.ofWL.step rfl rfl rfl (OpV.addR rfl rfl) ?_
                refine Lt.ofWL.step rfl rfl rfl (OpV.move rfl) ?_
                refine WL.nil ?_
                exact En.backP zb2 zh2 fx_3j (Sub.cons rfl (Sub.cons rfl (Sub.cons rfl (Sub.cons rfl (Sub.cons rfl (Sub.cons rfl (Sub.cons rfl (Sub.cons rfl (Sub.cons rfl (Sub.cons rfl (Sub.nil _))))))))))) (fun _ h => h)
              ·
                intro zK3
                refine WC.block ?_
                refine WC.seq ?_
                refine WC.inh fun hin9 => ?_
                obtain ⟨x9_1, e9_1, ej3⟩ := bnd ej3
                obtain ⟨g9_1, ha9_1⟩ := ownAddr hin9 (.tail _ (.tail _ (.tail _ (.tail _ (.tail _ (.head _)))))) e9_1
                have hn9_1 := ownLen hin9 (.tail _ (.tail _ (.tail _ (.tail _ (.tail _ (.head _))))))
                refine WC.region ?_
                refine Lt.ofWL.step rfl rfl rfl (OpV.move rfl) ?_
                refine Lt.ofWL.step rfl rfl rfl (OpV.idxA rfl rfl se_32 ha9_1 ⟨(idx_some e9_1).1, by rw [hn9_1]; exact (idx_some e9_1).2.1⟩) ?_
                refine Lt.ofWL.step rfl rfl rfl (OpV.load1 rfl pt_3 (fun w hs => Rd.cell1 tInt_flat (Ow.rd (hs.mem (.tail _ (.tail _ (.tail _ (.tail _ (.tail _ (.head _)))))))) e9_1 ha9_1 rfl)) ?_
                refine Lt.ofWL.step rfl rfl rfl (OpV.assign rfl) ?_
                refine Lt.ofWL.step rfl rfl rfl (OpV.assign rfl) ?_
                refine WL.nil ?_
                refine En.next ?_
                refine WC.seq ?_
                obtain ⟨x10_5, e10_5, ej3⟩ := bnd ej3
                obtain ⟨x10_12, e10_12, ej3⟩ := bnd ej3
                refine WC.drawn [(2, ?r10v2), (3, ?r10v3), (6, ?r10v6), (7, ?r10v7), (10, ?r10v10), (11, ?r10v11), (12, ?r10v12), (21, ?r10v21), (22, ?r10v22), (23, ?r10v23), (35, ?r10v35), (36, ?r10v36), (37, ?r10v37)] (by kernel_rfl) (by kernel_rfl) ?dH10 ?dK10
                case dH10 =>
                  intro W hW hk
                  refine hW.step rfl rfl rfl (OpV.fieldAddr rfl fo_57_1) ?_
                  refine hW.step rfl rfl rfl (OpV.loadBox rfl pt_3 (.tail _ (.tail _ (.tail _ (.head _)))) rfl) ?_
                  refine hW.step rfl rfl rfl (OpV.move rfl) ?_
                  refine hW.step rfl rfl rfl (OpV.fieldAddr rfl fo_36_0) ?_
                  refine hW.step rfl rfl rfl (OpV.loadBox rfl pt_3 (.tail _ (.tail _ (.tail _ (.tail _ (.head _))))) rfl) ?_
                  refine hW.step rfl rfl rfl (OpV.remR rfl rfl e10_5) ?_
                  refine hW.step rfl rfl rfl (OpV.addR rfl rfl) ?_
                  refine hW.step rfl rfl rfl (OpV.fieldAddr rfl fo_57_2) ?_
                  refine hW.step rfl rfl rfl (OpV.loadBox rfl pt_3 (.tail _ (.tail _ (.tail _ (.head _)))) rfl) ?_
                  refine hW.step rfl rfl rfl (OpV.move rfl) ?_
                  refine hW.step rfl rfl rfl (OpV.fieldAddr rfl fo_36_0) ?_
                  refine hW.step rfl rfl rfl (OpV.loadBox rfl pt_3 (.tail _ (.tail _ (.tail _ (.tail _ (.head _))))) rfl) ?_
                  refine hW.step rfl rfl rfl (OpV.quoR rfl rfl e10_12) ?_
                  refine hW.step rfl rfl rfl (OpV.addR rfl rfl) ?_
                  refine hW.step rfl rfl rfl (OpV.assign rfl) ?_
                  refine hW.step rfl rfl rfl (OpV.assign rfl) ?_
                  refine hk _ ?_
                  refine Sub.cons ?_ (Sub.cons ?_ (Sub.cons ?_ (Sub.cons ?_ (Sub.cons ?_ (Sub.cons ?_ (Sub.cons ?_ (Sub.cons ?_ (Sub.cons ?_ (Sub.cons ?_ (Sub.cons ?_ (Sub.cons ?_ (Sub.cons ?_ (Sub.nil _)))))))))))))
                  all_goals exact rfl
                refine En.next ?_
                refine WC.seq ?_
                obtain ⟨x11_4, e11_4, ej3⟩ := bnd ej3
                obtain ⟨q11_11, e11_11, ej3⟩ := bnd ej3
                refine WC.region ?_
                refine Lt.ofWL.step rfl rfl rfl (OpV.move rfl) ?_
                refine Lt.ofWL.step rfl rfl rfl (OpV.fieldAddr rfl fo_36_0) ?_
                refine Lt.ofWL.step rfl rfl rfl (OpV.loadBox rfl pt_3 (.tail _ (.head _)) rfl) ?_
                refine Lt.ofWL.step rfl rfl rfl (OpV.subR rfl rfl) ?_
                refine Lt.ofWL.step rfl rfl rfl (OpV.call (evs.cons rfl (evs.cons rfl (evs.cons rfl (evs.nil)))) ca_91 (fun w hs => w_impl_within e11_4)) ?_
                refine Lt.ofWL.step rfl rfl rfl (OpV.move rfl) ?_
                refine Lt.ofWL.andQ 61 67 66 (p := ?pz1) (rest := ?qz1) (B := q11_11) rfl (fun hz => andO_f e11_11 hz) ?Tz1 ?Fz1 ?az1 ?bz1 ?cz1 ?dz1 ?ez1
                case Tz1 =>
                  intro hcz1 hkz1
                  have hqz1 := andO_t e11_11 hcz1
                  obtain ⟨x11_10, e11_10, hqz1⟩ := bnd hqz1
                  obtain rfl := Option.some.inj hqz1
                  refine Lt.ofWL.step rfl rfl rfl (OpV.move rfl) ?_
                  refine Lt.ofWL.step rfl rfl rfl (OpV.fieldAddr rfl fo_36_1) ?_
                  refine Lt.ofWL.step rfl rfl rfl (OpV.loadBox rfl pt_3 (.tail _ (.head _)) rfl) ?_
                  refine Lt.ofWL.step rfl rfl rfl (OpV.subR rfl rfl) ?_
                  refine Lt.ofWL.step rfl rfl rfl (OpV.call (evs.cons rfl (evs.cons rfl (evs.cons rfl (evs.nil)))) ca_91 (fun w hs => w_impl_within e11_10)) ?_
                  refine hkz1 _ ?_ ?_
                  exact rfl
                  repeat (first | exact Sub.refl _ | refine Sub.skip rfl ?_)
                case Fz1 =>
                  intro hcz1 hkz1
                  refine Lt.ofWL.skip rfl rfl rfl ?_
                  refine Lt.ofWL.skip rfl rfl rfl ?_
                  refine Lt.ofWL.skip rfl rfl rfl ?_
                  refine Lt.ofWL.skip rfl rfl rfl ?_
                  refine Lt.ofWL.skip rfl rfl rfl ?_
                  refine hkz1 _ ?_
                  repeat (first | exact Sub.refl _ | refine Sub.skip rfl ?_)
                case az1 => exact rfl
                case bz1 => exact rfl
                case cz1 => exact rfl
                case dz1 => exact rfl
                refine WL.nil ?_
                refine En.next ?_
                refine WC.cond rfl ?_ ?_
                ·
                  intro hc_4
                  replace ej3 := ifO_t hc_4 ej3
                  refine WC.inh fun hin12 => ?_
                  obtain ⟨x12_17, e12_17, ej3⟩ := bnd ej3
                  obtain ⟨g12_17, ha12_17⟩ := ownAddr hin12 (.tail _ (.tail _ (.head _))) e12_17
                  have hn12_17 := ownLen hin12 (.tail _ (.tail _ (.head _)))
                  obtain ⟨x12_19, e12_19, ej3⟩ := bnd ej3
                  have hn12_20 := ownLen hin12 (.tail _ (.tail _ (.head _)))
                  obtain ⟨x12_21, e12_21, ej3⟩ := bnd ej3
                  obtain ⟨g12_20, ha12_20⟩ := ownAddrU hin12 (.tail _ (.tail _ (.head _))) e12_21
                  refine WC.wkF (fun _ h => h.perm (List.perm_middle (l₁ := [_, _]))) ?_
                  refine WC.drawnH [_] ([_, _, _, _, _]) (fun _ h => h) (by kernel_rfl) ?_
                  refine WAE.take (i := 0) rfl (by kernel_rfl) (by kernel_rfl) (by kernel_rfl) rfl rfl rfl (OpV.fieldAddr rfl fo_36_2) ?_
                  refine WAE.take (i := 1) rfl (by kernel_rfl) (by kernel_rfl) (by kernel_rfl) rfl rfl rfl (OpV.loadBox rfl pt_32 (.tail _ (.head _)) rfl) ?_
                  refine WAE.take (i := 2) rfl (by kernel_rfl) (by kernel_rfl) (by kernel_rfl) rfl rfl rfl (OpV.move rfl) ?_
                  refine WAE.take (i := 3) rfl (by kernel_rfl) (by kernel_rfl) (by kernel_rfl) rfl rfl rfl (OpV.fieldAddr rfl fo_36_0) ?_
                  refine WAE.take (i := 4) rfl (by kernel_rfl) (by kernel_rfl) (by kernel_rfl) rfl rfl rfl (OpV.loadBox rfl pt_3 (.tail _ (.head _)) rfl) ?_
                  refine WAE.take (i := 5) rfl (by kernel_rfl) (by kernel_rfl) (by kernel_rfl) rfl rfl rfl (OpV.mulR rfl rfl) ?_
                  refine WAE.take (i := 6) rfl (by kernel_rfl) (by kernel_rfl) (by kernel_rfl) rfl rfl rfl (OpV.move rfl) ?_
                  refine WAE.take (i := 7) rfl (by kernel_rfl) (by kernel_rfl) (by kernel_rfl) rfl rfl rfl (OpV.addR rfl rfl) ?_
                  refine WAE.take (i := 8) rfl (by kernel_rfl) (by kernel_rfl) (by kernel_rfl) rfl rfl rfl (OpV.move rfl) ?_
                  refine WAE.take (i := 9) rfl (by kernel_rfl) (by kernel_rfl) (by kernel_rfl) rfl rfl rfl (OpV.fieldAddr rfl fo_36_2) ?_
                  refine WAE.take (i := 10) rfl (by kernel_rfl) (by kernel_rfl) (by kernel_rfl) rfl rfl rfl (OpV.loadBox rfl pt_32 (.tail _ (.head _)) rfl) ?_
                  refine WAE.take (i := 11) rfl (by kernel_rfl) (by kernel_rfl) (by kernel_rfl) rfl rfl rfl (OpV.move rfl) ?_
                  refine WAE.take (i := 12) rfl (by kernel_rfl) (by kernel_rfl) (by kernel_rfl) rfl rfl rfl (OpV.fieldAddr rfl fo_36_0) ?_
                  refine WAE.take (i := 13) rfl (by kernel_rfl) (by kernel_rfl) (by kernel_rfl) rfl rfl rfl (OpV.loadBox rfl pt_3 (.tail _ (.head _)) rfl) ?_
                  refine WAE.take (i := 14) rfl (by kernel_rfl) (by kernel_rfl) (by kernel_rfl) rfl rfl rfl (OpV.mulR rfl rfl) ?_
                  refine WAE.take (i := 15) rfl (by kernel_rfl) (by kernel_rfl) (by kernel_rfl) rfl rfl rfl (OpV.move rfl) ?_
                  refine WAE.take (i := 16) rfl (by kernel_rfl) (by kernel_rfl) (by kernel_rfl) rfl rfl rfl (OpV.addR rfl rfl) ?_
                  refine WAE.take (i := 17) rfl (by kernel_rfl) (by kernel_rfl) (by kernel_rfl) rfl rfl rfl (OpV.idxA rfl rfl se_32 ha12_17 ⟨(idx_some e12_17).1, by rw [hn12_17]; exact (idx_some e12_17).2.1⟩) ?_
                  refine WAE.all (rs := [18]) (by kernel_rfl) rfl (AllR.cons rfl rfl rfl rfl ?_ AllR.nil)
                  refine OpH.light (OpV.load1 rfl pt_3 (fun w hs => Rd.cell1 tInt_flat (Ow.rd (hs.mem (.head _))) e12_17 ha12_17 rfl)) ?_
                  refine ⟨[_], rfl, ?_⟩
                  refine WAE.take (i := 19) rfl (by kernel_rfl) (by kernel_rfl) (by kernel_rfl) rfl rfl rfl (OpV.call (evs.cons rfl (evs.cons rfl (evs.nil))) ca_140 (fun w hs => w_impl_Over e12_19)) ?_
                  refine WAE.take (i := 20) rfl (by kernel_rfl) (by kernel_rfl) (by kernel_rfl) rfl rfl rfl (OpV.idxA rfl rfl se_32 ha12_20 ⟨(upd_some e12_21).1.1, by rw [hn12_20]; exact (upd_some e12_21).1.2⟩) ?_
                  refine WAE.all (rs := [21]) (by kernel_rfl) rfl (AllR.cons0 rfl rfl rfl ?_ AllR.nil)
                  refine OpH.wkF (fun _ h => St.elFlat tInt_flat x12_19 h) ?_
                  refine OpH.setEl (A := tInt) ha12_20 rfl rfl rfl ts_3 e12_21 ?_
                  intro f12_21
                  refine ⟨[_], rfl, ?_⟩
                  refine WAE.rebase (H := []) ?_
                  refine WAE.done (by kernel_rfl) ?_ _
                  refine En.block_norm ?_
                  exact En.wk _ _ (Sub.cons rfl (Sub.cons rfl (Sub.cons rfl (Sub.cons rfl (Sub.cons rfl (Sub.cons rfl (Sub.cons rfl (Sub.cons rfl (Sub.cons rfl (Sub.cons rfl (Sub.nil _))))))))))) (fun _ h => ((((((h).perm (List.perm_middle (l₁ := [_, _, _, _, _]))).perm (List.perm_middle (l₁ := [_, _, _, _, _]))).perm (List.perm_middle (l₁ := [_, _, _, _, _]))).perm (List.perm_middle (l₁ := [_, _, _]))).perm (List.perm_middle (l₁ := [_, _, _, _, _]))).perm (List.perm_middle (l₁ := [_, _, _, _, _]))) (zK3 (x12_21, f12_21) (Option.some.inj ej3).symm)
                ·
                  intro hc_4
                  replace ej3 := ifO_f hc_4 ej3
                  refine WC.skip ?_
                  refine En.block_norm ?_
                  exact En.wk _ _ (Sub.cons rfl (Sub.cons rfl (Sub.cons rfl (Sub.cons rfl (Sub.cons rfl (Sub.cons rfl (Sub.cons rfl (Sub.cons rfl (Sub.cons rfl (Sub.cons rfl (Sub.nil _))))))))))) (fun _ h => h) (zK3 (x_2, fx_2) (Option.some.inj ej3).symm)
            ·
              intro hc_3
              replace zh2 := ifO_f hc_3 zh2
              refine WC.exit ?_
              refine En.then_exit ?_
              refine En.then_exit ?_
              have hx := exitP ze2 zh2
              exact En.wk _ _ (Sub.cons rfl (Sub.cons rfl (Sub.cons rfl (Sub.cons rfl (Sub.cons rfl (Sub.nil _)))))) (fun _ h => (h).sub (.cons_cons _ (.cons_cons _ (.cons_cons _ (.cons _ (.cons _ (.cons _ (.slnil)))))))) (zK2_0 (x_2, fx_2) hx.symm)
    ·
      intro hc_1
      replace zh0 := ifO_f hc_1 zh0
      refine WC.exit ?_
      refine En.then_exit ?_
      refine En.then_exit ?_
      have hx := exitP ze0 zh0
      exact En.wk _ _ (Sub.cons rfl (Sub.cons rfl (Sub.nil _))) (fun _ h => h) (zK0_0 (x_0, fx_0) hx.symm)

theorem w_impl_ScanPixel {list_p0 : List PlaneT} {w_p1 : Int} {h_p2 : Int} {x_p3 : Int} {y_p4 : Int} {r : Int} {q0_0 : Option Addr} {n0_0 k0_0 : Nat} (h : impl_ScanPixel list_p0 w_p1 h_p2 x_p3 y_p4 = some r) {w : World} (r0_0 : Rd tPlane w q0_0 n0_0 k0_0 list_p0)   :
    Calls Try.prog 57 #[.slice q0_0 n0_0 k0_0, .int .i64 w_p1, .int .i64 h_p2, .int .i64 x_p3, .int .i64 y_p4] w (fun en w' => en = .returned (.int .i64 r) ∧ Ext w w') := by
  obtain rfl := r0_0.1
  unfold impl_ScanPixel at h
  refine enter (vs := [_, _, _, _, _]) Try.func57 rfl rfl rfl rfl ?_
  refine WC.seq ?_
  refine WC.region ?_
  refine Lt.ofWL.step rfl rfl rfl (OpV.assign rfl) ?_
  refine WL.nil ?_
  refine En.next ?_
  refine WC.seq ?_
  refine WC.seq ?_
  obtain ⟨x1_3, e1_3, h⟩ := bnd h
  obtain ⟨q1_11, e1_11, h⟩ := bnd h
  obtain ⟨q1_18, e1_18, h⟩ := bnd h
  refine WC.region ?_
  refine Lt.ofWL.step rfl rfl rfl (OpV.move rfl) ?_
  refine Lt.ofWL.step rfl rfl rfl (OpV.move rfl) ?_
  refine Lt.ofWL.step rfl rfl rfl (OpV.move rfl) ?_
  refine Lt.ofWL.step rfl rfl rfl (OpV.call (evs.cons rfl (evs.cons rfl (evs.cons rfl (evs.nil)))) ca_37 (fun w hs => w_impl_PlanesOk e1_3 (r0_0.ext hs.below))) ?_
  refine Lt.ofWL.step rfl rfl rfl (OpV.not rfl) ?_
  refine Lt.ofWL.step rfl rfl rfl (OpV.move rfl) ?_
  refine Lt.ofWL.orQ 16 22 21 (p := ?pz1) (rest := ?qz1) (B := q1_11) rfl (fun hz => orO_t e1_11 hz) ?Tz1 ?Fz1 ?az1 ?bz1 ?cz1 ?dz1 ?ez1
  case Tz1 =>
    intro hcz1 hkz1
    refine Lt.ofWL.skip rfl rfl rfl ?_
    refine Lt.ofWL.skip rfl rfl rfl ?_
    refine Lt.ofWL.skip rfl rfl rfl ?_
    refine Lt.ofWL.skip rfl rfl rfl ?_
    refine Lt.ofWL.skip rfl rfl rfl ?_
    refine hkz1 _ ?_
    repeat (first | exact Sub.refl _ | refine Sub.skip rfl ?_)
  case Fz1 =>
    intro hcz1 hkz1
    have hqz1 := orO_f e1_11 hcz1
    obtain ⟨x1_9, e1_9, hqz1⟩ := bnd hqz1
    obtain rfl := Option.some.inj hqz1
    refine Lt.ofWL.step rfl rfl rfl (OpV.move rfl) ?_
    refine Lt.ofWL.step rfl rfl rfl (OpV.move rfl) ?_
    refine Lt.ofWL.step rfl rfl rfl (OpV.subR rfl rfl) ?_
    refine Lt.ofWL.step rfl rfl rfl (OpV.call (evs.cons rfl (evs.cons rfl (evs.cons rfl (evs.nil)))) ca_91 (fun w hs => w_impl_within e1_9)) ?_
    refine Lt.ofWL.step rfl rfl rfl (OpV.not rfl) ?_
    refine hkz1 _ ?_ ?_
    exact rfl
    repeat (first | exact Sub.refl _ | refine Sub.skip rfl ?_)
  case az1 => exact rfl
  case bz1 => exact rfl
  case cz1 => exact rfl
  case dz1 => exact rfl
  refine Lt.ofWL.step rfl rfl rfl (OpV.move rfl) ?_
  refine Lt.ofWL.orQ 23 29 28 (p := ?pz2) (rest := ?qz2) (B := q1_18) rfl (fun hz => orO_t e1_18 hz) ?Tz2 ?Fz2 ?az2 ?bz2 ?cz2 ?dz2 ?ez2
  case Tz2 =>
    intro hcz2 hkz2
    refine Lt.ofWL.skip rfl rfl rfl ?_
    refine Lt.ofWL.skip rfl rfl rfl ?_
    refine Lt.ofWL.skip rfl rfl rfl ?_
    refine Lt.ofWL.skip rfl rfl rfl ?_
    refine Lt.ofWL.skip rfl rfl rfl ?_
    refine hkz2 _ ?_
    repeat (first | exact Sub.refl _ | refine Sub.skip rfl ?_)
  case Fz2 =>
    intro hcz2 hkz2
    have hqz2 := orO_f e1_18 hcz2
    obtain ⟨x1_16, e1_16, hqz2⟩ := bnd hqz2
    obtain rfl := Option.some.inj hqz2
    refine Lt.ofWL.step rfl rfl rfl (OpV.move rfl) ?_
    refine Lt.ofWL.step rfl rfl rfl (OpV.move rfl) ?_
    refine Lt.ofWL.step rfl rfl rfl (OpV.subR rfl rfl) ?_
    refine Lt.ofWL.step rfl rfl rfl (OpV.call (evs.cons rfl (evs.cons rfl (evs.cons rfl (evs.nil)))) ca_91 (fun w hs => w_impl_within e1_16)) ?_
    refine Lt.ofWL.step rfl rfl rfl (OpV.not rfl) ?_
    refine hkz2 _ ?_ ?_
    exact rfl
    repeat (first | exact Sub.refl _ | refine Sub.skip rfl ?_)
  case az2 => exact rfl
  case bz2 => exact rfl
  case cz2 => exact rfl
  case dz2 => exact rfl
  refine WL.nil ?_
  refine En.next ?_
  refine WC.cond rfl ?_ ?_
  ·
    intro hc_1
    replace h := ifO_t hc_1 h
    refine WC.seq ?_
    refine WC.region ?_
    refine Lt.ofWL.step rfl rfl rfl (OpV.assign rfl) ?_
    refine WL.nil ?_
    refine En.next ?_
    refine WC.ret ?_
    refine En.then_ret ?_
    refine En.ret1 rfl (Res.tmp rfl) ?_
    obtain rfl := Option.some.inj h
    intro w' hs
    exact ⟨rfl, hs.below⟩
  ·
    intro hc_1
    replace h := ifO_f hc_1 h
    refine WC.skip ?_
    refine En.next ?_
    refine WC.seq ?_
    obtain ⟨x3_1, e3_1, h⟩ := bnd h
    obtain ⟨x3_8, e3_8, h⟩ := bnd h
    refine WC.region ?_
    refine Lt.ofWL.step rfl rfl rfl (OpV.move rfl) ?_
    refine WL.heavy rfl rfl rfl (OpH.callR (evs.cons rfl (evs.nil)) ca_90 (fun w hs => w_impl_scanned e3_1 (r0_0.ext hs.below)) ?_)
    rintro _ _ ⟨a3_100, n3_100, c3_100, f3_100, rfl, rfl⟩
    refine Lt.ofWL.step rfl rfl rfl (OpV.field1 rfl ft_36_2 pt_32 rfl) ?_
    refine Lt.ofWL.step rfl rfl rfl (OpV.move rfl) ?_
    refine Lt.ofWL.step rfl rfl rfl (OpV.move rfl) ?_
    refine Lt.ofWL.step rfl rfl rfl (OpV.mulR rfl rfl) ?_
    refine Lt.ofWL.step rfl rfl rfl (OpV.move rfl) ?_
    refine Lt.ofWL.step rfl rfl rfl (OpV.addR rfl rfl) ?_
    refine WL.inh fun hin3_8 => ?_
    obtain ⟨g3_8, ha3_8⟩ := ownAddr hin3_8 (.head _) e3_8
    have hn3_8 := ownLen hin3_8 (.head _)
    refine Lt.ofWL.step rfl rfl rfl (OpV.idxA rfl rfl se_32 ha3_8 ⟨(idx_some e3_8).1, by rw [hn3_8]; exact (idx_some e3_8).2.1⟩) ?_
    refine Lt.ofWL.step rfl rfl rfl (OpV.load1 rfl pt_3 (fun w hs => Rd.cell1 tInt_flat (Ow.rd (hs.mem (.head _))) e3_8 ha3_8 rfl)) ?_
    refine Lt.ofWL.step rfl rfl rfl (OpV.assign rfl) ?_
    refine WL.nil ?_
    refine En.next ?_
    refine WC.ret ?_
    refine En.ret1 rfl (Res.tmp rfl) ?_
    obtain rfl := Option.some.inj h
    intro w' hs
    exact ⟨rfl, hs.below⟩

theorem w_laws_FnExactScanPixel {aList_p0 : List PlaneT} {aW_p1 : Int} {aH_p2 : Int} {aX_p3 : Int} {aY_p4 : Int} {r : Bool} {q0_0 : Option Addr} {n0_0 k0_0 : Nat} (h : laws_FnExactScanPixel aList_p0 aW_p1 aH_p2 aX_p3 aY_p4 = some r) {w : World} (r0_0 : Rd tPlane w q0_0 n0_0 k0_0 aList_p0)   :
    Calls Try.prog 12 #[.slice q0_0 n0_0 k0_0, .int .i64 aW_p1, .int .i64 aH_p2, .int .i64 aX_p3, .int .i64 aY_p4] w (fun en w' => en = .returned (.bool r) ∧ Ext w w') := by
  obtain rfl := r0_0.1
  unfold laws_FnExactScanPixel at h
  refine enter (vs := [_, _, _, _, _]) Try.func12 rfl rfl rfl rfl ?_
  refine WC.seq ?_
  refine WC.region ?_
  refine Lt.ofWL.step rfl rfl rfl (OpV.assign rfl) ?_
  refine WL.nil ?_
  refine En.next ?_
  refine WC.seq ?_
  refine WC.region ?_
  refine Lt.ofWL.step rfl rfl rfl (OpV.assign rfl) ?_
  refine WL.nil ?_
  refine En.next ?_
  refine WC.seq ?_
  obtain ⟨x2_2, e2_2, h⟩ := bnd h
  refine WC.region ?_
  refine Lt.ofWL.step rfl rfl rfl (OpV.move rfl) ?_
  refine Lt.ofWL.step rfl rfl rfl (OpV.move rfl) ?_
  refine Lt.ofWL.step rfl rfl rfl (OpV.call (evs.cons rfl (evs.cons rfl (evs.nil))) ca_49 (fun w hs => w_laws_szPlaneS e2_2 (r0_0.ext hs.below))) ?_
  refine Lt.ofWL.step rfl rfl rfl (OpV.assign rfl) ?_
  refine WL.nil ?_
  refine En.next ?_
  refine WC.seq ?_
  refine WC.seq ?_
  refine WC.region ?_
  refine Lt.ofWL.step rfl rfl rfl (OpV.move rfl) ?_
  refine Lt.ofWL.step rfl rfl rfl (OpV.lss rfl rfl) ?_
  refine WL.nil ?_
  refine En.next ?_
  refine WC.cond rfl ?_ ?_
  ·
    intro hc_1
    replace h := ifO_t hc_1 h
    refine WC.seq ?_
    refine WC.region ?_
    refine Lt.ofWL.step rfl rfl rfl (OpV.assign rfl) ?_
    refine WL.nil ?_
    refine En.next ?_
    refine WC.ret ?_
    refine En.then_ret ?_
    refine En.ret1 rfl (Res.tmp rfl) ?_
    obtain rfl := Option.some.inj h
    intro w' hs
    exact ⟨rfl, hs.below⟩
  ·
    intro hc_1
    replace h := ifO_f hc_1 h
    refine WC.skip ?_
    refine En.next ?_
    refine WC.seq ?_
    obtain ⟨x5_1, e5_1, h⟩ := bnd h
    obtain ⟨x5_6, e5_6, h⟩ := bnd h
    refine WC.region ?_
    refine Lt.ofWL.step rfl rfl rfl (OpV.move rfl) ?_
    refine WL.heavy rfl rfl rfl (OpH.callR (evs.cons rfl (evs.nil)) ca_51 (fun w hs => w_laws_toPlaneS e5_1 (r0_0.ext hs.below)) ?_)
    rintro _ _ ⟨a5_100, n5_100, c5_100, f5_100, rfl, rfl⟩
    refine Lt.ofWL.step rfl rfl rfl (OpV.move rfl) ?_
    refine Lt.ofWL.step rfl rfl rfl (OpV.move rfl) ?_
    refine Lt.ofWL.step rfl rfl rfl (OpV.move rfl) ?_
    refine Lt.ofWL.step rfl rfl rfl (OpV.move rfl) ?_
    refine Lt.ofWL.step rfl rfl rfl (OpV.call (evs.cons rfl (evs.cons rfl (evs.cons rfl (evs.cons rfl (evs.cons rfl (evs.nil)))))) ca_64 (fun w hs => w_spec_ScanPixel e5_6 (Ow.rd (hs.mem (.head _))))) ?_
    refine Lt.ofWL.step rfl rfl rfl (OpV.assign rfl) ?_
    refine WL.nil ?_
    refine En.next ?_
    refine WC.seq ?_
    obtain ⟨x6_1, e6_1, h⟩ := bnd h
    refine WC.region ?_
    refine Lt.ofWL.step rfl rfl rfl (OpV.move rfl) ?_
    refine WL.heavy rfl rfl rfl (OpH.callR (evs.cons rfl (evs.nil)) ca_51 (fun w hs => w_laws_toPlaneS e6_1 (r0_0.ext hs.below)) ?_)
    rintro _ _ ⟨a6_100, n6_100, c6_100, f6_100, rfl, rfl⟩
    refine Lt.ofWL.step rfl rfl rfl (OpV.assign rfl) ?_
    refine WL.nil ?_
    refine En.next ?_
    refine WC.seq ?_
    obtain ⟨x7_5, e7_5, h⟩ := bnd h
    refine WC.region ?_
    refine Lt.ofWL.step rfl rfl rfl (OpV.move rfl) ?_
    refine Lt.ofWL.step rfl rfl rfl (OpV.move rfl) ?_
    refine Lt.ofWL.step rfl rfl rfl (OpV.move rfl) ?_
    refine Lt.ofWL.step rfl rfl rfl (OpV.move rfl) ?_
    refine Lt.ofWL.step rfl rfl rfl (OpV.move rfl) ?_
    refine Lt.ofWL.step rfl rfl rfl (OpV.call (evs.cons rfl (evs.cons rfl (evs.cons rfl (evs.cons rfl (evs.cons rfl (evs.nil)))))) ca_57 (fun w hs => w_impl_ScanPixel e7_5 (Ow.rd (hs.mem (.head _))))) ?_
    refine Lt.ofWL.step rfl rfl rfl (OpV.assign rfl) ?_
    refine WL.nil ?_
    refine En.next ?_
    refine WC.seq ?_
    refine WC.seq ?_
    refine WC.region ?_
    refine Lt.ofWL.step rfl rfl rfl (OpV.move rfl) ?_
    refine Lt.ofWL.step rfl rfl rfl (OpV.move rfl) ?_
    refine Lt.ofWL.step rfl rfl rfl (OpV.neq rfl rfl) ?_
    refine WL.nil ?_
    refine En.next ?_
    refine WC.cond rfl ?_ ?_
    ·
      intro hc_2
      replace h := ifO_t hc_2 h
      refine WC.seq ?_
      refine WC.region ?_
      refine Lt.ofWL.step rfl rfl rfl (OpV.assign rfl) ?_
      refine WL.nil ?_
      refine En.next ?_
      refine WC.ret ?_
      refine En.then_ret ?_
      refine En.ret1 rfl (Res.tmp rfl) ?_
      obtain rfl := Option.some.inj h
      intro w' hs
      exact ⟨rfl, hs.below⟩
    ·
      intro hc_2
      replace h := ifO_f hc_2 h
      refine WC.skip ?_
      refine En.next ?_
      refine WC.seq ?_
      refine WC.seq ?_
      obtain ⟨x10_2, e10_2, h⟩ := bnd h
      obtain ⟨x10_3, e10_3, h⟩ := bnd h
      refine WC.region ?_
      refine Lt.ofWL.step rfl rfl rfl (OpV.move rfl) ?_
      refine Lt.ofWL.step rfl rfl rfl (OpV.move rfl) ?_
      refine WL.heavy rfl rfl rfl (OpH.callR (evs.cons rfl (evs.nil)) ca_51 (fun w hs => w_laws_toPlaneS e10_2 (r0_0.ext hs.below)) ?_)
      rintro _ _ ⟨a10_200, n10_200, c10_200, f10_200, rfl, rfl⟩
      refine Lt.ofWL.step rfl rfl rfl (OpV.call (evs.cons rfl (evs.cons rfl (evs.nil))) ca_52 (fun w hs => w_laws_eqPlaneS e10_3 (Ow.rd (hs.mem (.tail _ (.head _)))) (Ow.rd (hs.mem (.head _))))) ?_
      refine Lt.ofWL.step rfl rfl rfl (OpV.not rfl) ?_
      refine WL.nil ?_
      refine En.next ?_
      refine WC.cond rfl ?_ ?_
      ·
        intro hc_3
        replace h := ifO_t hc_3 h
        refine WC.seq ?_
        refine WC.region ?_
        refine Lt.ofWL.step rfl rfl rfl (OpV.assign rfl) ?_
        refine WL.nil ?_
        refine En.next ?_
        refine WC.ret ?_
        refine En.then_ret ?_
        refine En.ret1 rfl (Res.tmp rfl) ?_
        obtain rfl := Option.some.inj h
        intro w' hs
        exact ⟨rfl, hs.below⟩
      ·
        intro hc_3
        replace h := ifO_f hc_3 h
        refine WC.skip ?_
        refine En.next ?_
        refine WC.seq ?_
        refine WC.region ?_
        refine Lt.ofWL.step rfl rfl rfl (OpV.assign rfl) ?_
        refine WL.nil ?_
        refine En.next ?_
        refine WC.ret ?_
        refine En.ret1 rfl (Res.tmp rfl) ?_
        obtain rfl := Option.some.inj h
        intro w' hs
        exact ⟨rfl, hs.below⟩

theorem w_spec_ScanLine {list_p0 : List PlaneT} {w_p1 : Int} {h_p2 : Int} {y_p3 : Int} {r : (List Int)} {q0_0 : Option Addr} {n0_0 k0_0 : Nat} (h : spec_ScanLine list_p0 w_p1 h_p2 y_p3 = some r) {w : World} (r0_0 : Rd tPlane w q0_0 n0_0 k0_0 list_p0)   :
    Calls Try.prog 65 #[.slice q0_0 n0_0 k0_0, .int .i64 w_p1, .int .i64 h_p2, .int .i64 y_p3] w (fun en w' => ∃ rv G, en = .returned rv ∧ (∃ (a0_0 : Option Addr) (n0_0 : Nat) (c0_0 : Nat) (f0_0 : List Nat), rv = .slice a0_0 n0_0 c0_0 ∧ G = [Chunk.own tInt f0_0 a0_0 n0_0 c0_0 r]) ∧ St w G w') := by
  obtain rfl := r0_0.1
  unfold spec_ScanLine at h
  refine enter (vs := [_, _, _, _]) Try.func65 rfl rfl rfl rfl ?_
  refine WC.seq ?_
  refine WC.region ?_
  refine Lt.ofWL.step rfl rfl rfl (OpV.assign rfl) ?_
  refine WL.nil ?_
  refine En.next ?_
  refine WC.seq ?_
  refine WC.seq ?_
  obtain ⟨x1_3, e1_3, h⟩ := bnd h
  obtain ⟨q1_11, e1_11, h⟩ := bnd h
  refine WC.region ?_
  refine Lt.ofWL.step rfl rfl rfl (OpV.move rfl) ?_
  refine Lt.ofWL.step rfl rfl rfl (OpV.move rfl) ?_
  refine Lt.ofWL.step rfl rfl rfl (OpV.move rfl) ?_
  refine Lt.ofWL.step rfl rfl rfl (OpV.call (evs.cons rfl (evs.cons rfl (evs.cons rfl (evs.nil)))) ca_50 (fun w hs => w_spec_PlanesOk e1_3 (r0_0.ext hs.below))) ?_
  refine Lt.ofWL.step rfl rfl rfl (OpV.not rfl) ?_
  refine Lt.ofWL.step rfl rfl rfl (OpV.move rfl) ?_
  refine Lt.ofWL.orQ 14 20 19 (p := ?pz1) (rest := ?qz1) (B := q1_11) rfl (fun hz => orO_t e1_11 hz) ?Tz1 ?Fz1 ?az1 ?bz1 ?cz1 ?dz1 ?ez1
  case Tz1 =>
    intro hcz1 hkz1
    refine Lt.ofWL.skip rfl rfl rfl ?_
    refine Lt.ofWL.skip rfl rfl rfl ?_
    refine Lt.ofWL.skip rfl rfl rfl ?_
    refine Lt.ofWL.skip rfl rfl rfl ?_
    refine Lt.ofWL.skip rfl rfl rfl ?_
    refine hkz1 _ ?_
    repeat (first | exact Sub.refl _ | refine Sub.skip rfl ?_)
  case Fz1 =>
    intro hcz1 hkz1
    have hqz1 := orO_f e1_11 hcz1
    obtain ⟨x1_9, e1_9, hqz1⟩ := bnd hqz1
    obtain rfl := Option.some.inj hqz1
    refine Lt.ofWL.step rfl rfl rfl (OpV.move rfl) ?_
    refine Lt.ofWL.step rfl rfl rfl (OpV.move rfl) ?_
    refine Lt.ofWL.step rfl rfl rfl (OpV.subR rfl rfl) ?_
    refine Lt.ofWL.step rfl rfl rfl (OpV.call (evs.cons rfl (evs.cons rfl (evs.cons rfl (evs.nil)))) ca_88 (fun w hs => w_spec_l01In e1_9)) ?_
    refine Lt.ofWL.step rfl rfl rfl (OpV.not rfl) ?_
    refine hkz1 _ ?_ ?_
    exact rfl
    repeat (first | exact Sub.refl _ | refine Sub.skip rfl ?_)
  case az1 => exact rfl
  case bz1 => exact rfl
  case cz1 => exact rfl
  case dz1 => exact rfl
  refine WL.nil ?_
  refine En.next ?_
  refine WC.cond rfl ?_ ?_
  ·
    intro hc_1
    replace h := ifO_t hc_1 h
    refine WC.seq ?_
    refine WC.region ?_
    refine WL.heavy rfl rfl rfl (OpH.lit0 (A := tInt) (evps.nil) bs_32_0_ ?_)
    intro b2_0
    refine Lt.ofWL.step rfl rfl rfl (OpV.assign rfl) ?_
    refine WL.nil ?_
    refine En.next ?_
    refine WC.ret ?_
    refine En.then_ret ?_
    refine En.ret1 rfl (Res.tmp rfl) ?_
    obtain rfl := Option.some.inj h
    intro w' hs
    have hs := hs
    exact ⟨_, _, rfl, ⟨(some ⟨b2_0, 0, .none⟩), 0, 0, [b2_0], rfl, rfl⟩, hs⟩
  ·
    intro hc_1
    replace h := ifO_f hc_1 h
    refine WC.skip ?_
    refine En.next ?_
    refine WC.seq ?_
    obtain ⟨x3_4, e3_4, h⟩ := bnd h
    obtain ⟨x3_14, e3_14, h⟩ := bnd h
    obtain ⟨x3_15, e3_15, h⟩ := bnd h
    refine WC.region ?_
    refine WL.heavy rfl rfl rfl (OpH.lit0 (A := tInt) (evps.nil) bs_32_0_ ?_)
    intro b3_0
    refine Lt.ofWL.step rfl rfl rfl (OpV.move rfl) ?_
    refine Lt.ofWL.step rfl rfl rfl (OpV.move rfl) ?_
    refine Lt.ofWL.step rfl rfl rfl (OpV.move rfl) ?_
    refine WL.heavy rfl rfl rfl (OpH.callR (evs.cons rfl (evs.cons rfl (evs.cons rfl (evs.nil)))) ca_118 (fun w hs => w_spec_l20Out e3_4 (r0_0.ext hs.below)) ?_)
    rintro _ _ ⟨a3_400, n3_400, c3_400, f3_400, rfl, rfl⟩
    refine Lt.ofWL.step rfl rfl rfl (OpV.field1 rfl ft_36_2 pt_32 rfl) ?_
    refine Lt.ofWL.step rfl rfl rfl (OpV.move rfl) ?_
    refine Lt.ofWL.step rfl rfl rfl (OpV.move rfl) ?_
    refine Lt.ofWL.step rfl rfl rfl (OpV.mulR rfl rfl) ?_
    refine Lt.ofWL.step rfl rfl rfl (OpV.move rfl) ?_
    refine Lt.ofWL.step rfl rfl rfl (OpV.move rfl) ?_
    refine Lt.ofWL.step rfl rfl rfl (OpV.mulR rfl rfl) ?_
    refine Lt.ofWL.step rfl rfl rfl (OpV.move rfl) ?_
    refine Lt.ofWL.step rfl rfl rfl (OpV.addR rfl rfl) ?_
    refine Lt.ofWL.step rfl rfl rfl (OpV.inhF fun hin => OpV.subLH (ownLen hin (.head _)) rfl rfl rfl se_32 (ownCap hin (.head _)) e3_14) ?_
    refine WL.heavy rfl rfl rfl (OpH.appS (F := [_]) (A := tInt) tInt_flat rfl rfl rfl mi_32 rfl (by decide) (fun w hs => (Rd.sub (Ow.rd (hs.mem (.head _))) e3_14)) e3_15 ?_)
    intro f3_15 a3_15 c3_15
    refine Lt.ofWL.step rfl rfl rfl (OpV.assign rfl) ?_
    refine WL.nil ?_
    refine En.next ?_
    refine WC.ret ?_
    refine En.ret1 rfl (Res.tmp rfl) ?_
    obtain rfl := Option.some.inj h
    intro w' hs
    have hs := ((hs).perm (List.perm_middle (l₁ := [_]))).sub (.cons_cons _ (.cons _ (.slnil)))
    exact ⟨_, _, rfl, ⟨a3_15, x3_15.length, c3_15, f3_15, rfl, rfl⟩, hs⟩

theorem w_slices_Clone_S_int_int {s_p0 : List Int} {r : List Int} {q0_0 : Option Addr} {n0_0 k0_0 : Nat} (h : slices_Clone_S_int_int s_p0 = some r) {w : World} (r0_0 : Rd tInt w q0_0 n0_0 k0_0 s_p0) :
    Calls Try.prog 111 #[.slice q0_0 n0_0 k0_0] w (fun en w' => ∃ rv G, en = .returned rv ∧ (∃ (a0_0 : Option Addr) (n0_0 : Nat) (c0_0 : Nat) (f0_0 : List Nat), rv = .slice a0_0 n0_0 c0_0 ∧ G = [Chunk.own tInt f0_0 a0_0 n0_0 c0_0 r]) ∧ St w G w') := by
  obtain rfl := r0_0.1
  obtain ⟨hn, h⟩ := need_some h
  obtain rfl := Option.some.inj h
  refine enter (vs := [_]) Try.func111 rfl rfl rfl rfl ?_
  refine WC.seq ?_
  refine WC.region ?_
  refine Lt.ofWL.step rfl rfl rfl (OpV.assign rfl) ?_
  refine WL.nil ?_
  refine En.next ?_
  refine WC.seq ?_
  refine WC.seq ?_
  refine WC.region ?_
  refine Lt.ofWL.step rfl rfl rfl (OpV.move rfl) ?_
  refine Lt.ofWL.step rfl rfl rfl (OpV.eqNil rfl si_32) ?_
  refine WL.nil ?_
  refine En.next ?_
  refine WC.cond rfl ?_ ?_
  · intro hc
    have hnil := Rd.isNil r0_0 hc
    refine WC.seq ?_
    refine WC.region ?_
    refine Lt.ofWL.step rfl rfl rfl (OpV.assign rfl) ?_
    refine WL.nil ?_
    refine En.next ?_
    refine WC.ret ?_
    refine En.then_ret ?_
    refine En.ret1 rfl (Res.tmp rfl) ?_
    intro w' hs
    refine ⟨_, _, rfl, ⟨.none, 0, 0, [], rfl, rfl⟩, ?_⟩
    rw [hnil]; exact hs.ownNil
  · intro hc
    refine WC.skip ?_
    refine En.next ?_
    refine WC.seq ?_
    refine WC.region ?_
    refine WL.heavy rfl rfl rfl (OpH.lit0 (A := tInt) evps.nil bs_32_0_ ?_)
    intro b
    refine Lt.ofWL.step rfl rfl rfl (OpV.move rfl) ?_
    refine WL.heavy rfl rfl rfl (OpH.appS (F := []) (A := tInt) tInt_flat rfl rfl rfl mi_32 rfl (by decide) (fun w hs => r0_0.ext hs.below) (app_nil hn) ?_)
    intro fp a c
    refine Lt.ofWL.step rfl rfl rfl (OpV.assign rfl) ?_
    refine WL.nil ?_
    refine En.next ?_
    refine WC.ret ?_
    refine En.ret1 rfl (Res.tmp rfl) ?_
    intro w' hs
    exact ⟨_, _, rfl, ⟨_, _, _, _, rfl, rfl⟩, hs⟩

theorem w_impl_ScanLine {list_p0 : List PlaneT} {w_p1 : Int} {h_p2 : Int} {y_p3 : Int} {r : (List Int)} {q0_0 : Option Addr} {n0_0 k0_0 : Nat} (h : impl_ScanLine list_p0 w_p1 h_p2 y_p3 = some r) {w : World} (r0_0 : Rd tPlane w q0_0 n0_0 k0_0 list_p0)   :
    Calls Try.prog 53 #[.slice q0_0 n0_0 k0_0, .int .i64 w_p1, .int .i64 h_p2, .int .i64 y_p3] w (fun en w' => ∃ rv G, en = .returned rv ∧ (∃ (a0_0 : Option Addr) (n0_0 : Nat) (c0_0 : Nat) (f0_0 : List Nat), rv = .slice a0_0 n0_0 c0_0 ∧ G = [Chunk.own tInt f0_0 a0_0 n0_0 c0_0 r]) ∧ St w G w') := by
  obtain rfl := r0_0.1
  unfold impl_ScanLine at h
  refine enter (vs := [_, _, _, _]) Try.func53 rfl rfl rfl rfl ?_
  refine WC.seq ?_
  refine WC.region ?_
  refine Lt.ofWL.step rfl rfl rfl (OpV.assign rfl) ?_
  refine WL.nil ?_
  refine En.next ?_
  refine WC.seq ?_
  refine WC.seq ?_
  obtain ⟨x1_3, e1_3, h⟩ := bnd h
  obtain ⟨q1_11, e1_11, h⟩ := bnd h
  refine WC.region ?_
  refine Lt.ofWL.step rfl rfl rfl (OpV.move rfl) ?_
  refine Lt.ofWL.step rfl rfl rfl (OpV.move rfl) ?_
  refine Lt.ofWL.step rfl rfl rfl (OpV.move rfl) ?_
  refine Lt.ofWL.step rfl rfl rfl (OpV.call (evs.cons rfl (evs.cons rfl (evs.cons rfl (evs.nil)))) ca_37 (fun w hs => w_impl_PlanesOk e1_3 (r0_0.ext hs.below))) ?_
  refine Lt.ofWL.step rfl rfl rfl (OpV.not rfl) ?_
  refine Lt.ofWL.step rfl rfl rfl (OpV.move rfl) ?_
  refine Lt.ofWL.orQ 14 20 19 (p := ?pz1) (rest := ?qz1) (B := q1_11) rfl (fun hz => orO_t e1_11 hz) ?Tz1 ?Fz1 ?az1 ?bz1 ?cz1 ?dz1 ?ez1
  case Tz1 =>
    intro hcz1 hkz1
    refine Lt.ofWL.skip rfl rfl rfl ?_
    refine Lt.ofWL.skip rfl rfl rfl ?_
    refine Lt.ofWL.skip rfl rfl rfl ?_
    refine Lt.ofWL.skip rfl rfl rfl ?_
    refine Lt.ofWL.skip rfl rfl rfl ?_
    refine hkz1 _ ?_
    repeat (first | exact Sub.refl _ | refine Sub.skip rfl ?_)
  case Fz1 =>
    intro hcz1 hkz1
    have hqz1 := orO_f e1_11 hcz1
    obtain ⟨x1_9, e1_9, hqz1⟩ := bnd hqz1
    obtain rfl := Option.some.inj hqz1
    refine Lt.ofWL.step rfl rfl rfl (OpV.move rfl) ?_
    refine Lt.ofWL.step rfl rfl rfl (OpV.move rfl) ?_
    refine Lt.ofWL.step rfl rfl rfl (OpV.subR rfl rfl) ?_
    refine Lt.ofWL.step rfl rfl rfl (OpV.call (evs.cons rfl (evs.cons rfl (evs.cons rfl (evs.nil)))) ca_91 (fun w hs => w_impl_within e1_9)) ?_
    refine Lt.ofWL.step rfl rfl rfl (OpV.not rfl) ?_
    refine hkz1 _ ?_ ?_
    exact rfl
    repeat (first | exact Sub.refl _ | refine Sub.skip rfl ?_)
  case az1 => exact rfl
  case bz1 => exact rfl
  case cz1 => exact rfl
  case dz1 => exact rfl
  refine WL.nil ?_
  refine En.next ?_
  refine WC.cond rfl ?_ ?_
  ·
    intro hc_1
    replace h := ifO_t hc_1 h
    refine WC.seq ?_
    refine WC.region ?_
    refine Lt.ofWL.step rfl rfl rfl (OpV.assign rfl) ?_
    refine WL.nil ?_
    refine En.next ?_
    refine WC.ret ?_
    refine En.then_ret ?_
    refine En.ret1 rfl (Res.tmp rfl) ?_
    obtain rfl := Option.some.inj h
    intro w' hs
    have hs := (hs).ownNil (A := tInt)
    exact ⟨_, _, rfl, ⟨.none, 0, 0, [], rfl, rfl⟩, hs⟩
  ·
    intro hc_1
    replace h := ifO_f hc_1 h
    refine WC.skip ?_
    refine En.next ?_
    refine WC.seq ?_
    obtain ⟨x3_1, e3_1, h⟩ := bnd h
    obtain ⟨x3_10, e3_10, h⟩ := bnd h
    obtain ⟨x3_11, e3_11, h⟩ := bnd h
    refine WC.region ?_
    refine Lt.ofWL.step rfl rfl rfl (OpV.move rfl) ?_
    refine WL.heavy rfl rfl rfl (OpH.callR (evs.cons rfl (evs.nil)) ca_90 (fun w hs => w_impl_scanned e3_1 (r0_0.ext hs.below)) ?_)
    rintro _ _ ⟨a3_100, n3_100, c3_100, f3_100, rfl, rfl⟩
    refine Lt.ofWL.step rfl rfl rfl (OpV.field1 rfl ft_36_2 pt_32 rfl) ?_
    refine Lt.ofWL.step rfl rfl rfl (OpV.move rfl) ?_
    refine Lt.ofWL.step rfl rfl rfl (OpV.move rfl) ?_
    refine Lt.ofWL.step rfl rfl rfl (OpV.mulR rfl rfl) ?_
    refine Lt.ofWL.step rfl rfl rfl (OpV.move rfl) ?_
    refine Lt.ofWL.step rfl rfl rfl (OpV.addR rfl rfl) ?_
    refine Lt.ofWL.step rfl rfl rfl (OpV.move rfl) ?_
    refine Lt.ofWL.step rfl rfl rfl (OpV.mulR rfl rfl) ?_
    refine Lt.ofWL.step rfl rfl rfl (OpV.inhF fun hin => OpV.subLH (ownLen hin (.head _)) rfl rfl rfl se_32 (ownCap hin (.head _)) e3_10) ?_
    refine WL.heavy rfl rfl rfl (OpH.callR (evs.cons rfl (evs.nil)) ca_111 (fun w hs => w_slices_Clone_S_int_int e3_11 (Rd.sub (Ow.rd (hs.mem (.head _))) e3_10)) ?_)
    rintro _ _ ⟨a3_1100, n3_1100, c3_1100, f3_1100, rfl, rfl⟩
    refine Lt.ofWL.step rfl rfl rfl (OpV.assign rfl) ?_
    refine WL.nil ?_
    refine En.next ?_
    refine WC.ret ?_
    refine En.ret1 rfl (Res.tmp rfl) ?_
    obtain rfl := Option.some.inj h
    intro w' hs
    have hs := (hs).sub (.cons_cons _ (.cons _ (.slnil)))
    exact ⟨_, _, rfl, ⟨a3_1100, n3_1100, c3_1100, f3_1100, rfl, rfl⟩, hs⟩

theorem w_laws_markPlaneS {a_p0 : List PlaneT} {a_p1 : Int} {r : Int × (List PlaneT)} {q0_0 : Option Addr} {n0_0 k0_0 : Nat} {f0_0 : List Nat} (h : laws_markPlaneS a_p0 a_p1 = some r) {w0 w : World} {C : List Chunk} (hs0 : St w0 (Chunk.own tPlane f0_0 q0_0 n0_0 k0_0 a_p0 :: C) w)  :
    Calls Try.prog 62 #[.slice q0_0 n0_0 k0_0, .int .i64 a_p1] w (fun en w' => ∃ rv G, en = .returned rv ∧ (∃ (g0_0 : List Nat), rv = .int .i64 r.1 ∧ G = Chunk.own tPlane g0_0 q0_0 n0_0 k0_0 r.2 :: C) ∧ St w0 G w') := by
  unfold laws_markPlaneS at h
  refine enterF hs0 (vs := [_, _]) Try.func62 rfl rfl rfl rfl ?_
  refine WC.seq ?_
  refine WC.region ?_
  refine Lt.ofWL.step rfl rfl rfl (OpV.assign rfl) ?_
  refine WL.nil ?_
  refine En.next ?_
  refine WC.seq ?_
  refine WC.seq ?_
  refine WC.region ?_
  refine Lt.ofWL.step rfl rfl rfl (OpV.assign rfl) ?_
  refine WL.nil ?_
  refine En.next ?_
  refine WC.block ?_
  obtain ⟨zy0, ezy0, h⟩ := bnd h
  refine WC.cut (X := (Int × (List PlaneT)) × ((List Nat))) (.exit 0) (fun x => zy0 = x.1) (fun x => match x with | ((v_0e, p_0e), fp_0e) => [(1, .int .i64 v_0e)]) (fun x => match x with | ((v_0e, p_0e), fp_0e) => (Chunk.own tPlane fp_0e q0_0 n0_0 k0_0 p_0e :: C)) ?_ ?_
  ·
    rintro ⟨⟨v_0e, p_0e⟩, fp_0e⟩ hx
    replace hx : (v_0e, p_0e) = zy0 := hx.symm
    subst hx
    show En _ _ _ _ [(1, .int .i64 v_0e)] (Chunk.own tPlane fp_0e q0_0 n0_0 k0_0 p_0e :: C)
    refine En.block_exit ?_
    refine En.next ?_
    refine WC.seq ?_
    refine WC.region ?_
    refine Lt.ofWL.step rfl rfl rfl (OpV.move rfl) ?_
    refine Lt.ofWL.step rfl rfl rfl (OpV.assign rfl) ?_
    refine WL.nil ?_
    refine En.next ?_
    refine WC.ret ?_
    refine En.ret1 rfl (Res.tmp rfl) ?_
    obtain rfl := Option.some.inj h
    intro w' hs
    have hs := hs
    exact ⟨_, _, rfl, ⟨fp_0e, rfl, rfl⟩, hs⟩
  ·
    intro zK0_0
    refine WC.loopP (G := (List Nat)) (fun s g => match s, g with | (v_0, v1_0, v2_0), fv_0 => [(0, .slice q0_0 n0_0 k0_0), (1, .int .i64 v1_0), (5, .int .i64 v2_0)]) (fun s g => match s, g with | (v_0, v1_0, v2_0), fv_0 => (Chunk.own tPlane fv_0 q0_0 n0_0 k0_0 v_0 :: C)) (a_p0, a_p1, 0) f0_0 ezy0 (by exact Sub.cons rfl (Sub.cons rfl (Sub.cons rfl (Sub.nil _)))) (by exact (fun _ h => h)) ?_
    rintro zm0 ⟨v_0, v1_0, v2_0⟩ fv_0 zo0 zf0 zb0 ze0
    have zh0 : laws_markPlaneS_L0 v_0 v1_0 v2_0 = some zo0 := zf0
    unfold laws_markPlaneS_L0 at zh0
    show WC _ _ _ _ _ [(0, .slice q0_0 n0_0 k0_0), (1, .int .i64 v1_0), (5, .int .i64 v2_0)] (Chunk.own tPlane fv_0 q0_0 n0_0 k0_0 v_0 :: C)
    refine WC.seq ?_
    refine WC.seq ?_
    refine WC.region ?_
    refine Lt.ofWL.step rfl rfl rfl (OpV.move rfl) ?_
    refine Lt.ofWL.step rfl rfl rfl (OpV.move rfl) ?_
    refine Lt.ofWL.step rfl rfl rfl (OpV.inhF fun hin => OpV.lenO (xs := v_0) rfl si_53 rfl (ownLen hin (.head _))) ?_
    refine Lt.ofWL.step rfl rfl rfl (OpV.lss rfl rfl) ?_
    refine WL.nil ?_
    refine En.next ?_
    refine WC.cond rfl ?_ ?_
    ·
      intro hc_1
      replace zh0 := ifO_t hc_1 zh0
      refine WC.skip ?_
      refine En.next ?_
      refine WC.seq ?_
      refine WC.block ?_
      refine WC.seq ?_
      refine WC.inh fun hin4 => ?_
      obtain ⟨x4_5, e4_5, zh0⟩ := bnd zh0
      obtain ⟨g4_5, ha4_5⟩ := ownAddr hin4 (.head _) e4_5
      have hn4_5 := ownLen hin4 (.head _)
      obtain ⟨x4_7, e4_7, zh0⟩ := bnd zh0
      refine WC.region ?_
      refine Lt.ofWL.step rfl rfl rfl (OpV.move rfl) ?_
      refine Lt.ofWL.step rfl rfl rfl (OpV.move rfl) ?_
      refine Lt.ofWL.step rfl rfl rfl (OpV.move rfl) ?_
      refine Lt.ofWL.step rfl rfl rfl (OpV.remR rfl rfl rfl) ?_
      refine Lt.ofWL.step rfl rfl rfl (OpV.eql rfl rfl) ?_
      refine Lt.ofWL.step rfl rfl rfl (OpV.idxA rfl rfl se_53 ha4_5 ⟨(idx_some e4_5).1, by rw [hn4_5]; exact (idx_some e4_5).2.1⟩) ?_
      refine Lt.ofWL.step rfl rfl rfl (OpV.fieldAddr rfl fo_57_0) ?_
      refine WL.heavy0 rfl rfl (OpH.setFld (F := []) (A := tPlane) (off := 0) (i := v2_0) (v' := (PlaneT.mk (decide ((Int.tmod v1_0 3) = 0)) x4_5.X x4_5.Y x4_5.W x4_5.H x4_5.Layout x4_5.Words x4_5.Alpha x4_5.Orient x4_5.ToW x4_5.ToH)) ha4_5 rfl rfl rfl ts_4 rfl rfl e4_5 (fun _ _ _ ⟨_, _, _, hp, he, h0⟩ => ⟨_, _, _, hp, by rw [he]; rfl, h0⟩) e4_7 ?_)
      refine WL.nil ?_
      refine En.next ?_
      refine WC.seq ?_
      refine WC.region ?_
      refine Lt.ofWL.step rfl rfl rfl (OpV.move rfl) ?_
      refine Lt.ofWL.step rfl rfl rfl (OpV.addR rfl rfl) ?_
      refine Lt.ofWL.step rfl rfl rfl (OpV.assign rfl) ?_
      refine WL.nil ?_
      refine En.next ?_
      refine WC.seq ?_
      refine WC.inh fun hin6 => ?_
      obtain ⟨x6_3, e6_3, zh0⟩ := bnd zh0
      obtain ⟨g6_3, ha6_3⟩ := ownAddr hin6 (.head _) e6_3
      have hn6_3 := ownLen hin6 (.head _)
      obtain ⟨x6_5, e6_5, zh0⟩ := bnd zh0
      refine WC.region ?_
      refine Lt.ofWL.step rfl rfl rfl (OpV.move rfl) ?_
      refine Lt.ofWL.step rfl rfl rfl (OpV.move rfl) ?_
      refine Lt.ofWL.step rfl rfl rfl (OpV.move rfl) ?_
      refine Lt.ofWL.step rfl rfl rfl (OpV.idxA rfl rfl se_53 ha6_3 ⟨(idx_some e6_3).1, by rw [hn6_3]; exact (idx_some e6_3).2.1⟩) ?_
      refine Lt.ofWL.step rfl rfl rfl (OpV.fieldAddr rfl fo_57_1) ?_
      refine WL.heavy0 rfl rfl (OpH.setFld (F := []) (A := tPlane) (off := 1) (i := v2_0) (v' := (PlaneT.mk x6_3.On (wr (v1_0 + 1)) x6_3.Y x6_3.W x6_3.H x6_3.Layout x6_3.Words x6_3.Alpha x6_3.Orient x6_3.ToW x6_3.ToH)) ha6_3 rfl rfl rfl ts_3 rfl rfl e6_3 (fun _ _ _ ⟨_, _, _, hp, he, h0⟩ => ⟨_, _, _, hp, by rw [he]; rfl, h0⟩) e6_5 ?_)
      refine WL.nil ?_
      refine En.next ?_
      refine WC.seq ?_
      refine WC.region ?_
      refine Lt.ofWL.step rfl rfl rfl (OpV.move rfl) ?_
      refine Lt.ofWL.step rfl rfl rfl (OpV.addR rfl rfl) ?_
      refine Lt.ofWL.step rfl rfl rfl (OpV.assign rfl) ?_
      refine WL.nil ?_
      refine En.next ?_
      refine WC.seq ?_
      refine WC.inh fun hin8 => ?_
      obtain ⟨x8_3, e8_3, zh0⟩ := bnd zh0
      obtain ⟨g8_3, ha8_3⟩ := ownAddr hin8 (.head _) e8_3
      have hn8_3 := ownLen hin8 (.head _)
      obtain ⟨x8_5, e8_5, zh0⟩ := bnd zh0
      refine WC.region ?_
      refine Lt.ofWL.step rfl rfl rfl (OpV.move rfl) ?_
      refine Lt.ofWL.step rfl rfl rfl (OpV.move rfl) ?_
      refine Lt.ofWL.step rfl rfl rfl (OpV.move rfl) ?_
      refine Lt.ofWL.step rfl rfl rfl (OpV.idxA rfl rfl se_53 ha8_3 ⟨(idx_some e8_3).1, by rw [hn8_3]; exact (idx_some e8_3).2.1⟩) ?_
      refine Lt.ofWL.step rfl rfl rfl (OpV.fieldAddr rfl fo_57_2) ?_
      refine WL.heavy0 rfl rfl (OpH.setFld (F := []) (A := tPlane) (off := 2) (i := v2_0) (v' := (PlaneT.mk x8_3.On x8_3.X (wr ((wr (v1_0 + 1)) + 1)) x8_3.W x8_3.H x8_3.Layout x8_3.Words x8_3.Alpha x8_3.Orient x8_3.ToW x8_3.ToH)) ha8_3 rfl rfl rfl ts_3 rfl rfl e8_3 (fun _ _ _ ⟨_, _, _, hp, he, h0⟩ => ⟨_, _, _, hp, by rw [he]; rfl, h0⟩) e8_5 ?_)
      refine WL.nil ?_
      refine En.next ?_
      refine WC.seq ?_
      refine WC.region ?_
      refine Lt.ofWL.step rfl rfl rfl (OpV.move rfl) ?_
      refine Lt.ofWL.step rfl rfl rfl (OpV.addR rfl rfl) ?_
      refine Lt.ofWL.step rfl rfl rfl (OpV.assign rfl) ?_
      refine WL.nil ?_
      refine En.next ?_
      refine WC.seq ?_
      refine WC.inh fun hin10 => ?_
      obtain ⟨x10_3, e10_3, zh0⟩ := bnd zh0
      obtain ⟨g10_3, ha10_3⟩ := ownAddr hin10 (.head _) e10_3
      have hn10_3 := ownLen hin10 (.head _)
      obtain ⟨x10_5, e10_5, zh0⟩ := bnd zh0
      refine WC.region ?_
      refine Lt.ofWL.step rfl rfl rfl (OpV.move rfl) ?_
      refine Lt.ofWL.step rfl rfl rfl (OpV.move rfl) ?_
      refine Lt.ofWL.step rfl rfl rfl (OpV.move rfl) ?_
      refine Lt.ofWL.step rfl rfl rfl (OpV.idxA rfl rfl se_53 ha10_3 ⟨(idx_some e10_3).1, by rw [hn10_3]; exact (idx_some e10_3).2.1⟩) ?_
      refine Lt.ofWL.step rfl rfl rfl (OpV.fieldAddr rfl fo_57_3) ?_
      refine WL.heavy0 rfl rfl (OpH.setFld (F := []) (A := tPlane) (off := 3) (i := v2_0) (v' := (PlaneT.mk x10_3.On x10_3.X x10_3.Y (wr ((wr ((wr (v1_0 + 1)) + 1)) + 1)) x10_3.H x10_3.Layout x10_3.Words x10_3.Alpha x10_3.Orient x10_3.ToW x10_3.ToH)) ha10_3 rfl rfl rfl ts_3 rfl rfl e10_3 (fun _ _ _ ⟨_, _, _, hp, he, h0⟩ => ⟨_, _, _, hp, by rw [he]; rfl, h0⟩) e10_5 ?_)
      refine WL.nil ?_
      refine En.next ?_
      refine WC.seq ?_
      refine WC.region ?_
      refine Lt.ofWL.step rfl rfl rfl (OpV.move rfl) ?_
      refine Lt.ofWL.step rfl rfl rfl (OpV.addR rfl rfl) ?_
      refine Lt.ofWL.step rfl rfl rfl (OpV.assign rfl) ?_
      refine WL.nil ?_
      refine En.next ?_
      refine WC.seq ?_
      refine WC.inh fun hin12 => ?_
      obtain ⟨x12_3, e12_3, zh0⟩ := bnd zh0
      obtain ⟨g12_3, ha12_3⟩ := ownAddr hin12 (.head _) e12_3
      have hn12_3 := ownLen hin12 (.head _)
      obtain ⟨x12_5, e12_5, zh0⟩ := bnd zh0
      refine WC.region ?_
      refine Lt.ofWL.step rfl rfl rfl (OpV.move rfl) ?_
      refine Lt.ofWL.step rfl rfl rfl (OpV.move rfl) ?_
      refine Lt.ofWL.step rfl rfl rfl (OpV.move rfl) ?_
      refine Lt.ofWL.step rfl rfl rfl (OpV.idxA rfl rfl se_53 ha12_3 ⟨(idx_some e12_3).1, by rw [hn12_3]; exact (idx_some e12_3).2.1⟩) ?_
      refine Lt.ofWL.step rfl rfl rfl (OpV.fieldAddr rfl fo_57_4) ?_
      refine WL.heavy0 rfl rfl (OpH.setFld (F := []) (A := tPlane) (off := 4) (i := v2_0) (v' := (PlaneT.mk x12_3.On x12_3.X x12_3.Y x12_3.W (wr ((wr ((wr ((wr (v1_0 + 1)) + 1)) + 1)) + 1)) x12_3.Layout x12_3.Words x12_3.Alpha x12_3.Orient x12_3.ToW x12_3.ToH)) ha12_3 rfl rfl rfl ts_3 rfl rfl e12_3 (fun _ _ _ ⟨_, _, _, hp, he, h0⟩ => ⟨_, _, _, hp, by rw [he]; rfl, h0⟩) e12_5 ?_)
      refine WL.nil ?_
      refine En.next ?_
      refine WC.seq ?_
      refine WC.region ?_
      refine Lt.ofWL.step rfl rfl rfl (OpV.move rfl) ?_
      refine Lt.ofWL.step rfl rfl rfl (OpV.addR rfl rfl) ?_
      refine Lt.ofWL.step rfl rfl rfl (OpV.assign rfl) ?_
      refine WL.nil ?_
      refine En.next ?_
      refine WC.seq ?_
      refine WC.inh fun hin14 => ?_
      obtain ⟨x14_3, e14_3, zh0⟩ := bnd zh0
      obtain ⟨g14_3, ha14_3⟩ := ownAddr hin14 (.head _) e14_3
      have hn14_3 := ownLen hin14 (.head _)
      obtain ⟨x14_5, e14_5, zh0⟩ := bnd zh0
      refine WC.region ?_
      refine Lt.ofWL.step rfl rfl rfl (OpV.move rfl) ?_
      refine Lt.ofWL.step rfl rfl rfl (OpV.move rfl) ?_
      refine Lt.ofWL.step rfl rfl rfl (OpV.move rfl) ?_
      refine Lt.ofWL.step rfl rfl rfl (OpV.idxA rfl rfl se_53 ha14_3 ⟨(idx_some e14_3).1, by rw [hn14_3]; exact (idx_some e14_3).2.1⟩) ?_
      refine Lt.ofWL.step rfl rfl rfl (OpV.fieldAddr rfl fo_57_5) ?_
      refine WL.heavy0 rfl rfl (OpH.setFld (F := []) (A := tPlane) (off := 5) (i := v2_0) (v' := (PlaneT.mk x14_3.On x14_3.X x14_3.Y x14_3.W x14_3.H (wr ((wr ((wr ((wr ((wr (v1_0 + 1)) + 1)) + 1)) + 1)) + 1)) x14_3.Words x14_3.Alpha x14_3.Orient x14_3.ToW x14_3.ToH)) ha14_3 rfl rfl rfl ts_3 rfl rfl e14_3 (fun _ _ _ ⟨_, _, _, hp, he, h0⟩ => ⟨_, _, _, hp, by rw [he]; rfl, h0⟩) e14_5 ?_)
      refine WL.nil ?_
      refine En.next ?_
      refine WC.seq ?_
      refine WC.region ?_
      refine Lt.ofWL.step rfl rfl rfl (OpV.move rfl) ?_
      refine Lt.ofWL.step rfl rfl rfl (OpV.addR rfl rfl) ?_
      refine Lt.ofWL.step rfl rfl rfl (OpV.assign rfl) ?_
      refine WL.nil ?_
      refine En.next ?_
      refine WC.seq ?_
      refine WC.inh fun hin16 => ?_
      obtain ⟨x16_2, e16_2, zh0⟩ := bnd zh0
      obtain ⟨g16_2, ha16_2⟩ := ownAddr hin16 (.head _) e16_2
      have hn16_2 := ownLen hin16 (.head _)
      obtain ⟨⟨x16_6a, x16_6b⟩, e16_6, zh0⟩ := bnd zh0
      obtain ⟨x16_u, e16_u, zh0⟩ := bnd zh0
      refine WC.exF (fun w h => St.focus (F := []) e16_2 h) ?_
      rintro ⟨css16_2, fps16_2, cs16_2, fz16_2⟩ ⟨hcs16_2, hk16_2⟩
      refine WC.exF (X := (Option Addr) × Nat × (List Nat)) (Pre := fun x => match x with | (a16_2_0, c16_2_0, f16_2_0) => cs16_2 = [.bool x16_2.On, .int .i64 x16_2.X, .int .i64 x16_2.Y, .int .i64 x16_2.W, .int .i64 x16_2.H, .int .i64 x16_2.Layout, .slice a16_2_0 x16_2.Words.length c16_2_0, .int .i64 x16_2.Alpha, .int .i64 x16_2.Orient, .int .i64 x16_2.ToW, .int .i64 x16_2.ToH]) (F' := fun x => match x with | (a16_2_0, c16_2_0, f16_2_0) => (Chunk.own tInt f16_2_0 a16_2_0 x16_2.Words.length c16_2_0 x16_2.Words :: Chunk.row tPlane.T tPlane.k q0_0 x14_5.length k0_0 css16_2.flatten :: Chunk.inX tPlane css16_2 fps16_2 x14_5 v2_0.toNat :: C)) (fun w h => let ⟨a16_2_0, c16_2_0, f16_2_0, e, hs⟩ := tPlane_open (F := []) h; ⟨(a16_2_0, c16_2_0, f16_2_0), e, hs⟩) ?_
      rintro ⟨a16_2_0, c16_2_0, f16_2_0⟩ hz16_2
      replace hz16_2 : cs16_2 = [.bool x16_2.On, .int .i64 x16_2.X, .int .i64 x16_2.Y, .int .i64 x16_2.W, .int .i64 x16_2.H, .int .i64 x16_2.Layout, .slice a16_2_0 x16_2.Words.length c16_2_0, .int .i64 x16_2.Alpha, .int .i64 x16_2.Orient, .int .i64 x16_2.ToW, .int .i64 x16_2.ToH] := hz16_2
      subst hz16_2
      show WC _ _ _ _ _ _ (Chunk.own tInt f16_2_0 a16_2_0 x16_2.Words.length c16_2_0 x16_2.Words :: Chunk.row tPlane.T tPlane.k q0_0 x14_5.length k0_0 css16_2.flatten :: Chunk.inX tPlane css16_2 fps16_2 x14_5 v2_0.toNat :: C)
      refine WC.region ?_
      refine Lt.ofWL.step rfl rfl rfl (OpV.move rfl) ?_
      refine Lt.ofWL.step rfl rfl rfl (OpV.move rfl) ?_
      refine Lt.ofWL.step rfl rfl rfl (OpV.idxA rfl rfl se_53 ha16_2 ⟨(idx_some e16_2).1, by rw [hn16_2]; exact (idx_some e16_2).2.1⟩) ?_
      refine Lt.ofWL.step rfl rfl rfl (OpV.fieldAddr rfl fo_57_6) ?_
      refine Lt.ofWL.step rfl rfl rfl (OpV.load1 rfl pt_32 (fun w hs => focCell (j := 6) (hs.mem (.tail _ (.head _))) hk16_2 hcs16_2 ha16_2 rfl)) ?_
      refine Lt.ofWL.step rfl rfl rfl (OpV.move rfl) ?_
      refine WL.heavy rfl rfl rfl (OpH.callX (evs.cons rfl (evs.cons rfl (evs.nil))) ca_28 (fun w hs => w_laws_markIntS e16_6 hs) ?_)
      rintro _ _ ⟨g16_600, rfl, rfl⟩
      refine Lt.ofWL.step rfl rfl rfl (OpV.assign rfl) ?_
      refine WL.nil ?_
      refine En.exF (fun w h => St.unfocus (F := []) hcs16_2 hn16_2 e16_u (tPlane_mk x16_2.On x16_2.X x16_2.Y x16_2.W x16_2.H x16_2.Layout x16_6b x16_2.Alpha x16_2.Orient x16_2.ToW x16_2.ToH h)) ?_
      rintro fp16_u _
      refine En.next ?_
      refine WC.seq ?_
      refine WC.inh fun hin17 => ?_
      obtain ⟨x17_3, e17_3, zh0⟩ := bnd zh0
      obtain ⟨g17_3, ha17_3⟩ := ownAddr hin17 (.head _) e17_3
      have hn17_3 := ownLen hin17 (.head _)
      obtain ⟨x17_5, e17_5, zh0⟩ := bnd zh0
      refine WC.region ?_
      refine Lt.ofWL.step rfl rfl rfl (OpV.move rfl) ?_
      refine Lt.ofWL.step rfl rfl rfl (OpV.move rfl) ?_
      refine Lt.ofWL.step rfl rfl rfl (OpV.move rfl) ?_
      refine Lt.ofWL.step rfl rfl rfl (OpV.idxA rfl rfl se_53 ha17_3 ⟨(idx_some e17_3).1, by rw [hn17_3]; exact (idx_some e17_3).2.1⟩) ?_
      refine Lt.ofWL.step rfl rfl rfl (OpV.fieldAddr rfl fo_57_7) ?_
      refine WL.heavy0 rfl rfl (OpH.setFld (F := []) (A := tPlane) (off := 7) (i := v2_0) (v' := (PlaneT.mk x17_3.On x17_3.X x17_3.Y x17_3.W x17_3.H x17_3.Layout x17_3.Words x16_6a x17_3.Orient x17_3.ToW x17_3.ToH)) ha17_3 rfl rfl rfl ts_3 rfl rfl e17_3 (fun _ _ _ ⟨_, _, _, hp, he, h0⟩ => ⟨_, _, _, hp, by rw [he]; rfl, h0⟩) e17_5 ?_)
      refine WL.nil ?_
      refine En.next ?_
      refine WC.seq ?_
      refine WC.region ?_
      refine Lt.ofWL.step rfl rfl rfl (OpV.move rfl) ?_
      refine Lt.ofWL.step rfl rfl rfl (OpV.addR rfl rfl) ?_
      refine Lt.ofWL.step rfl rfl rfl (OpV.assign rfl) ?_
      refine WL.nil ?_
      refine En.next ?_
      refine WC.seq ?_
      refine WC.inh fun hin19 => ?_
      obtain ⟨x19_3, e19_3, zh0⟩ := bnd zh0
      obtain ⟨g19_3, ha19_3⟩ := ownAddr hin19 (.head _) e19_3
      have hn19_3 := ownLen hin19 (.head _)
      obtain ⟨x19_5, e19_5, zh0⟩ := bnd zh0
      refine WC.region ?_
      refine Lt.ofWL.step rfl rfl rfl (OpV.move rfl) ?_
      refine Lt.ofWL.step rfl rfl rfl (OpV.move rfl) ?_
      refine Lt.ofWL.step rfl rfl rfl (OpV.move rfl) ?_
      refine Lt.ofWL.step rfl rfl rfl (OpV.idxA rfl rfl se_53 ha19_3 ⟨(idx_some e19_3).1, by rw [hn19_3]; exact (idx_some e19_3).2.1⟩) ?_
      refine Lt.ofWL.step rfl rfl rfl (OpV.fieldAddr rfl fo_57_8) ?_
      refine WL.heavy0 rfl rfl (OpH.setFld (F := []) (A := tPlane) (off := 8) (i := v2_0) (v' := (PlaneT.mk x19_3.On x19_3.X x19_3.Y x19_3.W x19_3.H x19_3.Layout x19_3.Words x19_3.Alpha (wr (x16_6a + 1)) x19_3.ToW x19_3.ToH)) ha19_3 rfl rfl rfl ts_3 rfl rfl e19_3 (fun _ _ _ ⟨_, _, _, hp, he, h0⟩ => ⟨_, _, _, hp, by rw [he]; rfl, h0⟩) e19_5 ?_)
      refine WL.nil ?_
      refine En.next ?_
      refine WC.seq ?_
      refine WC.region ?_
      refine Lt.ofWL.step rfl rfl rfl (OpV.move rfl) ?_
      refine Lt.ofWL.step rfl rfl rfl (OpV.addR rfl rfl) ?_
      refine Lt.ofWL.step rfl rfl rfl (OpV.assign rfl) ?_
      refine WL.nil ?_
      refine En.next ?_
      refine WC.seq ?_
      refine WC.inh fun hin21 => ?_
      obtain ⟨x21_3, e21_3, zh0⟩ := bnd zh0
      obtain ⟨g21_3, ha21_3⟩ := ownAddr hin21 (.head _) e21_3
      have hn21_3 := ownLen hin21 (.head _)
      obtain ⟨x21_5, e21_5, zh0⟩ := bnd zh0
      refine WC.region ?_
      refine Lt.ofWL.step rfl rfl rfl (OpV.move rfl) ?_
      refine Lt.ofWL.step rfl rfl rfl (OpV.move rfl) ?_
      refine Lt.ofWL.step rfl rfl rfl (OpV.move rfl) ?_
      refine Lt.ofWL.step rfl rfl rfl (OpV.idxA rfl rfl se_53 ha21_3 ⟨(idx_some e21_3).1, by rw [hn21_3]; exact (idx_some e21_3).2.1⟩) ?_
      refine Lt.ofWL.step rfl rfl rfl (OpV.fieldAddr rfl fo_57_9) ?_
      refine WL.heavy0 rfl rfl (OpH.setFld (F := []) (A := tPlane) (off := 9) (i := v2_0) (v' := (PlaneT.mk x21_3.On x21_3.X x21_3.Y x21_3.W x21_3.H x21_3.Layout x21_3.Words x21_3.Alpha x21_3.Orient (wr ((wr (x16_6a + 1)) + 1)) x21_3.ToH)) ha21_3 rfl rfl rfl ts_3 rfl rfl e21_3 (fun _ _ _ ⟨_, _, _, hp, he, h0⟩ => ⟨_, _, _, hp, by rw [he]; rfl, h0⟩) e21_5 ?_)
      refine WL.nil ?_
      refine En.next ?_
      refine WC.seq ?_
      refine WC.region ?_
      refine Lt.ofWL.step rfl rfl rfl (OpV.move rfl) ?_
      refine Lt.ofWL.step rfl rfl rfl (OpV.addR rfl rfl) ?_
      refine Lt.ofWL.step rfl rfl rfl (OpV.assign rfl) ?_
      refine WL.nil ?_
      refine En.next ?_
      refine WC.seq ?_
      refine WC.inh fun hin23 => ?_
      obtain ⟨x23_3, e23_3, zh0⟩ := bnd zh0
      obtain ⟨g23_3, ha23_3⟩ := ownAddr hin23 (.head _) e23_3
      have hn23_3 := ownLen hin23 (.head _)
      obtain ⟨x23_5, e23_5, zh0⟩ := bnd zh0
      refine WC.region ?_
      refine Lt.ofWL.step rfl rfl rfl (OpV.move rfl) ?_
      refine Lt.ofWL.step rfl rfl rfl (OpV.move rfl) ?_
      refine Lt.ofWL.step rfl rfl rfl (OpV.move rfl) ?_
      refine Lt.ofWL.step rfl rfl rfl (OpV.idxA rfl rfl se_53 ha23_3 ⟨(idx_some e23_3).1, by rw [hn23_3]; exact (idx_some e23_3).2.1⟩) ?_
      refine Lt.ofWL.step rfl rfl rfl (OpV.fieldAddr rfl fo_57_10) ?_
      refine WL.heavy0 rfl rfl (OpH.setFld (F := []) (A := tPlane) (off := 10) (i := v2_0) (v' := (PlaneT.mk x23_3.On x23_3.X x23_3.Y x23_3.W x23_3.H x23_3.Layout x23_3.Words x23_3.Alpha x23_3.Orient x23_3.ToW (wr ((wr ((wr (x16_6a + 1)) + 1)) + 1)))) ha23_3 rfl rfl rfl ts_3 rfl rfl e23_3 (fun _ _ _ ⟨_, _, _, hp, he, h0⟩ => ⟨_, _, _, hp, by rw [he]; rfl, h0⟩) e23_5 ?_)
      refine WL.nil ?_
      refine En.next ?_
      refine WC.region ?_
      refine Lt.ofWL.step rfl rfl rfl (OpV.move rfl) ?_
      refine Lt.ofWL.step rfl rfl rfl (OpV.addR rfl rfl) ?_
      refine Lt.ofWL.step rfl rfl rfl (OpV.assign rfl) ?_
      refine WL.nil ?_
      refine En.block_norm ?_
      refine En.next ?_
      refine WC.region ?_
      refine Lt.ofWL.step rfl rfl rfl (OpV.move rfl) ?_
      refine Lt.ofWL.step rfl rfl rfl (OpV.addR rfl rfl) ?_
      refine Lt.ofWL.step rfl rfl rfl (OpV.assign rfl) ?_
      refine WL.nil ?_
      exact En.backP zb0 zh0 fp16_u (Sub.cons rfl (Sub.cons rfl (Sub.cons rfl (Sub.nil _)))) (fun _ h => h)
    ·
      intro hc_1
      replace zh0 := ifO_f hc_1 zh0
      refine WC.exit ?_
      refine En.then_exit ?_
      refine En.then_exit ?_
      have hx := exitP ze0 zh0
      exact En.wk _ _ (Sub.cons rfl (Sub.nil _)) (fun _ h => h) (zK0_0 ((v1_0, v_0), fv_0) hx.symm)

theorem w_laws_FnExactScanLine {a_p0 : List PlaneT} {a_p1 : Int} {a_p2 : Int} {a_p3 : Int} {r : Bool} {q0_0 : Option Addr} {n0_0 k0_0 : Nat} (h : laws_FnExactScanLine a_p0 a_p1 a_p2 a_p3 = some r) {w : World} (r0_0 : Rd tPlane w q0_0 n0_0 k0_0 a_p0)   :
    Calls Try.prog 13 #[.slice q0_0 n0_0 k0_0, .int .i64 a_p1, .int .i64 a_p2, .int .i64 a_p3] w (fun en w' => en = .returned (.bool r) ∧ Ext w w') := by
  obtain rfl := r0_0.1
  unfold laws_FnExactScanLine at h
  refine enter (vs := [_, _, _, _]) Try.func13 rfl rfl rfl rfl ?_
  refine WC.seq ?_
  refine WC.region ?_
  refine Lt.ofWL.step rfl rfl rfl (OpV.assign rfl) ?_
  refine WL.nil ?_
  refine En.next ?_
  refine WC.seq ?_
  refine WC.region ?_
  refine Lt.ofWL.step rfl rfl rfl (OpV.assign rfl) ?_
  refine WL.nil ?_
  refine En.next ?_
  refine WC.seq ?_
  obtain ⟨x2_2, e2_2, h⟩ := bnd h
  refine WC.region ?_
  refine Lt.ofWL.step rfl rfl rfl (OpV.move rfl) ?_
  refine Lt.ofWL.step rfl rfl rfl (OpV.move rfl) ?_
  refine Lt.ofWL.step rfl rfl rfl (OpV.call (evs.cons rfl (evs.cons rfl (evs.nil))) ca_49 (fun w hs => w_laws_szPlaneS e2_2 (r0_0.ext hs.below))) ?_
  refine Lt.ofWL.step rfl rfl rfl (OpV.assign rfl) ?_
  refine WL.nil ?_
  refine En.next ?_
  refine WC.seq ?_
  refine WC.seq ?_
  refine WC.region ?_
  refine Lt.ofWL.step rfl rfl rfl (OpV.move rfl) ?_
  refine Lt.ofWL.step rfl rfl rfl (OpV.lss rfl rfl) ?_
  refine WL.nil ?_
  refine En.next ?_
  refine WC.cond rfl ?_ ?_
  ·
    intro hc_1
    replace h := ifO_t hc_1 h
    refine WC.seq ?_
    refine WC.region ?_
    refine Lt.ofWL.step rfl rfl rfl (OpV.assign rfl) ?_
    refine WL.nil ?_
    refine En.next ?_
    refine WC.ret ?_
    refine En.then_ret ?_
    refine En.ret1 rfl (Res.tmp rfl) ?_
    obtain rfl := Option.some.inj h
    intro w' hs
    exact ⟨rfl, hs.below⟩
  ·
    intro hc_1
    replace h := ifO_f hc_1 h
    refine WC.skip ?_
    refine En.next ?_
    refine WC.seq ?_
    obtain ⟨x5_1, e5_1, h⟩ := bnd h
    obtain ⟨x5_5, e5_5, h⟩ := bnd h
    refine WC.region ?_
    refine Lt.ofWL.step rfl rfl rfl (OpV.move rfl) ?_
    refine WL.heavy rfl rfl rfl (OpH.callR (evs.cons rfl (evs.nil)) ca_51 (fun w hs => w_laws_toPlaneS e5_1 (r0_0.ext hs.below)) ?_)
    rintro _ _ ⟨a5_100, n5_100, c5_100, f5_100, rfl, rfl⟩
    refine Lt.ofWL.step rfl rfl rfl (OpV.move rfl) ?_
    refine Lt.ofWL.step rfl rfl rfl (OpV.move rfl) ?_
    refine Lt.ofWL.step rfl rfl rfl (OpV.move rfl) ?_
    refine WL.heavy rfl rfl rfl (OpH.callR (evs.cons rfl (evs.cons rfl (evs.cons rfl (evs.cons rfl (evs.nil))))) ca_65 (fun w hs => w_spec_ScanLine e5_5 (Ow.rd (hs.mem (.head _)))) ?_)
    rintro _ _ ⟨a5_500, n5_500, c5_500, f5_500, rfl, rfl⟩
    refine Lt.ofWL.step rfl rfl rfl (OpV.assign rfl) ?_
    refine WL.nil ?_
    refine En.next ?_
    refine WC.seq ?_
    obtain ⟨x6_1, e6_1, h⟩ := bnd h
    refine WC.region ?_
    refine Lt.ofWL.step rfl rfl rfl (OpV.move rfl) ?_
    refine WL.heavy rfl rfl rfl (OpH.callR (evs.cons rfl (evs.nil)) ca_51 (fun w hs => w_laws_toPlaneS e6_1 (r0_0.ext hs.below)) ?_)
    rintro _ _ ⟨a6_100, n6_100, c6_100, f6_100, rfl, rfl⟩
    refine Lt.ofWL.step rfl rfl rfl (OpV.assign rfl) ?_
    refine WL.nil ?_
    refine En.next ?_
    refine WC.seq ?_
    obtain ⟨x7_4, e7_4, h⟩ := bnd h
    refine WC.region ?_
    refine Lt.ofWL.step rfl rfl rfl (OpV.move rfl) ?_
    refine Lt.ofWL.step rfl rfl rfl (OpV.move rfl) ?_
    refine Lt.ofWL.step rfl rfl rfl (OpV.move rfl) ?_
    refine Lt.ofWL.step rfl rfl rfl (OpV.move rfl) ?_
    refine WL.heavy rfl rfl rfl (OpH.callR (evs.cons rfl (evs.cons rfl (evs.cons rfl (evs.cons rfl (evs.nil))))) ca_53 (fun w hs => w_impl_ScanLine e7_4 (Ow.rd (hs.mem (.head _)))) ?_)
    rintro _ _ ⟨a7_400, n7_400, c7_400, f7_400, rfl, rfl⟩
    refine Lt.ofWL.step rfl rfl rfl (OpV.assign rfl) ?_
    refine WL.nil ?_
    refine En.next ?_
    refine WC.seq ?_
    refine WC.seq ?_
    obtain ⟨x8_2, e8_2, h⟩ := bnd h
    refine WC.region ?_
    refine Lt.ofWL.step rfl rfl rfl (OpV.move rfl) ?_
    refine Lt.ofWL.step rfl rfl rfl (OpV.move rfl) ?_
    refine Lt.ofWL.step rfl rfl rfl (OpV.call (evs.cons rfl (evs.cons rfl (evs.nil))) ca_25 (fun w hs => w_laws_eqIntS e8_2 (Ow.rd (hs.mem (.head _))) (Ow.rd (hs.mem (.tail _ (.tail _ (.head _))))))) ?_
    refine Lt.ofWL.step rfl rfl rfl (OpV.not rfl) ?_
    refine WL.nil ?_
    refine En.next ?_
    refine WC.cond rfl ?_ ?_
    ·
      intro hc_2
      replace h := ifO_t hc_2 h
      refine WC.seq ?_
      refine WC.region ?_
      refine Lt.ofWL.step rfl rfl rfl (OpV.assign rfl) ?_
      refine WL.nil ?_
      refine En.next ?_
      refine WC.ret ?_
      refine En.then_ret ?_
      refine En.ret1 rfl (Res.tmp rfl) ?_
      obtain rfl := Option.some.inj h
      intro w' hs
      exact ⟨rfl, hs.below⟩
    ·
      intro hc_2
      replace h := ifO_f hc_2 h
      refine WC.skip ?_
      refine En.next ?_
      refine WC.seq ?_
      refine WC.seq ?_
      obtain ⟨x10_2, e10_2, h⟩ := bnd h
      obtain ⟨x10_3, e10_3, h⟩ := bnd h
      refine WC.region ?_
      refine Lt.ofWL.step rfl rfl rfl (OpV.move rfl) ?_
      refine Lt.ofWL.step rfl rfl rfl (OpV.move rfl) ?_
      refine WL.heavy rfl rfl rfl (OpH.callR (evs.cons rfl (evs.nil)) ca_51 (fun w hs => w_laws_toPlaneS e10_2 (r0_0.ext hs.below)) ?_)
      rintro _ _ ⟨a10_200, n10_200, c10_200, f10_200, rfl, rfl⟩
      refine Lt.ofWL.step rfl rfl rfl (OpV.call (evs.cons rfl (evs.cons rfl (evs.nil))) ca_52 (fun w hs => w_laws_eqPlaneS e10_3 (Ow.rd (hs.mem (.tail _ (.tail _ (.head _))))) (Ow.rd (hs.mem (.head _))))) ?_
      refine Lt.ofWL.step rfl rfl rfl (OpV.not rfl) ?_
      refine WL.nil ?_
      refine En.next ?_
      refine WC.cond rfl ?_ ?_
      ·
        intro hc_3
        replace h := ifO_t hc_3 h
        refine WC.seq ?_
        refine WC.region ?_
        refine Lt.ofWL.step rfl rfl rfl (OpV.assign rfl) ?_
        refine WL.nil ?_
        refine En.next ?_
        refine WC.ret ?_
        refine En.then_ret ?_
        refine En.ret1 rfl (Res.tmp rfl) ?_
        obtain rfl := Option.some.inj h
        intro w' hs
        exact ⟨rfl, hs.below⟩
      ·
        intro hc_3
        replace h := ifO_f hc_3 h
        refine WC.skip ?_
        refine En.next ?_
        refine WC.seq ?_
        refine WC.region ?_
        refine Lt.ofWL.step rfl rfl rfl (OpV.assign rfl) ?_
        refine WL.nil ?_
        refine En.next ?_
        refine WC.seq ?_
        obtain ⟨⟨x13_2a, x13_2b⟩, e13_2, h⟩ := bnd h
        refine WC.region ?_
        refine Lt.ofWL.step rfl rfl rfl (OpV.move rfl) ?_
        refine Lt.ofWL.step rfl rfl rfl (OpV.move rfl) ?_
        refine WL.wkF (fun _ h => h.perm (List.perm_middle (l₁ := [_, _]))) ?_
        refine WL.heavy rfl rfl rfl (OpH.callX (evs.cons rfl (evs.cons rfl (evs.nil))) ca_62 (fun w hs => w_laws_markPlaneS e13_2 hs) ?_)
        rintro _ _ ⟨g13_200, rfl, rfl⟩
        refine Lt.ofWL.step rfl rfl rfl (OpV.assign rfl) ?_
        refine WL.nil ?_
        refine En.next ?_
        refine WC.seq ?_
        refine WC.seq ?_
        obtain ⟨q14_7, e14_7, h⟩ := bnd h
        refine WC.region ?_
        refine Lt.ofWL.step rfl rfl rfl (OpV.move rfl) ?_
        refine Lt.ofWL.step rfl rfl rfl (OpV.lss rfl rfl) ?_
        refine Lt.ofWL.step rfl rfl rfl (OpV.move rfl) ?_
        refine Lt.ofWL.orQ 49 54 53 (p := ?pz1) (rest := ?qz1) (B := q14_7) rfl (fun hz => orO_t e14_7 hz) ?Tz1 ?Fz1 ?az1 ?bz1 ?cz1 ?dz1 ?ez1
        case Tz1 =>
          intro hcz1 hkz1
          refine Lt.ofWL.skip rfl rfl rfl ?_
          refine Lt.ofWL.skip rfl rfl rfl ?_
          refine Lt.ofWL.skip rfl rfl rfl ?_
          refine Lt.ofWL.skip rfl rfl rfl ?_
          refine hkz1 _ ?_
          repeat (first | exact Sub.refl _ | refine Sub.skip rfl ?_)
        case Fz1 =>
          intro hcz1 hkz1
          have hqz1 := orO_f e14_7 hcz1
          obtain ⟨x14_5, e14_5, hqz1⟩ := bnd hqz1
          obtain rfl := Option.some.inj hqz1
          refine Lt.ofWL.step rfl rfl rfl (OpV.move rfl) ?_
          refine Lt.ofWL.step rfl rfl rfl (OpV.move rfl) ?_
          refine Lt.ofWL.step rfl rfl rfl (OpV.call (evs.cons rfl (evs.cons rfl (evs.nil))) ca_25 (fun w hs => w_laws_eqIntS e14_5 (Ow.rd (hs.mem (.tail _ (.tail _ (.head _))))) (Ow.rd (hs.mem (.tail _ (.tail _ (.tail _ (.head _)))))))) ?_
          refine Lt.ofWL.step rfl rfl rfl (OpV.not rfl) ?_
          refine hkz1 _ ?_ ?_
          exact rfl
          repeat (first | exact Sub.refl _ | refine Sub.skip rfl ?_)
        case az1 => exact rfl
        case bz1 => exact rfl
        case cz1 => exact rfl
        case dz1 => exact rfl
        refine WL.nil ?_
        refine En.next ?_
        refine WC.cond rfl ?_ ?_
        ·
          intro hc_4
          replace h := ifO_t hc_4 h
          refine WC.seq ?_
          refine WC.region ?_
          refine Lt.ofWL.step rfl rfl rfl (OpV.assign rfl) ?_
          refine WL.nil ?_
          refine En.next ?_
          refine WC.ret ?_
          refine En.then_ret ?_
          refine En.ret1 rfl (Res.tmp rfl) ?_
          obtain rfl := Option.some.inj h
          intro w' hs
          exact ⟨rfl, hs.below⟩
        ·
          intro hc_4
          replace h := ifO_f hc_4 h
          refine WC.skip ?_
          refine En.next ?_
          refine WC.seq ?_
          refine WC.region ?_
          refine Lt.ofWL.step rfl rfl rfl (OpV.assign rfl) ?_
          refine WL.nil ?_
          refine En.next ?_
          refine WC.seq ?_
          obtain ⟨⟨x17_2a, x17_2b⟩, e17_2, h⟩ := bnd h
          refine WC.region ?_
          refine Lt.ofWL.step rfl rfl rfl (OpV.move rfl) ?_
          refine Lt.ofWL.step rfl rfl rfl (OpV.move rfl) ?_
          refine WL.wkF (fun _ h => h.perm (List.perm_middle (l₁ := [_, _]))) ?_
          refine WL.heavy rfl rfl rfl (OpH.callX (evs.cons rfl (evs.cons rfl (evs.nil))) ca_28 (fun w hs => w_laws_markIntS e17_2 hs) ?_)
          rintro _ _ ⟨g17_200, rfl, rfl⟩
          refine Lt.ofWL.step rfl rfl rfl (OpV.assign rfl) ?_
          refine WL.nil ?_
          refine En.next ?_
          refine WC.seq ?_
          refine WC.region ?_
          refine Lt.ofWL.step rfl rfl rfl (OpV.assign rfl) ?_
          refine WL.nil ?_
          refine En.next ?_
          refine WC.seq ?_
          obtain ⟨x19_2, e19_2, h⟩ := bnd h
          refine WC.region ?_
          refine Lt.ofWL.step rfl rfl rfl (OpV.move rfl) ?_
          refine Lt.ofWL.step rfl rfl rfl (OpV.move rfl) ?_
          refine Lt.ofWL.step rfl rfl rfl (OpV.call (evs.cons rfl (evs.cons rfl (evs.nil))) ca_29 (fun w hs => w_laws_heldIntS e19_2 (Ow.rd (hs.mem (.head _))))) ?_
          refine Lt.ofWL.step rfl rfl rfl (OpV.assign rfl) ?_
          refine WL.nil ?_
          refine En.next ?_
          refine WC.seq ?_
          refine WC.seq ?_
          refine WC.region ?_
          refine Lt.ofWL.step rfl rfl rfl (OpV.move rfl) ?_
          refine Lt.ofWL.step rfl rfl rfl (OpV.lss rfl rfl) ?_
          refine WL.nil ?_
          refine En.next ?_
          refine WC.cond rfl ?_ ?_
          ·
            intro hc_5
            replace h := ifO_t hc_5 h
            refine WC.seq ?_
            refine WC.region ?_
            refine Lt.ofWL.step rfl rfl rfl (OpV.assign rfl) ?_
            refine WL.nil ?_
            refine En.next ?_
            refine WC.ret ?_
            refine En.then_ret ?_
            refine En.ret1 rfl (Res.tmp rfl) ?_
            obtain rfl := Option.some.inj h
            intro w' hs
            exact ⟨rfl, hs.below⟩
          ·
            intro hc_5
            replace h := ifO_f hc_5 h
            refine WC.skip ?_
            refine En.next ?_
            refine WC.seq ?_
            refine WC.seq ?_
            refine WC.region ?_
            refine Lt.ofWL.step rfl rfl rfl (OpV.move rfl) ?_
            refine Lt.ofWL.step rfl rfl rfl (OpV.move rfl) ?_
            refine Lt.ofWL.step rfl rfl rfl (OpV.neq rfl rfl) ?_
            refine WL.nil ?_
            refine En.next ?_
            refine WC.cond rfl ?_ ?_
            ·
              intro hc_6
              replace h := ifO_t hc_6 h
              refine WC.seq ?_
              refine WC.region ?_
              refine Lt.ofWL.step rfl rfl rfl (OpV.assign rfl) ?_
              refine WL.nil ?_
              refine En.next ?_
              refine WC.ret ?_
              refine En.then_ret ?_
              refine En.ret1 rfl (Res.tmp rfl) ?_
              obtain rfl := Option.some.inj h
              intro w' hs
              exact ⟨rfl, hs.below⟩
            ·
              intro hc_6
              replace h := ifO_f hc_6 h
              refine WC.skip ?_
              refine En.next ?_
              refine WC.seq ?_
              obtain ⟨x24_1, e24_1, h⟩ := bnd h
              obtain ⟨x24_5, e24_5, h⟩ := bnd h
              refine WC.region ?_
              refine Lt.ofWL.step rfl rfl rfl (OpV.move rfl) ?_
              refine WL.heavy rfl rfl rfl (OpH.callR (evs.cons rfl (evs.nil)) ca_51 (fun w hs => w_laws_toPlaneS e24_1 (r0_0.ext hs.below)) ?_)
              rintro _ _ ⟨a24_100, n24_100, c24_100, f24_100, rfl, rfl⟩
              refine Lt.ofWL.step rfl rfl rfl (OpV.move rfl) ?_
              refine Lt.ofWL.step rfl rfl rfl (OpV.move rfl) ?_
              refine Lt.ofWL.step rfl rfl rfl (OpV.move rfl) ?_
              refine WL.heavy rfl rfl rfl (OpH.callR (evs.cons rfl (evs.cons rfl (evs.cons rfl (evs.cons rfl (evs.nil))))) ca_53 (fun w hs => w_impl_ScanLine e24_5 (Ow.rd (hs.mem (.head _)))) ?_)
              rintro _ _ ⟨a24_500, n24_500, c24_500, f24_500, rfl, rfl⟩
              refine Lt.ofWL.step rfl rfl rfl (OpV.assign rfl) ?_
              refine WL.nil ?_
              refine En.next ?_
              refine WC.seq ?_
              refine WC.seq ?_
              obtain ⟨x25_2, e25_2, h⟩ := bnd h
              refine WC.region ?_
              refine Lt.ofWL.step rfl rfl rfl (OpV.move rfl) ?_
              refine Lt.ofWL.step rfl rfl rfl (OpV.move rfl) ?_
              refine Lt.ofWL.step rfl rfl rfl (OpV.call (evs.cons rfl (evs.cons rfl (evs.nil))) ca_25 (fun w hs => w_laws_eqIntS e25_2 (Ow.rd (hs.mem (.head _))) (Ow.rd (hs.mem (.tail _ (.tail _ (.tail _ (.tail _ (.tail _ (.head _)))))))))) ?_
              refine Lt.ofWL.step rfl rfl rfl (OpV.not rfl) ?_
              refine WL.nil ?_
              refine En.next ?_
              refine WC.cond rfl ?_ ?_
              ·
                intro hc_7
                replace h := ifO_t hc_7 h
                refine WC.seq ?_
                refine WC.region ?_
                refine Lt.ofWL.step rfl rfl rfl (OpV.assign rfl) ?_
                refine WL.nil ?_
                refine En.next ?_
                refine WC.ret ?_
                refine En.then_ret ?_
                refine En.ret1 rfl (Res.tmp rfl) ?_
                obtain rfl := Option.some.inj h
                intro w' hs
                exact ⟨rfl, hs.below⟩
              ·
                intro hc_7
                replace h := ifO_f hc_7 h
                refine WC.skip ?_
                refine En.next ?_
                refine WC.seq ?_
                refine WC.region ?_
                refine Lt.ofWL.step rfl rfl rfl (OpV.assign rfl) ?_
                refine WL.nil ?_
                refine En.next ?_
                refine WC.seq ?_
                obtain ⟨x28_2, e28_2, h⟩ := bnd h
                refine WC.region ?_
                refine Lt.ofWL.step rfl rfl rfl (OpV.move rfl) ?_
                refine Lt.ofWL.step rfl rfl rfl (OpV.move rfl) ?_
                refine Lt.ofWL.step rfl rfl rfl (OpV.call (evs.cons rfl (evs.cons rfl (evs.nil))) ca_29 (fun w hs => w_laws_heldIntS e28_2 (Ow.rd (hs.mem (.tail _ (.tail _ (.head _))))))) ?_
                refine Lt.ofWL.step rfl rfl rfl (OpV.assign rfl) ?_
                refine WL.nil ?_
                refine En.next ?_
                refine WC.seq ?_
                refine WC.seq ?_
                refine WC.region ?_
                refine Lt.ofWL.step rfl rfl rfl (OpV.move rfl) ?_
                refine Lt.ofWL.step rfl rfl rfl (OpV.lss rfl rfl) ?_
                refine WL.nil ?_
                refine En.next ?_
                refine WC.cond rfl ?_ ?_
                ·
                  intro hc_8
                  replace h := ifO_t hc_8 h
                  refine WC.seq ?_
                  refine WC.region ?_
                  refine Lt.ofWL.step rfl rfl rfl (OpV.assign rfl) ?_
                  refine WL.nil ?_
                  refine En.next ?_
                  refine WC.ret ?_
                  refine En.then_ret ?_
                  refine En.ret1 rfl (Res.tmp rfl) ?_
                  obtain rfl := Option.some.inj h
                  intro w' hs
                  exact ⟨rfl, hs.below⟩
                ·
                  intro hc_8
                  replace h := ifO_f hc_8 h
                  refine WC.skip ?_
                  refine En.next ?_
                  refine WC.seq ?_
                  refine WC.seq ?_
                  refine WC.region ?_
                  refine Lt.ofWL.step rfl rfl rfl (OpV.move rfl) ?_
                  refine Lt.ofWL.step rfl rfl rfl (OpV.move rfl) ?_
                  refine Lt.ofWL.step rfl rfl rfl (OpV.neq rfl rfl) ?_
                  refine WL.nil ?_
                  refine En.next ?_
                  refine WC.cond rfl ?_ ?_
                  ·
                    intro hc_9
                    replace h := ifO_t hc_9 h
                    refine WC.seq ?_
                    refine WC.region ?_
                    refine Lt.ofWL.step rfl rfl rfl (OpV.assign rfl) ?_
                    refine WL.nil ?_
                    refine En.next ?_
                    refine WC.ret ?_
                    refine En.then_ret ?_
                    refine En.ret1 rfl (Res.tmp rfl) ?_
                    obtain rfl := Option.some.inj h
                    intro w' hs
                    exact ⟨rfl, hs.below⟩
                  ·
                    intro hc_9
                    replace h := ifO_f hc_9 h
                    refine WC.skip ?_
                    refine En.next ?_
                    refine WC.seq ?_
                    refine WC.region ?_
                    refine Lt.ofWL.step rfl rfl rfl (OpV.assign rfl) ?_
                    refine WL.nil ?_
                    refine En.next ?_
                    refine WC.ret ?_
                    refine En.ret1 rfl (Res.tmp rfl) ?_
                    obtain rfl := Option.some.inj h
                    intro w' hs
                    exact ⟨rfl, hs.below⟩

theorem w_spec_ScanOut {list_p0 : List PlaneT} {w_p1 : Int} {h_p2 : Int} {r : ImageT} {q0_0 : Option Addr} {n0_0 k0_0 : Nat} (h : spec_ScanOut list_p0 w_p1 h_p2 = some r) {w : World} (r0_0 : Rd tPlane w q0_0 n0_0 k0_0 list_p0)   :
    Calls Try.prog 66 #[.slice q0_0 n0_0 k0_0, .int .i64 w_p1, .int .i64 h_p2] w (fun en w' => ∃ rv G, en = .returned rv ∧ (∃ (a0_0 : Option Addr) (n0_0 : Nat) (c0_0 : Nat) (f0_0 : List Nat), rv = .agg #[.int .i64 r.W, .int .i64 r.H, .slice a0_0 n0_0 c0_0] ∧ G = [Chunk.own tInt f0_0 a0_0 n0_0 c0_0 r.Data]) ∧ St w G w') := by
  obtain rfl := r0_0.1
  unfold spec_ScanOut at h
  refine enter (vs := [_, _, _]) Try.func66 rfl rfl rfl rfl ?_
  refine WC.seq ?_
  refine WC.region ?_
  refine WL.heavy rfl rfl rfl (OpH.alloc zc_36 ?_)
  intro b0_0
  refine WL.nil ?_
  refine En.next ?_
  refine WC.seq ?_
  refine WC.seq ?_
  obtain ⟨x1_3, e1_3, h⟩ := bnd h
  refine WC.region ?_
  refine Lt.ofWL.step rfl rfl rfl (OpV.move rfl) ?_
  refine Lt.ofWL.step rfl rfl rfl (OpV.move rfl) ?_
  refine Lt.ofWL.step rfl rfl rfl (OpV.move rfl) ?_
  refine Lt.ofWL.step rfl rfl rfl (OpV.call (evs.cons rfl (evs.cons rfl (evs.cons rfl (evs.nil)))) ca_50 (fun w hs => w_spec_PlanesOk e1_3 (r0_0.ext hs.below))) ?_
  refine Lt.ofWL.step rfl rfl rfl (OpV.not rfl) ?_
  refine WL.nil ?_
  refine En.next ?_
  refine WC.cond rfl ?_ ?_
  ·
    intro hc_1
    replace h := ifO_t hc_1 h
    refine WC.seq ?_
    refine WC.region ?_
    refine Lt.ofWL.step rfl rfl rfl (OpV.build (evps.nil) bd_36_) ?_
    refine WL.heavy0 rfl rfl (OpH.storeTo (A := []) [_, _, _] rfl rfl rfl ts_36 rfl rfl rfl ?_)
    refine WL.nil ?_
    refine En.next ?_
    refine WC.ret ?_
    refine En.then_ret ?_
    refine En.ret1 rfl (Res.cell rfl (.head _) ag_36) ?_
    obtain rfl := Option.some.inj h
    intro w' hs
    have hs := ((hs).ownNil (A := tInt)).sub (.cons_cons _ (.cons _ (.slnil)))
    exact ⟨_, _, rfl, ⟨.none, 0, 0, [], rfl, rfl⟩, hs⟩
  ·
    intro hc_1
    replace h := ifO_f hc_1 h
    refine WC.skip ?_
    refine En.next ?_
    refine WC.seq ?_
    obtain ⟨x3_3, e3_3, h⟩ := bnd h
    refine WC.region ?_
    refine Lt.ofWL.step rfl rfl rfl (OpV.move rfl) ?_
    refine Lt.ofWL.step rfl rfl rfl (OpV.move rfl) ?_
    refine Lt.ofWL.step rfl rfl rfl (OpV.move rfl) ?_
    refine WL.heavy rfl rfl rfl (OpH.callR (evs.cons rfl (evs.cons rfl (evs.cons rfl (evs.nil)))) ca_118 (fun w hs => w_spec_l20Out e3_3 (r0_0.ext hs.below)) ?_)
    rintro _ _ ⟨a3_300, n3_300, c3_300, f3_300, rfl, rfl⟩
    refine WL.heavy0 rfl rfl (OpH.storeTo (A := [_]) [_, _, _] rfl rfl rfl ts_36 rfl rfl rfl ?_)
    refine WL.nil ?_
    refine En.next ?_
    refine WC.ret ?_
    refine En.ret1 rfl (Res.cell rfl (.tail _ (.head _)) ag_36) ?_
    obtain rfl := Option.some.inj h
    intro w' hs
    have hs := (hs).sub (.cons_cons _ (.cons _ (.slnil)))
    exact ⟨_, _, rfl, ⟨a3_300, n3_300, c3_300, f3_300, rfl, rfl⟩, hs⟩

theorem w_impl_ScanOut {list_p0 : List PlaneT} {w_p1 : Int} {h_p2 : Int} {r : ImageT} {q0_0 : Option Addr} {n0_0 k0_0 : Nat} (h : impl_ScanOut list_p0 w_p1 h_p2 = some r) {w : World} (r0_0 : Rd tPlane w q0_0 n0_0 k0_0 list_p0)   :
    Calls Try.prog 36 #[.slice q0_0 n0_0 k0_0, .int .i64 w_p1, .int .i64 h_p2] w (fun en w' => ∃ rv G, en = .returned rv ∧ (∃ (a0_0 : Option Addr) (n0_0 : Nat) (c0_0 : Nat) (f0_0 : List Nat), rv = .agg #[.int .i64 r.W, .int .i64 r.H, .slice a0_0 n0_0 c0_0] ∧ G = [Chunk.own tInt f0_0 a0_0 n0_0 c0_0 r.Data]) ∧ St w G w') := by
  obtain rfl := r0_0.1
  unfold impl_ScanOut at h
  refine enter (vs := [_, _, _]) Try.func36 rfl rfl rfl rfl ?_
  refine WC.seq ?_
  refine WC.region ?_
  refine WL.heavy rfl rfl rfl (OpH.alloc zc_36 ?_)
  intro b0_0
  refine WL.nil ?_
  refine En.next ?_
  refine WC.seq ?_
  refine WC.seq ?_
  obtain ⟨x1_3, e1_3, h⟩ := bnd h
  refine WC.region ?_
  refine Lt.ofWL.step rfl rfl rfl (OpV.move rfl) ?_
  refine Lt.ofWL.step rfl rfl rfl (OpV.move rfl) ?_
  refine Lt.ofWL.step rfl rfl rfl (OpV.move rfl) ?_
  refine Lt.ofWL.step rfl rfl rfl (OpV.call (evs.cons rfl (evs.cons rfl (evs.cons rfl (evs.nil)))) ca_37 (fun w hs => w_impl_PlanesOk e1_3 (r0_0.ext hs.below))) ?_
  refine Lt.ofWL.step rfl rfl rfl (OpV.not rfl) ?_
  refine WL.nil ?_
  refine En.next ?_
  refine WC.cond rfl ?_ ?_
  ·
    intro hc_1
    replace h := ifO_t hc_1 h
    refine WC.seq ?_
    refine WC.region ?_
    refine Lt.ofWL.step rfl rfl rfl (OpV.build (evps.nil) bd_36_) ?_
    refine WL.heavy0 rfl rfl (OpH.storeTo (A := []) [_, _, _] rfl rfl rfl ts_36 rfl rfl rfl ?_)
    refine WL.nil ?_
    refine En.next ?_
    refine WC.ret ?_
    refine En.then_ret ?_
    refine En.ret1 rfl (Res.cell rfl (.head _) ag_36) ?_
    obtain rfl := Option.some.inj h
    intro w' hs
    have hs := ((hs).ownNil (A := tInt)).sub (.cons_cons _ (.cons _ (.slnil)))
    exact ⟨_, _, rfl, ⟨.none, 0, 0, [], rfl, rfl⟩, hs⟩
  ·
    intro hc_1
    replace h := ifO_f hc_1 h
    refine WC.skip ?_
    refine En.next ?_
    refine WC.seq ?_
    obtain ⟨x3_1, e3_1, h⟩ := bnd h
    refine WC.region ?_
    refine Lt.ofWL.step rfl rfl rfl (OpV.move rfl) ?_
    refine WL.heavy rfl rfl rfl (OpH.callR (evs.cons rfl (evs.nil)) ca_90 (fun w hs => w_impl_scanned e3_1 (r0_0.ext hs.below)) ?_)
    rintro _ _ ⟨a3_100, n3_100, c3_100, f3_100, rfl, rfl⟩
    refine WL.heavy0 rfl rfl (OpH.storeTo (A := [_]) [_, _, _] rfl rfl rfl ts_36 rfl rfl rfl ?_)
    refine WL.nil ?_
    refine En.next ?_
    refine WC.ret ?_
    refine En.ret1 rfl (Res.cell rfl (.tail _ (.head _)) ag_36) ?_
    obtain rfl := Option.some.inj h
    intro w' hs
    have hs := (hs).sub (.cons_cons _ (.cons _ (.slnil)))
    exact ⟨_, _, rfl, ⟨a3_100, n3_100, c3_100, f3_100, rfl, rfl⟩, hs⟩

theorem w_laws_FnExactScanOut {a_p0 : List PlaneT} {a_p1 : Int} {a_p2 : Int} {r : Bool} {q0_0 : Option Addr} {n0_0 k0_0 : Nat} (h : laws_FnExactScanOut a_p0 a_p1 a_p2 = some r) {w : World} (r0_0 : Rd tPlane w q0_0 n0_0 k0_0 a_p0)   :
    Calls Try.prog 14 #[.slice q0_0 n0_0 k0_0, .int .i64 a_p1, .int .i64 a_p2] w (fun en w' => en = .returned (.bool r) ∧ Ext w w') := by
  obtain rfl := r0_0.1
  unfold laws_FnExactScanOut at h
  refine enter (vs := [_, _, _]) Try.func14 rfl rfl rfl rfl ?_
  refine WC.seq ?_
  refine WC.region ?_
  refine Lt.ofWL.step rfl rfl rfl (OpV.assign rfl) ?_
  refine WL.nil ?_
  refine En.next ?_
  refine WC.seq ?_
  refine WC.region ?_
  refine Lt.ofWL.step rfl rfl rfl (OpV.assign rfl) ?_
  refine WL.nil ?_
  refine En.next ?_
  refine WC.seq ?_
  obtain ⟨x2_2, e2_2, h⟩ := bnd h
  refine WC.region ?_
  refine Lt.ofWL.step rfl rfl rfl (OpV.move rfl) ?_
  refine Lt.ofWL.step rfl rfl rfl (OpV.move rfl) ?_
  refine Lt.ofWL.step rfl rfl rfl (OpV.call (evs.cons rfl (evs.cons rfl (evs.nil))) ca_49 (fun w hs => w_laws_szPlaneS e2_2 (r0_0.ext hs.below))) ?_
  refine Lt.ofWL.step rfl rfl rfl (OpV.assign rfl) ?_
  refine WL.nil ?_
  refine En.next ?_
  refine WC.seq ?_
  refine WC.seq ?_
  refine WC.region ?_
  refine Lt.ofWL.step rfl rfl rfl (OpV.move rfl) ?_
  refine Lt.ofWL.step rfl rfl rfl (OpV.lss rfl rfl) ?_
  refine WL.nil ?_
  refine En.next ?_
  refine WC.cond rfl ?_ ?_
  ·
    intro hc_1
    replace h := ifO_t hc_1 h
    refine WC.seq ?_
    refine WC.region ?_
    refine Lt.ofWL.step rfl rfl rfl (OpV.assign rfl) ?_
    refine WL.nil ?_
    refine En.next ?_
    refine WC.ret ?_
    refine En.then_ret ?_
    refine En.ret1 rfl (Res.tmp rfl) ?_
    obtain rfl := Option.some.inj h
    intro w' hs
    exact ⟨rfl, hs.below⟩
  ·
    intro hc_1
    replace h := ifO_f hc_1 h
    refine WC.skip ?_
    refine En.next ?_
    refine WC.seq ?_
    obtain ⟨x5_1, e5_1, h⟩ := bnd h
    obtain ⟨x5_4, e5_4, h⟩ := bnd h
    refine WC.region ?_
    refine Lt.ofWL.step rfl rfl rfl (OpV.move rfl) ?_
    refine WL.heavy rfl rfl rfl (OpH.callR (evs.cons rfl (evs.nil)) ca_51 (fun w hs => w_laws_toPlaneS e5_1 (r0_0.ext hs.below)) ?_)
    rintro _ _ ⟨a5_100, n5_100, c5_100, f5_100, rfl, rfl⟩
    refine Lt.ofWL.step rfl rfl rfl (OpV.move rfl) ?_
    refine Lt.ofWL.step rfl rfl rfl (OpV.move rfl) ?_
    refine WL.heavy rfl rfl rfl (OpH.callR (evs.cons rfl (evs.cons rfl (evs.cons rfl (evs.nil)))) ca_66 (fun w hs => w_spec_ScanOut e5_4 (Ow.rd (hs.mem (.head _)))) ?_)
    rintro _ _ ⟨a5_400, n5_400, c5_400, f5_400, rfl, rfl⟩
    refine WL.heavy rfl rfl rfl (OpH.alloc zc_36 ?_)
    intro b5_5
    refine WL.heavy0 rfl rfl (OpH.storeTo (A := []) [_, _, _] rfl rfl rfl ts_36 rfl rfl rfl ?_)
    refine WL.nil ?_
    refine En.next ?_
    refine WC.seq ?_
    obtain ⟨x6_1, e6_1, h⟩ := bnd h
    refine WC.region ?_
    refine Lt.ofWL.step rfl rfl rfl (OpV.move rfl) ?_
    refine WL.heavy rfl rfl rfl (OpH.callR (evs.cons rfl (evs.nil)) ca_51 (fun w hs => w_laws_toPlaneS e6_1 (r0_0.ext hs.below)) ?_)
    rintro _ _ ⟨a6_100, n6_100, c6_100, f6_100, rfl, rfl⟩
    refine Lt.ofWL.step rfl rfl rfl (OpV.assign rfl) ?_
    refine WL.nil ?_
    refine En.next ?_
    refine WC.seq ?_
    obtain ⟨x7_3, e7_3, h⟩ := bnd h
    refine WC.region ?_
    refine Lt.ofWL.step rfl rfl rfl (OpV.move rfl) ?_
    refine Lt.ofWL.step rfl rfl rfl (OpV.move rfl) ?_
    refine Lt.ofWL.step rfl rfl rfl (OpV.move rfl) ?_
    refine WL.heavy rfl rfl rfl (OpH.callR (evs.cons rfl (evs.cons rfl (evs.cons rfl (evs.nil)))) ca_36 (fun w hs => w_impl_ScanOut e7_3 (Ow.rd (hs.mem (.head _)))) ?_)
    rintro _ _ ⟨a7_300, n7_300, c7_300, f7_300, rfl, rfl⟩
    refine WL.heavy rfl rfl rfl (OpH.alloc zc_36 ?_)
    intro b7_4
    refine WL.heavy0 rfl rfl (OpH.storeTo (A := []) [_, _, _] rfl rfl rfl ts_36 rfl rfl rfl ?_)
    refine WL.nil ?_
    refine En.next ?_
    refine WC.seq ?_
    refine WC.seq ?_
    obtain ⟨x8_2, e8_2, h⟩ := bnd h
    refine WC.region ?_
    refine Lt.ofWL.step rfl rfl rfl (OpV.loadAll rfl (.head _) ag_36) ?_
    refine Lt.ofWL.step rfl rfl rfl (OpV.loadAll rfl (.tail _ (.tail _ (.tail _ (.head _)))) ag_36) ?_
    refine Lt.ofWL.step rfl rfl rfl (OpV.call (evs.cons rfl (evs.cons rfl (evs.nil))) ca_43 (fun w hs => w_laws_eqImage e8_2 (Ow.rd (hs.mem (.tail _ (.head _)))) (Ow.rd (hs.mem (.tail _ (.tail _ (.tail _ (.tail _ (.head _))))))))) ?_
    refine Lt.ofWL.step rfl rfl rfl (OpV.not rfl) ?_
    refine WL.nil ?_
    refine En.next ?_
    refine WC.cond rfl ?_ ?_
    ·
      intro hc_2
      replace h := ifO_t hc_2 h
      refine WC.seq ?_
      refine WC.region ?_
      refine Lt.ofWL.step rfl rfl rfl (OpV.assign rfl) ?_
      refine WL.nil ?_
      refine En.next ?_
      refine WC.ret ?_
      refine En.then_ret ?_
      refine En.ret1 rfl (Res.tmp rfl) ?_
      obtain rfl := Option.some.inj h
      intro w' hs
      exact ⟨rfl, hs.below⟩
    ·
      intro hc_2
      replace h := ifO_f hc_2 h
      refine WC.skip ?_
      refine En.next ?_
      refine WC.seq ?_
      refine WC.seq ?_
      obtain ⟨x10_2, e10_2, h⟩ := bnd h
      obtain ⟨x10_3, e10_3, h⟩ := bnd h
      refine WC.region ?_
      refine Lt.ofWL.step rfl rfl rfl (OpV.move rfl) ?_
      refine Lt.ofWL.step rfl rfl rfl (OpV.move rfl) ?_
      refine WL.heavy rfl rfl rfl (OpH.callR (evs.cons rfl (evs.nil)) ca_51 (fun w hs => w_laws_toPlaneS e10_2 (r0_0.ext hs.below)) ?_)
      rintro _ _ ⟨a10_200, n10_200, c10_200, f10_200, rfl, rfl⟩
      refine Lt.ofWL.step rfl rfl rfl (OpV.call (evs.cons rfl (evs.cons rfl (evs.nil))) ca_52 (fun w hs => w_laws_eqPlaneS e10_3 (Ow.rd (hs.mem (.tail _ (.tail _ (.tail _ (.head _)))))) (Ow.rd (hs.mem (.head _))))) ?_
      refine Lt.ofWL.step rfl rfl rfl (OpV.not rfl) ?_
      refine WL.nil ?_
      refine En.next ?_
      refine WC.cond rfl ?_ ?_
      ·
        intro hc_3
        replace h := ifO_t hc_3 h
        refine WC.seq ?_
        refine WC.region ?_
        refine Lt.ofWL.step rfl rfl rfl (OpV.assign rfl) ?_
        refine WL.nil ?_
        refine En.next ?_
        refine WC.ret ?_
        refine En.then_ret ?_
        refine En.ret1 rfl (Res.tmp rfl) ?_
        obtain rfl := Option.some.inj h
        intro w' hs
        exact ⟨rfl, hs.below⟩
      ·
        intro hc_3
        replace h := ifO_f hc_3 h
        refine WC.skip ?_
        refine En.next ?_
        refine WC.seq ?_
        refine WC.region ?_
        refine Lt.ofWL.step rfl rfl rfl (OpV.assign rfl) ?_
        refine WL.nil ?_
        refine En.next ?_
        refine WC.seq ?_
        obtain ⟨⟨x13_2a, x13_2b⟩, e13_2, h⟩ := bnd h
        refine WC.region ?_
        refine Lt.ofWL.step rfl rfl rfl (OpV.move rfl) ?_
        refine Lt.ofWL.step rfl rfl rfl (OpV.move rfl) ?_
        refine WL.wkF (fun _ h => h.perm (List.perm_middle (l₁ := [_, _, _]))) ?_
        refine WL.heavy rfl rfl rfl (OpH.callX (evs.cons rfl (evs.cons rfl (evs.nil))) ca_62 (fun w hs => w_laws_markPlaneS e13_2 hs) ?_)
        rintro _ _ ⟨g13_200, rfl, rfl⟩
        refine Lt.ofWL.step rfl rfl rfl (OpV.assign rfl) ?_
        refine WL.nil ?_
        refine En.next ?_
        refine WC.seq ?_
        refine WC.seq ?_
        obtain ⟨q14_7, e14_7, h⟩ := bnd h
        refine WC.region ?_
        refine Lt.ofWL.step rfl rfl rfl (OpV.move rfl) ?_
        refine Lt.ofWL.step rfl rfl rfl (OpV.lss rfl rfl) ?_
        refine Lt.ofWL.step rfl rfl rfl (OpV.move rfl) ?_
        refine Lt.ofWL.orQ 45 50 49 (p := ?pz1) (rest := ?qz1) (B := q14_7) rfl (fun hz => orO_t e14_7 hz) ?Tz1 ?Fz1 ?az1 ?bz1 ?cz1 ?dz1 ?ez1
        case Tz1 =>
          intro hcz1 hkz1
          refine Lt.ofWL.skip rfl rfl rfl ?_
          refine Lt.ofWL.skip rfl rfl rfl ?_
          refine Lt.ofWL.skip rfl rfl rfl ?_
          refine Lt.ofWL.skip rfl rfl rfl ?_
          refine hkz1 _ ?_
          repeat (first | exact Sub.refl _ | refine Sub.skip rfl ?_)
        case Fz1 =>
          intro hcz1 hkz1
          have hqz1 := orO_f e14_7 hcz1
          obtain ⟨x14_5, e14_5, hqz1⟩ := bnd hqz1
          obtain rfl := Option.some.inj hqz1
          refine Lt.ofWL.step rfl rfl rfl (OpV.loadAll rfl (.tail _ (.tail _ (.head _))) ag_36) ?_
          refine Lt.ofWL.step rfl rfl rfl (OpV.loadAll rfl (.tail _ (.tail _ (.tail _ (.tail _ (.head _))))) ag_36) ?_
          refine Lt.ofWL.step rfl rfl rfl (OpV.call (evs.cons rfl (evs.cons rfl (evs.nil))) ca_43 (fun w hs => w_laws_eqImage e14_5 (Ow.rd (hs.mem (.tail _ (.tail _ (.tail _ (.head _)))))) (Ow.rd (hs.mem (.tail _ (.tail _ (.tail _ (.tail _ (.tail _ (.head _)))))))))) ?_
          refine Lt.ofWL.step rfl rfl rfl (OpV.not rfl) ?_
          refine hkz1 _ ?_ ?_
          exact rfl
          repeat (first | exact Sub.refl _ | refine Sub.skip rfl ?_)
        case az1 => exact rfl
        case bz1 => exact rfl
        case cz1 => exact rfl
        case dz1 => exact rfl
        refine WL.nil ?_
        refine En.next ?_
        refine WC.cond rfl ?_ ?_
        ·
          intro hc_4
          replace h := ifO_t hc_4 h
          refine WC.seq ?_
          refine WC.region ?_
          refine Lt.ofWL.step rfl rfl rfl (OpV.assign rfl) ?_
          refine WL.nil ?_
          refine En.next ?_
          refine WC.ret ?_
          refine En.then_ret ?_
          refine En.ret1 rfl (Res.tmp rfl) ?_
          obtain rfl := Option.some.inj h
          intro w' hs
          exact ⟨rfl, hs.below⟩
        ·
          intro hc_4
          replace h := ifO_f hc_4 h
          refine WC.skip ?_
          refine En.next ?_
          refine WC.seq ?_
          refine WC.region ?_
          refine Lt.ofWL.step rfl rfl rfl (OpV.assign rfl) ?_
          refine WL.nil ?_
          refine En.next ?_
          refine WC.seq ?_
          obtain ⟨⟨x17_2a, x17_2b⟩, e17_2, h⟩ := bnd h
          refine WC.region ?_
          refine Lt.ofWL.step rfl rfl rfl (OpV.loadAll rfl (.tail _ (.tail _ (.head _))) ag_36) ?_
          refine Lt.ofWL.step rfl rfl rfl (OpV.move rfl) ?_
          refine WL.wkF (fun _ h => h.perm (List.perm_middle (l₁ := [_, _, _]))) ?_
          refine WL.heavy rfl rfl rfl (OpH.callX (evs.cons rfl (evs.cons rfl (evs.nil))) ca_46 (fun w hs => w_laws_markImage e17_2 hs) ?_)
          rintro _ _ ⟨g17_200, rfl, rfl⟩
          refine Lt.ofWL.step rfl rfl rfl (OpV.assign rfl) ?_
          refine WL.nil ?_
          refine En.next ?_
          refine WC.seq ?_
          refine WC.region ?_
          refine Lt.ofWL.step rfl rfl rfl (OpV.assign rfl) ?_
          refine WL.nil ?_
          refine En.next ?_
          refine WC.seq ?_
          obtain ⟨x19_2, e19_2, h⟩ := bnd h
          refine WC.region ?_
          refine Lt.ofWL.step rfl rfl rfl (OpV.loadAll rfl (.tail _ (.tail _ (.tail _ (.head _)))) ag_36) ?_
          refine Lt.ofWL.step rfl rfl rfl (OpV.move rfl) ?_
          refine Lt.ofWL.step rfl rfl rfl (OpV.call (evs.cons rfl (evs.cons rfl (evs.nil))) ca_47 (fun w hs => w_laws_heldImage e19_2 (Ow.rd (hs.mem (.head _))))) ?_
          refine Lt.ofWL.step rfl rfl rfl (OpV.assign rfl) ?_
          refine WL.nil ?_
          refine En.next ?_
          refine WC.seq ?_
          refine WC.seq ?_
          refine WC.region ?_
          refine Lt.ofWL.step rfl rfl rfl (OpV.move rfl) ?_
          refine Lt.ofWL.step rfl rfl rfl (OpV.lss rfl rfl) ?_
          refine WL.nil ?_
          refine En.next ?_
          refine WC.cond rfl ?_ ?_
          ·
            intro hc_5
            replace h := ifO_t hc_5 h
            refine WC.seq ?_
            refine WC.region ?_
            refine Lt.ofWL.step rfl rfl rfl (OpV.assign rfl) ?_
            refine WL.nil ?_
            refine En.next ?_
            refine WC.ret ?_
            refine En.then_ret ?_
            refine En.ret1 rfl (Res.tmp rfl) ?_
            obtain rfl := Option.some.inj h
            intro w' hs
            exact ⟨rfl, hs.below⟩
          ·
            intro hc_5
            replace h := ifO_f hc_5 h
            refine WC.skip ?_
            refine En.next ?_
            refine WC.seq ?_
            refine WC.seq ?_
            refine WC.region ?_
            refine Lt.ofWL.step rfl rfl rfl (OpV.move rfl) ?_
            refine Lt.ofWL.step rfl rfl rfl (OpV.move rfl) ?_
            refine Lt.ofWL.step rfl rfl rfl (OpV.neq rfl rfl) ?_
            refine WL.nil ?_
            refine En.next ?_
            refine WC.cond rfl ?_ ?_
            ·
              intro hc_6
              replace h := ifO_t hc_6 h
              refine WC.seq ?_
              refine WC.region ?_
              refine Lt.ofWL.step rfl rfl rfl (OpV.assign rfl) ?_
              refine WL.nil ?_
              refine En.next ?_
              refine WC.ret ?_
              refine En.then_ret ?_
              refine En.ret1 rfl (Res.tmp rfl) ?_
              obtain rfl := Option.some.inj h
              intro w' hs
              exact ⟨rfl, hs.below⟩
            ·
              intro hc_6
              replace h := ifO_f hc_6 h
              refine WC.skip ?_
              refine En.next ?_
              refine WC.seq ?_
              obtain ⟨x24_1, e24_1, h⟩ := bnd h
              obtain ⟨x24_4, e24_4, h⟩ := bnd h
              refine WC.region ?_
              refine Lt.ofWL.step rfl rfl rfl (OpV.move rfl) ?_
              refine WL.heavy rfl rfl rfl (OpH.callR (evs.cons rfl (evs.nil)) ca_51 (fun w hs => w_laws_toPlaneS e24_1 (r0_0.ext hs.below)) ?_)
              rintro _ _ ⟨a24_100, n24_100, c24_100, f24_100, rfl, rfl⟩
              refine Lt.ofWL.step rfl rfl rfl (OpV.move rfl) ?_
              refine Lt.ofWL.step rfl rfl rfl (OpV.move rfl) ?_
              refine WL.heavy rfl rfl rfl (OpH.callR (evs.cons rfl (evs.cons rfl (evs.cons rfl (evs.nil)))) ca_36 (fun w hs => w_impl_ScanOut e24_4 (Ow.rd (hs.mem (.head _)))) ?_)
              rintro _ _ ⟨a24_400, n24_400, c24_400, f24_400, rfl, rfl⟩
              refine WL.heavy rfl rfl rfl (OpH.alloc zc_36 ?_)
              intro b24_5
              refine WL.heavy0 rfl rfl (OpH.storeTo (A := []) [_, _, _] rfl rfl rfl ts_36 rfl rfl rfl ?_)
              refine WL.nil ?_
              refine En.next ?_
              refine WC.seq ?_
              refine WC.seq ?_
              obtain ⟨x25_2, e25_2, h⟩ := bnd h
              refine WC.region ?_
              refine Lt.ofWL.step rfl rfl rfl (OpV.loadAll rfl (.head _) ag_36) ?_
              refine Lt.ofWL.step rfl rfl rfl (OpV.loadAll rfl (.tail _ (.tail _ (.tail _ (.tail _ (.tail _ (.tail _ (.tail _ (.head _)))))))) ag_36) ?_
              refine Lt.ofWL.step rfl rfl rfl (OpV.call (evs.cons rfl (evs.cons rfl (evs.nil))) ca_43 (fun w hs => w_laws_eqImage e25_2 (Ow.rd (hs.mem (.tail _ (.head _)))) (Ow.rd (hs.mem (.tail _ (.tail _ (.tail _ (.tail _ (.tail _ (.tail _ (.tail _ (.tail _ (.head _))))))))))))) ?_
              refine Lt.ofWL.step rfl rfl rfl (OpV.not rfl) ?_
              refine WL.nil ?_
              refine En.next ?_
              refine WC.cond rfl ?_ ?_
              ·
                intro hc_7
                replace h := ifO_t hc_7 h
                refine WC.seq ?_
                refine WC.region ?_
                refine Lt.ofWL.step rfl rfl rfl (OpV.assign rfl) ?_
                refine WL.nil ?_
                refine En.next ?_
                refine WC.ret ?_
                refine En.then_ret ?_
                refine En.ret1 rfl (Res.tmp rfl) ?_
                obtain rfl := Option.some.inj h
                intro w' hs
                exact ⟨rfl, hs.below⟩
              ·
                intro hc_7
                replace h := ifO_f hc_7 h
                refine WC.skip ?_
                refine En.next ?_
                refine WC.seq ?_
                refine WC.region ?_
                refine Lt.ofWL.step rfl rfl rfl (OpV.assign rfl) ?_
                refine WL.nil ?_
                refine En.next ?_
                refine WC.seq ?_
                obtain ⟨x28_2, e28_2, h⟩ := bnd h
                refine WC.region ?_
                refine Lt.ofWL.step rfl rfl rfl (OpV.loadAll rfl (.tail _ (.tail _ (.tail _ (.tail _ (.tail _ (.tail _ (.head _))))))) ag_36) ?_
                refine Lt.ofWL.step rfl rfl rfl (OpV.move rfl) ?_
                refine Lt.ofWL.step rfl rfl rfl (OpV.call (evs.cons rfl (evs.cons rfl (evs.nil))) ca_47 (fun w hs => w_laws_heldImage e28_2 (Ow.rd (hs.mem (.tail _ (.tail _ (.tail _ (.head _)))))))) ?_
                refine Lt.ofWL.step rfl rfl rfl (OpV.assign rfl) ?_
                refine WL.nil ?_
                refine En.next ?_
                refine WC.seq ?_
                refine WC.seq ?_
                refine WC.region ?_
                refine Lt.ofWL.step rfl rfl rfl (OpV.move rfl) ?_
                refine Lt.ofWL.step rfl rfl rfl (OpV.lss rfl rfl) ?_
                refine WL.nil ?_
                refine En.next ?_
                refine WC.cond rfl ?_ ?_
                ·
                  intro hc_8
                  replace h := ifO_t hc_8 h
                  refine WC.seq ?_
                  refine WC.region ?_
                  refine Lt.ofWL.step rfl rfl rfl (OpV.assign rfl) ?_
                  refine WL.nil ?_
                  refine En.next ?_
                  refine WC.ret ?_
                  refine En.then_ret ?_
                  refine En.ret1 rfl (Res.tmp rfl) ?_
                  obtain rfl := Option.some.inj h
                  intro w' hs
                  exact ⟨rfl, hs.below⟩
                ·
                  intro hc_8
                  replace h := ifO_f hc_8 h
                  refine WC.skip ?_
                  refine En.next ?_
                  refine WC.seq ?_
                  refine WC.seq ?_
                  refine WC.region ?_
                  refine Lt.ofWL.step rfl rfl rfl (OpV.move rfl) ?_
                  refine Lt.ofWL.step rfl rfl rfl (OpV.move rfl) ?_
                  refine Lt.ofWL.step rfl rfl rfl (OpV.neq rfl rfl) ?_
                  refine WL.nil ?_
                  refine En.next ?_
                  refine WC.cond rfl ?_ ?_
                  ·
                    intro hc_9
                    replace h := ifO_t hc_9 h
                    refine WC.seq ?_
                    refine WC.region ?_
                    refine Lt.ofWL.step rfl rfl rfl (OpV.assign rfl) ?_
                    refine WL.nil ?_
                    refine En.next ?_
                    refine WC.ret ?_
                    refine En.then_ret ?_
                    refine En.ret1 rfl (Res.tmp rfl) ?_
                    obtain rfl := Option.some.inj h
                    intro w' hs
                    exact ⟨rfl, hs.below⟩
                  ·
                    intro hc_9
                    replace h := ifO_f hc_9 h
                    refine WC.skip ?_
                    refine En.next ?_
                    refine WC.seq ?_
                    refine WC.region ?_
                    refine Lt.ofWL.step rfl rfl rfl (OpV.assign rfl) ?_
                    refine WL.nil ?_
                    refine En.next ?_
                    refine WC.ret ?_
                    refine En.ret1 rfl (Res.tmp rfl) ?_
                    obtain rfl := Option.some.inj h
                    intro w' hs
                    exact ⟨rfl, hs.below⟩

end Go.Proofs.Ytkojfdgljmhmlaa
