/- Walks: the program computes the pure functions. -/
import Derived.Test.YtdbnoiiacpmbpaaGreatW3
namespace Go.Proofs.YtdbnoiiacpmbpaaGreat
open Go.RowKit K
set_option maxRecDepth 100000
set_option maxHeartbeats 4000000

theorem w_impl_scanned {a_p0 : List PlaneT} {r : ImageT} {q0_0 : Option Addr} {n0_0 k0_0 : Nat} (h : impl_scanned a_p0 = some r) {w : World} (r0_0 : Rd tPlane w q0_0 n0_0 k0_0 a_p0)   :
    Calls Tryz.prog 61 #[.slice q0_0 n0_0 k0_0] w (fun en w' => ∃ rv G, en = .returned rv ∧ (∃ (a0_0 : Option Addr) (n0_0 : Nat) (c0_0 : Nat) (f0_0 : List Nat), rv = .agg #[.int .i64 r.W, .int .i64 r.H, .slice a0_0 n0_0 c0_0] ∧ G = [Chunk.own tInt f0_0 a0_0 n0_0 c0_0 r.Data]) ∧ St w G w') := by
  obtain rfl := r0_0.1
  unfold impl_scanned at h
  refine enter (vs := [_]) Tryz.func61 rfl rfl rfl rfl ?_
  refine WC.seq ?_
  refine WC.region ?_
  refine WL.heavy rfl rfl rfl (OpH.alloc zc_96 ?_)
  intro b0_0
  refine WL.nil ?_
  refine En.next ?_
  refine WC.seq ?_
  obtain ⟨x1_1, e1_1, h⟩ := bnd h
  obtain ⟨g1_1, o1_1, _, ha1_1, ⟨a1_1_1, c1_1_1, rfl, r1_1_1⟩, hd1_1⟩ := Rd.atIdx r0_0 e1_1
  replace hd1_1 : ∀ (j : Nat) v, ([.bool x1_1.On, .int .i64 x1_1.X, .int .i64 x1_1.Y, .int .i64 x1_1.W, .int .i64 x1_1.H, .int .i64 x1_1.Layout, .slice a1_1_1 x1_1.Words.length c1_1_1, .int .i64 x1_1.Alpha, .int .i64 x1_1.Orient, .int .i64 x1_1.ToW, .int .i64 x1_1.ToH] : List Value)[j]? = some v → w.cell? ⟨g1_1, o1_1 + (Int.toNat 0) * 11 + j, .none⟩ = some v := hd1_1
  obtain ⟨⟨x1_3a, x1_3b⟩, e1_3, h⟩ := bnd h
  refine WC.region ?_
  refine Lt.ofWL.step rfl rfl rfl (OpV.move rfl) ?_
  refine Lt.ofWL.step rfl rfl rfl (OpV.idxA rfl rfl se_29 ha1_1 ⟨(idx_some e1_1).1, (idx_some e1_1).2.1⟩) ?_
  refine Lt.ofWL.step rfl rfl rfl (OpV.loadN rfl ag_82 rfl (fun w hs => hs.cellsAt hd1_1)) ?_
  refine WL.heavy rfl rfl rfl (OpH.callR (evs.cons rfl (evs.nil)) ca_108 (fun w hs => w_impl_PlaneImage e1_3 (r1_1_1.ext hs.below)) ?_)
  rintro _ _ ⟨a1_300, n1_300, c1_300, f1_300, rfl, rfl⟩
  refine Lt.ofWL.step rfl rfl rfl (OpV.move rfl) ?_
  refine Lt.ofWL.step rfl rfl rfl (OpV.extract rfl rfl) ?_
  refine Lt.ofWL.step rfl rfl rfl (OpV.extract rfl rfl) ?_
  refine WL.heavy rfl rfl rfl (OpH.alloc zc_96 ?_)
  intro b1_7
  refine WL.heavy0 rfl rfl (OpH.storeTo (A := []) [_, _, _] rfl rfl rfl ts_96 rfl rfl rfl ?_)
  refine Lt.ofWL.step rfl rfl rfl (OpV.assign rfl) ?_
  refine WL.nil ?_
  refine En.next ?_
  refine WC.seq ?_
  refine WC.seq ?_
  obtain ⟨x2_1, e2_1, h⟩ := bnd h
  refine WC.region ?_
  refine Lt.ofWL.step rfl rfl rfl (OpV.move rfl) ?_
  refine Lt.ofWL.step rfl rfl rfl (OpV.subL rfl rfl rfl se_29 e2_1) ?_
  refine Lt.ofWL.step rfl rfl rfl (OpV.len rfl si_29 rfl) ?_
  refine Lt.ofWL.step rfl rfl rfl (OpV.move rfl) ?_
  refine WL.nil ?_
  refine En.next ?_
  refine WC.block ?_
  obtain ⟨zy0, ezy0, h⟩ := bnd h
  refine WC.cut (X := ((List Int)) × ((List Nat))) (.exit 0) (fun x => zy0 = x.1) (fun x => match x with | (x_0e, fx_0e) => [(2, .pointer (some ⟨b0_0, 0, .none⟩)), (3, .pointer (some ⟨b1_7, 0, .none⟩))]) (fun x => match x with | (x_0e, fx_0e) => [Chunk.box b0_0 96 [.int .i64 0, .int .i64 0, .slice .none 0 0], Chunk.box b1_7 96 [.int .i64 x1_3a.W, .int .i64 x1_3a.H, .slice a1_300 n1_300 c1_300], Chunk.own tInt fx_0e a1_300 n1_300 c1_300 x_0e]) ?_ ?_
  ·
    rintro ⟨x_0e, fx_0e⟩ hx
    replace hx : x_0e = zy0 := hx.symm
    subst hx
    show En _ _ _ _ [(2, .pointer (some ⟨b0_0, 0, .none⟩)), (3, .pointer (some ⟨b1_7, 0, .none⟩))] [Chunk.box b0_0 96 [.int .i64 0, .int .i64 0, .slice .none 0 0], Chunk.box b1_7 96 [.int .i64 x1_3a.W, .int .i64 x1_3a.H, .slice a1_300 n1_300 c1_300], Chunk.own tInt fx_0e a1_300 n1_300 c1_300 x_0e]
    refine En.block_exit ?_
    refine En.next ?_
    refine WC.seq ?_
    refine WC.region ?_
    refine Lt.ofWL.step rfl rfl rfl (OpV.loadAll rfl (.tail _ (.head _)) ag_96) ?_
    refine WL.heavy0 rfl rfl (OpH.storeTo (A := []) [_, _, _] rfl rfl rfl ts_96 rfl rfl rfl ?_)
    refine WL.nil ?_
    refine En.next ?_
    refine WC.ret ?_
    refine En.ret1 rfl (Res.cell rfl (.head _) ag_96) ?_
    obtain rfl := Option.some.inj h
    intro w' hs
    have hs := ((hs).perm (List.perm_middle (l₁ := [_, _]))).sub (.cons_cons _ (.cons _ (.cons _ (.slnil))))
    exact ⟨_, _, rfl, ⟨a1_300, n1_300, c1_300, fx_0e, rfl, rfl⟩, hs⟩
  ·
    intro zK0_0
    refine WC.loopP (G := (List Nat)) (fun s g => match s, g with | (x_0, v_0), fx_0 => [(2, .pointer (some ⟨b0_0, 0, .none⟩)), (3, .pointer (some ⟨b1_7, 0, .none⟩)), (21, .slice (subA q0_0 k0_0 (Int.toNat 1) 11) x2_1.length (k0_0 - (Int.toNat 1))), (22, .int .i64 (x2_1.length : Int)), (23, .int .i64 v_0)]) (fun s g => match s, g with | (x_0, v_0), fx_0 => [Chunk.box b0_0 96 [.int .i64 0, .int .i64 0, .slice .none 0 0], Chunk.box b1_7 96 [.int .i64 x1_3a.W, .int .i64 x1_3a.H, .slice a1_300 n1_300 c1_300], Chunk.own tInt fx_0 a1_300 n1_300 c1_300 x_0]) (x1_3a.Data, 0) f1_300 ezy0 (by exact Sub.cons rfl (Sub.cons rfl (Sub.cons rfl (Sub.cons rfl (Sub.cons rfl (Sub.nil _)))))) (by exact (fun _ h => (((h).perm (List.perm_middle (l₁ := [_]))).perm (List.perm_middle (l₁ := [_]))).perm (List.perm_middle (l₁ := [_, _])))) ?_
    rintro zm0 ⟨x_0, v_0⟩ fx_0 zo0 zf0 zb0 ze0
    have zh0 : impl_scanned_L0 x1_3a x2_1 x_0 v_0 = some zo0 := zf0
    unfold impl_scanned_L0 at zh0
    show WC _ _ _ _ _ [(2, .pointer (some ⟨b0_0, 0, .none⟩)), (3, .pointer (some ⟨b1_7, 0, .none⟩)), (21, .slice (subA q0_0 k0_0 (Int.toNat 1) 11) x2_1.length (k0_0 - (Int.toNat 1))), (22, .int .i64 (x2_1.length : Int)), (23, .int .i64 v_0)] [Chunk.box b0_0 96 [.int .i64 0, .int .i64 0, .slice .none 0 0], Chunk.box b1_7 96 [.int .i64 x1_3a.W, .int .i64 x1_3a.H, .slice a1_300 n1_300 c1_300], Chunk.own tInt fx_0 a1_300 n1_300 c1_300 x_0]
    refine WC.seq ?_
    refine WC.region ?_
    refine Lt.ofWL.step rfl rfl rfl (OpV.lss rfl rfl) ?_
    refine WL.nil ?_
    refine En.next ?_
    refine WC.seq ?_
    refine WC.cond rfl ?_ ?_
    ·
      intro hc_1
      replace zh0 := ifO_t hc_1 zh0
      refine WC.skip ?_
      refine En.next ?_
      refine WC.seq ?_
      obtain ⟨zy1, ej1, zh0⟩ := bnd zh0
      refine WC.cut (X := ((List Int)) × ((List Nat))) .normal (fun x => zy1 = x.1) (fun x => match x with | (x_1j, fx_1j) => [(2, .pointer (some ⟨b0_0, 0, .none⟩)), (3, .pointer (some ⟨b1_7, 0, .none⟩)), (21, .slice (subA q0_0 k0_0 (Int.toNat 1) 11) x2_1.length (k0_0 - (Int.toNat 1))), (22, .int .i64 (x2_1.length : Int)), (23, .int .i64 v_0)]) (fun x => match x with | (x_1j, fx_1j) => [Chunk.box b0_0 96 [.int .i64 0, .int .i64 0, .slice .none 0 0], Chunk.box b1_7 96 [.int .i64 x1_3a.W, .int .i64 x1_3a.H, .slice a1_300 n1_300 c1_300], Chunk.own tInt fx_1j a1_300 n1_300 c1_300 x_1j]) ?_ ?_
      ·
        rintro ⟨x_1j, fx_1j⟩ hx
        replace hx : x_1j = zy1 := hx.symm
        subst hx
        show En _ _ _ _ [(2, .pointer (some ⟨b0_0, 0, .none⟩)), (3, .pointer (some ⟨b1_7, 0, .none⟩)), (21, .slice (subA q0_0 k0_0 (Int.toNat 1) 11) x2_1.length (k0_0 - (Int.toNat 1))), (22, .int .i64 (x2_1.length : Int)), (23, .int .i64 v_0)] [Chunk.box b0_0 96 [.int .i64 0, .int .i64 0, .slice .none 0 0], Chunk.box b1_7 96 [.int .i64 x1_3a.W, .int .i64 x1_3a.H, .slice a1_300 n1_300 c1_300], Chunk.own tInt fx_1j a1_300 n1_300 c1_300 x_1j]
        refine En.next ?_
        refine WC.region ?_
        refine Lt.ofWL.step rfl rfl rfl (OpV.addR rfl rfl) ?_
        refine Lt.ofWL.step rfl rfl rfl (OpV.move rfl) ?_
        refine WL.nil ?_
        exact En.backP zb0 zh0 fx_1j (Sub.cons rfl (Sub.cons rfl (Sub.cons rfl (Sub.cons rfl (Sub.cons rfl (Sub.nil _)))))) (fun _ h => h)
      ·
        intro zK1
        refine WC.block ?_
        refine WC.seq ?_
        obtain ⟨x4_0, e4_0, ej1⟩ := bnd ej1
        obtain ⟨g4_0, o4_0, _, ha4_0, ⟨a4_0_1, c4_0_1, rfl, r4_0_1⟩, hd4_0⟩ := Rd.atIdx (Rd.sub r0_0 e2_1) e4_0
        replace hd4_0 : ∀ (j : Nat) v, ([.bool x4_0.On, .int .i64 x4_0.X, .int .i64 x4_0.Y, .int .i64 x4_0.W, .int .i64 x4_0.H, .int .i64 x4_0.Layout, .slice a4_0_1 x4_0.Words.length c4_0_1, .int .i64 x4_0.Alpha, .int .i64 x4_0.Orient, .int .i64 x4_0.ToW, .int .i64 x4_0.ToH] : List Value)[j]? = some v → w.cell? ⟨g4_0, o4_0 + v_0.toNat * 11 + j, .none⟩ = some v := hd4_0
        refine WC.region ?_
        refine Lt.ofWL.step rfl rfl rfl (OpV.idxA rfl rfl se_29 ha4_0 ⟨(idx_some e4_0).1, (idx_some e4_0).2.1⟩) ?_
        refine Lt.ofWL.step rfl rfl rfl (OpV.loadN rfl ag_82 rfl (fun w hs => hs.cellsAt hd4_0)) ?_
        refine WL.heavy rfl rfl rfl (OpH.alloc zc_82 ?_)
        intro b4_2
        refine WL.heavy0 rfl rfl (OpH.storeTo (A := []) [_, _, _, _, _, _, _, _, _, _, _] rfl rfl rfl ts_82 rfl rfl rfl ?_)
        refine WL.nil ?_
        refine En.next ?_
        refine WC.seq ?_
        obtain ⟨⟨x5_1a, x5_1b⟩, e5_1, ej1⟩ := bnd ej1
        refine WC.region ?_
        refine Lt.ofWL.step rfl rfl rfl (OpV.loadAll rfl (.head _) ag_82) ?_
        refine WL.heavy rfl rfl rfl (OpH.callR (evs.cons rfl (evs.nil)) ca_108 (fun w hs => w_impl_PlaneImage e5_1 (r4_0_1.ext hs.below)) ?_)
        rintro _ _ ⟨a5_100, n5_100, c5_100, f5_100, rfl, rfl⟩
        refine Lt.ofWL.step rfl rfl rfl (OpV.move rfl) ?_
        refine Lt.ofWL.step rfl rfl rfl (OpV.extract rfl rfl) ?_
        refine Lt.ofWL.step rfl rfl rfl (OpV.extract rfl rfl) ?_
        refine WL.heavy rfl rfl rfl (OpH.alloc zc_96 ?_)
        intro b5_5
        refine WL.heavy0 rfl rfl (OpH.storeTo (A := []) [_, _, _] rfl rfl rfl ts_96 rfl rfl rfl ?_)
        refine Lt.ofWL.step rfl rfl rfl (OpV.assign rfl) ?_
        refine WL.nil ?_
        refine En.next ?_
        refine WC.seq ?_
        refine WC.seq ?_
        refine WC.region ?_
        refine Lt.ofWL.step rfl rfl rfl (OpV.move rfl) ?_
        refine Lt.ofWL.step rfl rfl rfl (OpV.not rfl) ?_
        refine WL.nil ?_
        refine En.next ?_
        refine WC.cond rfl ?_ ?_
        ·
          intro hc_2
          replace ej1 := ifO_t hc_2 ej1
          refine WC.exit ?_
          refine En.then_exit ?_
          refine En.block_exit ?_
          exact En.wk _ _ (Sub.cons rfl (Sub.cons rfl (Sub.cons rfl (Sub.cons rfl (Sub.cons rfl (Sub.nil _)))))) (fun _ h => ((((h).perm (List.perm_middle (l₁ := [_, _, _, _, _]))).perm (List.perm_middle (l₁ := [_, _, _, _, _]))).perm (List.perm_middle (l₁ := [_, _, _, _, _]))).sub (.cons_cons _ (.cons_cons _ (.cons_cons _ (.cons _ (.cons _ (.cons _ (.slnil)))))))) (zK1 (x_0, fx_0) (Option.some.inj ej1).symm)
        ·
          intro hc_2
          replace ej1 := ifO_f hc_2 ej1
          refine WC.skip ?_
          refine En.next ?_
          refine WC.seq ?_
          refine WC.region ?_
          refine Lt.ofWL.step rfl rfl rfl (OpV.fieldAddr rfl fo_96_2) ?_
          refine Lt.ofWL.step rfl rfl rfl (OpV.loadBox rfl pt_23 (.head _) rfl) ?_
          refine Lt.ofWL.step rfl rfl rfl (OpV.inhF fun hin => OpV.lenO (xs := x5_1a.Data) rfl si_23 rfl (ownLen hin (.tail _ (.head _)))) ?_
          refine Lt.ofWL.step rfl rfl rfl (OpV.move rfl) ?_
          refine WL.nil ?_
          refine En.next ?_
          refine WC.block ?_
          obtain ⟨zy2, ezy2, ej1⟩ := bnd ej1
          refine WC.cut (X := ((List Int)) × ((List Nat))) (.exit 2) (fun x => zy2 = x.1) (fun x => match x with | (x_2e, fx_2e) => [(2, .pointer (some ⟨b0_0, 0, .none⟩)), (3, .pointer (some ⟨b1_7, 0, .none⟩)), (21, .slice (subA q0_0 k0_0 (Int.toNat 1) 11) x2_1.length (k0_0 - (Int.toNat 1))), (22, .int .i64 (x2_1.length : Int)), (23, .int .i64 v_0)]) (fun x => match x with | (x_2e, fx_2e) => [Chunk.box b0_0 96 [.int .i64 0, .int .i64 0, .slice .none 0 0], Chunk.box b1_7 96 [.int .i64 x1_3a.W, .int .i64 x1_3a.H, .slice a1_300 n1_300 c1_300], Chunk.own tInt fx_2e a1_300 n1_300 c1_300 x_2e]) ?_ ?_
          ·
            rintro ⟨x_2e, fx_2e⟩ hx
            replace hx : x_2e = zy2 := hx.symm
            subst hx
            show En _ _ _ _ [(2, .pointer (some ⟨b0_0, 0, .none⟩)), (3, .pointer (some ⟨b1_7, 0, .none⟩)), (21, .slice (subA q0_0 k0_0 (Int.toNat 1) 11) x2_1.length (k0_0 - (Int.toNat 1))), (22, .int .i64 (x2_1.length : Int)), (23, .int .i64 v_0)] [Chunk.box b0_0 96 [.int .i64 0, .int .i64 0, .slice .none 0 0], Chunk.box b1_7 96 [.int .i64 x1_3a.W, .int .i64 x1_3a.H, .slice a1_300 n1_300 c1_300], Chunk.own tInt fx_2e a1_300 n1_300 c1_300 x_2e]
            refine En.block_exit ?_
            refine En.block_norm ?_
            exact En.wk _ _ (Sub.cons rfl (Sub.cons rfl (Sub.cons rfl (Sub.cons rfl (Sub.cons rfl (Sub.nil _)))))) (fun _ h => h) (zK1 (x_2e, fx_2e) (Option.some.inj ej1).symm)
          ·
            intro zK2_0
            refine WC.loopP (G := (List Nat)) (fun s g => match s, g with | (x_2, v_2), fx_2 => [(2, .pointer (some ⟨b0_0, 0, .none⟩)), (3, .pointer (some ⟨b1_7, 0, .none⟩)), (6, .pointer (some ⟨b4_2, 0, .none⟩)), (7, .pointer (some ⟨b5_5, 0, .none⟩)), (21, .slice (subA q0_0 k0_0 (Int.toNat 1) 11) x2_1.length (k0_0 - (Int.toNat 1))), (22, .int .i64 (x2_1.length : Int)), (23, .int .i64 v_0), (35, .slice a5_100 n5_100 c5_100), (36, .int .i64 (x5_1a.Data.length : Int)), (37, .int .i64 v_2)]) (fun s g => match s, g with | (x_2, v_2), fx_2 => [Chunk.box b0_0 96 [.int .i64 0, .int .i64 0, .slice .none 0 0], Chunk.box b1_7 96 [.int .i64 x1_3a.W, .int .i64 x1_3a.H, .slice a1_300 n1_300 c1_300], Chunk.own tInt fx_2 a1_300 n1_300 c1_300 x_2, Chunk.box b4_2 82 [.bool x4_0.On, .int .i64 x4_0.X, .int .i64 x4_0.Y, .int .i64 x4_0.W, .int .i64 x4_0.H, .int .i64 x4_0.Layout, .slice a4_0_1 x4_0.Words.length c4_0_1, .int .i64 x4_0.Alpha, .int .i64 x4_0.Orient, .int .i64 x4_0.ToW, .int .i64 x4_0.ToH], Chunk.box b5_5 96 [.int .i64 x5_1a.W, .int .i64 x5_1a.H, .slice a5_100 n5_100 c5_100], Chunk.own tInt f5_100 a5_100 n5_100 c5_100 x5_1a.Data]) (x_0, 0) fx_0 ezy2 (by exact Sub.cons rfl (Sub.cons rfl (Sub.cons rfl (Sub.cons rfl (Sub.cons rfl (Sub.cons rfl (Sub.cons rfl (Sub.cons rfl (Sub.cons rfl (Sub.cons rfl (Sub.nil _))))))))))) (by exact (fun _ h => ((((((h).perm (List.perm_middle (l₁ := [_]))).perm (List.perm_middle (l₁ := [_]))).perm (List.perm_middle (l₁ := [_, _]))).perm (List.perm_middle (l₁ := [_, _, _, _, _]))).perm (List.perm_middle (l₁ := [_, _, _, _, _]))).perm (List.perm_middle (l₁ := [_, _, _, _, _])))) ?_
            rintro zm2 ⟨x_2, v_2⟩ fx_2 zo2 zf2 zb2 ze2
            have zh2 : impl_scanned_L2 x1_3a x4_0 x5_1a x_2 v_2 = some zo2 := zf2
            unfold impl_scanned_L2 at zh2
            show WC _ _ _ _ _ [(2, .pointer (some ⟨b0_0, 0, .none⟩)), (3, .pointer (some ⟨b1_7, 0, .none⟩)), (6, .pointer (some ⟨b4_2, 0, .none⟩)), (7, .pointer (some ⟨b5_5, 0, .none⟩)), (21, .slice (subA q0_0 k0_0 (Int.toNat 1) 11) x2_1.length (k0_0 - (Int.toNat 1))), (22, .int .i64 (x2_1.length : Int)), (23, .int .i64 v_0), (35, .slice a5_100 n5_100 c5_100), (36, .int .i64 (x5_1a.Data.length : Int)), (37, .int .i64 v_2)] [Chunk.box b0_0 96 [.int .i64 0, .int .i64 0, .slice .none 0 0], Chunk.box b1_7 96 [.int .i64 x1_3a.W, .int .i64 x1_3a.H, .slice a1_300 n1_300 c1_300], Chunk.own tInt fx_2 a1_300 n1_300 c1_300 x_2, Chunk.box b4_2 82 [.bool x4_0.On, .int .i64 x4_0.X, .int .i64 x4_0.Y, .int .i64 x4_0.W, .int .i64 x4_0.H, .int .i64 x4_0.Layout, .slice a4_0_1 x4_0.Words.length c4_0_1, .int .i64 x4_0.Alpha, .int .i64 x4_0.Orient, .int .i64 x4_0.ToW, .int .i64 x4_0.ToH], Chunk.box b5_5 96 [.int .i64 x5_1a.W, .int .i64 x5_1a.H, .slice a5_100 n5_100 c5_100], Chunk.own tInt f5_100 a5_100 n5_100 c5_100 x5_1a.Data]
            refine WC.seq ?_
            refine WC.region ?_
            refine Lt.ofWL.step rfl rfl rfl (OpV.lss rfl rfl) ?_
            refine WL.nil ?_
            refine En.next ?_
            refine WC.seq ?_
            refine WC.cond rfl ?_ ?_
            ·
              intro hc_3
              replace zh2 := ifO_t hc_3 zh2
              refine WC.skip ?_
              refine En.next ?_
              refine WC.seq ?_
              obtain ⟨zy3, ej3, zh2⟩ := bnd zh2
              refine WC.cut (X := ((List Int)) × ((List Nat))) .normal (fun x => zy3 = x.1) (fun x => match x with | (x_3j, fx_3j) => [(2, .pointer (some ⟨b0_0, 0, .none⟩)), (3, .pointer (some ⟨b1_7, 0, .none⟩)), (6, .pointer (some ⟨b4_2, 0, .none⟩)), (7, .pointer (some ⟨b5_5, 0, .none⟩)), (21, .slice (subA q0_0 k0_0 (Int.toNat 1) 11) x2_1.length (k0_0 - (Int.toNat 1))), (22, .int .i64 (x2_1.length : Int)), (23, .int .i64 v_0), (35, .slice a5_100 n5_100 c5_100), (36, .int .i64 (x5_1a.Data.length : Int)), (37, .int .i64 v_2)]) (fun x => match x with | (x_3j, fx_3j) => [Chunk.box b0_0 96 [.int .i64 0, .int .i64 0, .slice .none 0 0], Chunk.box b1_7 96 [.int .i64 x1_3a.W, .int .i64 x1_3a.H, .slice a1_300 n1_300 c1_300], Chunk.own tInt fx_3j a1_300 n1_300 c1_300 x_3j, Chunk.box b4_2 82 [.bool x4_0.On, .int .i64 x4_0.X, .int .i64 x4_0.Y, .int .i64 x4_0.W, .int .i64 x4_0.H, .int .i64 x4_0.Layout, .slice a4_0_1 x4_0.Words.length c4_0_1, .int .i64 x4_0.Alpha, .int .i64 x4_0.Orient, .int .i64 x4_0.ToW, .int .i64 x4_0.ToH], Chunk.box b5_5 96 [.int .i64 x5_1a.W, .int .i64 x5_1a.H, .slice a5_100 n5_100 c5_100], Chunk.own tInt f5_100 a5_100 n5_100 c5_100 x5_1a.Data]) ?_ ?_
              ·
                rintro ⟨x_3j, fx_3j⟩ hx
                replace hx : x_3j = zy3 := hx.symm
                subst hx
                show En _ _ _ _ [(2, .pointer (some ⟨b0_0, 0, .none⟩)), (3, .pointer (some ⟨b1_7, 0, .none⟩)), (6, .pointer (some ⟨b4_2, 0, .none⟩)), (7, .pointer (some ⟨b5_5, 0, .none⟩)), (21, .slice (subA q0_0 k0_0 (Int.toNat 1) 11) x2_1.length (k0_0 - (Int.toNat 1))), (22, .int .i64 (x2_1.length : Int)), (23, .int .i64 v_0), (35, .slice a5_100 n5_100 c5_100), (36, .int .i64 (x5_1a.Data.length : Int)), (37, .int .i64 v_2)] [Chunk.box b0_0 96 [.int .i64 0, .int .i64 0, .slice .none 0 0], Chunk.box b1_7 96 [.int .i64 x1_3a.W, .int .i64 x1_3a.H, .slice a1_300 n1_300 c1_300], Chunk.own tInt fx_3j a1_300 n1_300 c1_300 x_3j, Chunk.box b4_2 82 [.bool x4_0.On, .int .i64 x4_0.X, .int .i64 x4_0.Y, .int .i64 x4_0.W, .int .i64 x4_0.H, .int .i64 x4_0.Layout, .slice a4_0_1 x4_0.Words.length c4_0_1, .int .i64 x4_0.Alpha, .int .i64 x4_0.Orient, .int .i64 x4_0.ToW, .int .i64 x4_0.ToH], Chunk.box b5_5 96 [.int .i64 x5_1a.W, .int .i64 x5_1a.H, .slice a5_100 n5_100 c5_100], Chunk.own tInt f5_100 a5_100 n5_100 c5_100 x5_1a.Data]
                refine En.next ?_
                refine WC.region ?_
                refine Lt.ofWL.step rfl rfl rfl (OpV.addR rfl rfl) ?_
                refine Lt.ofWL.step rfl rfl rfl (OpV.move rfl) ?_
                refine WL.nil ?_
                exact En.backP zb2 zh2 fx_3j (Sub.cons rfl (Sub.cons rfl (Sub.cons rfl (Sub.cons rfl (Sub.cons rfl (Sub.cons rfl (Sub.cons rfl (Sub.cons rfl (Sub.cons rfl (Sub.cons rfl (Sub.nil _))))))))))) (fun _ h => h)
              ·
                intro zK3
                refine WC.block ?_
                refine WC.seq ?_
                refine WC.inh fun hin9 => ?_
                obtain ⟨x9_1, e9_1, ej3⟩ := bnd ej3
                obtain ⟨g9_1, ha9_1⟩ := ownAddr hin9 (.tail _ (.tail _ (.tail _ (.tail _ (.tail _ (.head _)))))) e9_1
                have hn9_1 := ownLen hin9 (.tail _ (.tail _ (.tail _ (.tail _ (.tail _ (.head _))))))
                refine WC.region ?_
                refine Lt.ofWL.step rfl rfl rfl (OpV.move rfl) ?_
                refine Lt.ofWL.step rfl rfl rfl (OpV.idxA rfl rfl se_23 ha9_1 ⟨(idx_some e9_1).1, by rw [hn9_1]; exact (idx_some e9_1).2.1⟩) ?_
                refine Lt.ofWL.step rfl rfl rfl (OpV.load1 rfl pt_3 (fun w hs => Rd.cell1 tInt_flat (Ow.rd (hs.mem (.tail _ (.tail _ (.tail _ (.tail _ (.tail _ (.head _)))))))) e9_1 ha9_1 rfl)) ?_
                refine Lt.ofWL.step rfl rfl rfl (OpV.assign rfl) ?_
                refine Lt.ofWL.step rfl rfl rfl (OpV.assign rfl) ?_
                refine WL.nil ?_
                refine En.next ?_
                refine WC.seq ?_
                obtain ⟨x10_5, e10_5, ej3⟩ := bnd ej3
                obtain ⟨x10_12, e10_12, ej3⟩ := bnd ej3
                refine WC.drawn [(2, ?r10v2), (3, ?r10v3), (6, ?r10v6), (7, ?r10v7), (10, ?r10v10), (11, ?r10v11), (12, ?r10v12), (21, ?r10v21), (22, ?r10v22), (23, ?r10v23), (35, ?r10v35), (36, ?r10v36), (37, ?r10v37)] (by kernel_rfl) (by kernel_rfl) ?dH10 ?dK10
                case dH10 =>
                  intro W hW hk
                  refine hW.step rfl rfl rfl (OpV.fieldAddr rfl fo_82_1) ?_
                  refine hW.step rfl rfl rfl (OpV.loadBox rfl pt_3 (.tail _ (.tail _ (.tail _ (.head _)))) rfl) ?_
                  refine hW.step rfl rfl rfl (OpV.move rfl) ?_
                  refine hW.step rfl rfl rfl (OpV.fieldAddr rfl fo_96_0) ?_
                  refine hW.step rfl rfl rfl (OpV.loadBox rfl pt_3 (.tail _ (.tail _ (.tail _ (.tail _ (.head _))))) rfl) ?_
                  refine hW.step rfl rfl rfl (OpV.remR rfl rfl e10_5) ?_
                  refine hW.step rfl rfl rfl (OpV.addR rfl rfl) ?_
                  refine hW.step rfl rfl rfl (OpV.fieldAddr rfl fo_82_2) ?_
                  refine hW.step rfl rfl rfl (OpV.loadBox rfl pt_3 (.tail _ (.tail _ (.tail _ (.head _)))) rfl) ?_
                  refine hW.step rfl rfl rfl (OpV.move rfl) ?_
                  refine hW.step rfl rfl rfl (OpV.fieldAddr rfl fo_96_0) ?_
                  refine hW.step rfl rfl rfl (OpV.loadBox rfl pt_3 (.tail _ (.tail _ (.tail _ (.tail _ (.head _))))) rfl) ?_
                  refine hW.step rfl rfl rfl (OpV.quoR rfl rfl e10_12) ?_
                  refine hW.step rfl rfl rfl (OpV.addR rfl rfl) ?_
                  refine hW.step rfl rfl rfl (OpV.assign rfl) ?_
                  refine hW.step rfl rfl rfl (OpV.assign rfl) ?_
                  refine hk _ ?_
                  refine Sub.cons ?_ (Sub.cons ?_ (Sub.cons ?_ (Sub.cons ?_ (Sub.cons ?_ (Sub.cons ?_ (Sub.cons ?_ (Sub.cons ?_ (Sub.cons ?_ (Sub.cons ?_ (Sub.cons ?_ (Sub.cons ?_ (Sub.cons ?_ (Sub.nil _)))))))))))))
                  all_goals exact rfl
                refine En.next ?_
                refine WC.seq ?_
                obtain ⟨x11_4, e11_4, ej3⟩ := bnd ej3
                obtain ⟨q11_11, e11_11, ej3⟩ := bnd ej3
                refine WC.region ?_
                refine Lt.ofWL.step rfl rfl rfl (OpV.move rfl) ?_
                refine Lt.ofWL.step rfl rfl rfl (OpV.fieldAddr rfl fo_96_0) ?_
                refine Lt.ofWL.step rfl rfl rfl (OpV.loadBox rfl pt_3 (.tail _ (.head _)) rfl) ?_
                refine Lt.ofWL.step rfl rfl rfl (OpV.subR rfl rfl) ?_
                refine Lt.ofWL.step rfl rfl rfl (OpV.call (evs.cons rfl (evs.cons rfl (evs.cons rfl (evs.nil)))) ca_59 (fun w hs => w_impl_within e11_4)) ?_
                refine Lt.ofWL.step rfl rfl rfl (OpV.move rfl) ?_
                refine Lt.ofWL.andQ 61 67 66 (p := ?pz1) (rest := ?qz1) (B := q11_11) rfl (fun hz => andO_f e11_11 hz) ?Tz1 ?Fz1 ?az1 ?bz1 ?cz1 ?dz1 ?ez1
                case Tz1 =>
                  intro hcz1 hkz1
                  have hqz1 := andO_t e11_11 hcz1
                  obtain ⟨x11_10, e11_10, hqz1⟩ := bnd hqz1
                  obtain rfl := Option.some.inj hqz1
                  refine Lt.ofWL.step rfl rfl rfl (OpV.move rfl) ?_
                  refine Lt.ofWL.step rfl rfl rfl (OpV.fieldAddr rfl fo_96_1) ?_
                  refine Lt.ofWL.step rfl rfl rfl (OpV.loadBox rfl pt_3 (.tail _ (.head _)) rfl) ?_
                  refine Lt.ofWL.step rfl rfl rfl (OpV.subR rfl rfl) ?_
                  refine Lt.ofWL.step rfl rfl rfl (OpV.call (evs.cons rfl (evs.cons rfl (evs.cons rfl (evs.nil)))) ca_59 (fun w hs => w_impl_within e11_10)) ?_
                  refine hkz1 _ ?_ ?_
                  exact rfl
                  repeat (first | exact Sub.refl _ | refine Sub.skip rfl ?_)
                case Fz1 =>
                  intro hcz1 hkz1
                  refine Lt.ofWL.skip rfl rfl rfl ?_
                  refine Lt.ofWL.skip rfl rfl rfl ?_
                  refine Lt.ofWL.skip rfl rfl rfl ?_
                  refine Lt.ofWL.skip rfl rfl rfl ?_
                  refine Lt.ofWL.skip rfl rfl rfl ?_
                  refine hkz1 _ ?_
                  repeat (first | exact Sub.refl _ | refine Sub.skip rfl ?_)
                case az1 => exact rfl
                case bz1 => exact rfl
                case cz1 => exact rfl
                case dz1 => exact rfl
                refine WL.nil ?_
                refine En.next ?_
                refine WC.cond rfl ?_ ?_
                ·
                  intro hc_4
                  replace ej3 := ifO_t hc_4 ej3
                  refine WC.inh fun hin12 => ?_
                  obtain ⟨x12_17, e12_17, ej3⟩ := bnd ej3
                  obtain ⟨g12_17, ha12_17⟩ := ownAddr hin12 (.tail _ (.tail _ (.head _))) e12_17
                  have hn12_17 := ownLen hin12 (.tail _ (.tail _ (.head _)))
                  obtain ⟨x12_19, e12_19, ej3⟩ := bnd ej3
                  have hn12_20 := ownLen hin12 (.tail _ (.tail _ (.head _)))
                  obtain ⟨x12_21, e12_21, ej3⟩ := bnd ej3
                  obtain ⟨g12_20, ha12_20⟩ := ownAddrU hin12 (.tail _ (.tail _ (.head _))) e12_21
                  refine WC.wkF (fun _ h => h.perm (List.perm_middle (l₁ := [_, _]))) ?_
                  refine WC.drawnH [_] ([_, _, _, _, _]) (fun _ h => h) (by kernel_rfl) ?_
                  refine WAE.take (i := 0) rfl (by kernel_rfl) (by kernel_rfl) (by kernel_rfl) rfl rfl rfl (OpV.fieldAddr rfl fo_96_2) ?_
                  refine WAE.take (i := 1) rfl (by kernel_rfl) (by kernel_rfl) (by kernel_rfl) rfl rfl rfl (OpV.loadBox rfl pt_23 (.tail _ (.head _)) rfl) ?_
                  refine WAE.take (i := 2) rfl (by kernel_rfl) (by kernel_rfl) (by kernel_rfl) rfl rfl rfl (OpV.move rfl) ?_
                  refine WAE.take (i := 3) rfl (by kernel_rfl) (by kernel_rfl) (by kernel_rfl) rfl rfl rfl (OpV.fieldAddr rfl fo_96_0) ?_
                  refine WAE.take (i := 4) rfl (by kernel_rfl) (by kernel_rfl) (by kernel_rfl) rfl rfl rfl (OpV.loadBox rfl pt_3 (.tail _ (.head _)) rfl) ?_
                  refine WAE.take (i := 5) rfl (by kernel_rfl) (by kernel_rfl) (by kernel_rfl) rfl rfl rfl (OpV.mulR rfl rfl) ?_
                  refine WAE.take (i := 6) rfl (by kernel_rfl) (by kernel_rfl) (by kernel_rfl) rfl rfl rfl (OpV.move rfl) ?_
                  refine WAE.take (i := 7) rfl (by kernel_rfl) (by kernel_rfl) (by kernel_rfl) rfl rfl rfl (OpV.addR rfl rfl) ?_
                  refine WAE.take (i := 8) rfl (by kernel_rfl) (by kernel_rfl) (by kernel_rfl) rfl rfl rfl (OpV.move rfl) ?_
                  refine WAE.take (i := 9) rfl (by kernel_rfl) (by kernel_rfl) (by kernel_rfl) rfl rfl rfl (OpV.fieldAddr rfl fo_96_2) ?_
                  refine WAE.take (i := 10) rfl (by kernel_rfl) (by kernel_rfl) (by kernel_rfl) rfl rfl rfl (OpV.loadBox rfl pt_23 (.tail _ (.head _)) rfl) ?_
                  refine WAE.take (i := 11) rfl (by kernel_rfl) (by kernel_rfl) (by kernel_rfl) rfl rfl rfl (OpV.move rfl) ?_
                  refine WAE.take (i := 12) rfl (by kernel_rfl) (by kernel_rfl) (by kernel_rfl) rfl rfl rfl (OpV.fieldAddr rfl fo_96_0) ?_
                  refine WAE.take (i := 13) rfl (by kernel_rfl) (by kernel_rfl) (by kernel_rfl) rfl rfl rfl (OpV.loadBox rfl pt_3 (.tail _ (.head _)) rfl) ?_
                  refine WAE.take (i := 14) rfl (by kernel_rfl) (by kernel_rfl) (by kernel_rfl) rfl rfl rfl (OpV.mulR rfl rfl) ?_
                  refine WAE.take (i := 15) rfl (by kernel_rfl) (by kernel_rfl) (by kernel_rfl) rfl rfl rfl (OpV.move rfl) ?_
                  refine WAE.take (i := 16) rfl (by kernel_rfl) (by kernel_rfl) (by kernel_rfl) rfl rfl rfl (OpV.addR rfl rfl) ?_
                  refine WAE.take (i := 17) rfl (by kernel_rfl) (by kernel_rfl) (by kernel_rfl) rfl rfl rfl (OpV.idxA rfl rfl se_23 ha12_17 ⟨(idx_some e12_17).1, by rw [hn12_17]; exact (idx_some e12_17).2.1⟩) ?_
                  refine WAE.all (rs := [18]) (by kernel_rfl) rfl (AllR.cons rfl rfl rfl rfl ?_ AllR.nil)
                  refine OpH.light (OpV.load1 rfl pt_3 (fun w hs => Rd.cell1 tInt_flat (Ow.rd (hs.mem (.head _))) e12_17 ha12_17 rfl)) ?_
                  refine ⟨[_], rfl, ?_⟩
                  refine WAE.take (i := 19) rfl (by kernel_rfl) (by kernel_rfl) (by kernel_rfl) rfl rfl rfl (OpV.call (evs.cons rfl (evs.cons rfl (evs.nil))) ca_109 (fun w hs => w_impl_Over e12_19)) ?_
                  refine WAE.take (i := 20) rfl (by kernel_rfl) (by kernel_rfl) (by kernel_rfl) rfl rfl rfl (OpV.idxA rfl rfl se_23 ha12_20 ⟨(upd_some e12_21).1.1, by rw [hn12_20]; exact (upd_some e12_21).1.2⟩) ?_
                  refine WAE.all (rs := [21]) (by kernel_rfl) rfl (AllR.cons0 rfl rfl rfl ?_ AllR.nil)
                  refine OpH.wkF (fun _ h => St.elFlat tInt_flat x12_19 h) ?_
                  refine OpH.setEl (A := tInt) ha12_20 rfl rfl rfl ts_3 e12_21 ?_
                  intro f12_21
                  refine ⟨[_], rfl, ?_⟩
                  refine WAE.rebase (H := []) ?_
                  refine WAE.done (by kernel_rfl) ?_ _
                  refine En.block_norm ?_
                  exact En.wk _ _ (Sub.cons rfl (Sub.cons rfl (Sub.cons rfl (Sub.cons rfl (Sub.cons rfl (Sub.cons rfl (Sub.cons rfl (Sub.cons rfl (Sub.cons rfl (Sub.cons rfl (Sub.nil _))))))))))) (fun _ h => ((((((h).perm (List.perm_middle (l₁ := [_, _, _, _, _]))).perm (List.perm_middle (l₁ := [_, _, _, _, _]))).perm (List.perm_middle (l₁ := [_, _, _, _, _]))).perm (List.perm_middle (l₁ := [_, _, _]))).perm (List.perm_middle (l₁ := [_, _, _, _, _]))).perm (List.perm_middle (l₁ := [_, _, _, _, _]))) (zK3 (x12_21, f12_21) (Option.some.inj ej3).symm)
                ·
                  intro hc_4
                  replace ej3 := ifO_f hc_4 ej3
                  refine WC.skip ?_
                  refine En.block_norm ?_
                  exact En.wk _ _ (Sub.cons rfl (Sub.cons rfl (Sub.cons rfl (Sub.cons rfl (Sub.cons rfl (Sub.cons rfl (Sub.cons rfl (Sub.cons rfl (Sub.cons rfl (Sub.cons rfl (Sub.nil _))))))))))) (fun _ h => h) (zK3 (x_2, fx_2) (Option.some.inj ej3).symm)
            ·
              intro hc_3
              replace zh2 := ifO_f hc_3 zh2
              refine WC.exit ?_
              refine En.then_exit ?_
              refine En.then_exit ?_
              have hx := exitP ze2 zh2
              exact En.wk _ _ (Sub.cons rfl (Sub.cons rfl (Sub.cons rfl (Sub.cons rfl (Sub.cons rfl (Sub.nil _)))))) (fun _ h => (h).sub (.cons_cons _ (.cons_cons _ (.cons_cons _ (.cons _ (.cons _ (.cons _ (.slnil)))))))) (zK2_0 (x_2, fx_2) hx.symm)
    ·
      intro hc_1
      replace zh0 := ifO_f hc_1 zh0
      refine WC.exit ?_
      refine En.then_exit ?_
      refine En.then_exit ?_
      have hx := exitP ze0 zh0
      exact En.wk _ _ (Sub.cons rfl (Sub.cons rfl (Sub.nil _))) (fun _ h => h) (zK0_0 (x_0, fx_0) hx.symm)

theorem w_impl_floorDiv {a_p0 : Int} {b_p1 : Int} {r : Int}  (h : impl_floorDiv a_p0 b_p1 = some r) {w : World}    :
    Calls Tryz.prog 173 #[.int .i64 a_p0, .int .i64 b_p1] w (fun en w' => en = .returned (.int .i64 r) ∧ Ext w w') := by
  unfold impl_floorDiv at h
  refine enter (vs := [_, _]) Tryz.func173 rfl rfl rfl rfl ?_
  refine WC.seq ?_
  refine WC.region ?_
  refine Lt.ofWL.step rfl rfl rfl (OpV.assign rfl) ?_
  refine WL.nil ?_
  refine En.next ?_
  refine WC.seq ?_
  obtain ⟨x1_2, e1_2, h⟩ := bnd h
  refine WC.region ?_
  refine Lt.ofWL.step rfl rfl rfl (OpV.move rfl) ?_
  refine Lt.ofWL.step rfl rfl rfl (OpV.move rfl) ?_
  refine Lt.ofWL.step rfl rfl rfl (OpV.quoR rfl rfl e1_2) ?_
  refine Lt.ofWL.step rfl rfl rfl (OpV.assign rfl) ?_
  refine WL.nil ?_
  refine En.next ?_
  refine WC.seq ?_
  refine WC.seq ?_
  obtain ⟨x2_2, e2_2, h⟩ := bnd h
  refine WC.region ?_
  refine Lt.ofWL.step rfl rfl rfl (OpV.move rfl) ?_
  refine Lt.ofWL.step rfl rfl rfl (OpV.move rfl) ?_
  refine Lt.ofWL.step rfl rfl rfl (OpV.remR rfl rfl e2_2) ?_
  refine Lt.ofWL.step rfl rfl rfl (OpV.lss rfl rfl) ?_
  refine WL.nil ?_
  refine En.next ?_
  refine WC.cond rfl ?_ ?_
  ·
    intro hc_1
    replace h := ifO_t hc_1 h
    refine WC.region ?_
    refine Lt.ofWL.step rfl rfl rfl (OpV.move rfl) ?_
    refine Lt.ofWL.step rfl rfl rfl (OpV.subR rfl rfl) ?_
    refine Lt.ofWL.step rfl rfl rfl (OpV.assign rfl) ?_
    refine WL.nil ?_
    refine En.next ?_
    refine WC.seq ?_
    refine WC.region ?_
    refine Lt.ofWL.step rfl rfl rfl (OpV.move rfl) ?_
    refine Lt.ofWL.step rfl rfl rfl (OpV.assign rfl) ?_
    refine WL.nil ?_
    refine En.next ?_
    refine WC.ret ?_
    refine En.ret1 rfl (Res.tmp rfl) ?_
    obtain rfl := Option.some.inj h
    intro w' hs
    exact ⟨rfl, hs.below⟩
  ·
    intro hc_1
    replace h := ifO_f hc_1 h
    refine WC.skip ?_
    refine En.next ?_
    refine WC.seq ?_
    refine WC.region ?_
    refine Lt.ofWL.step rfl rfl rfl (OpV.move rfl) ?_
    refine Lt.ofWL.step rfl rfl rfl (OpV.assign rfl) ?_
    refine WL.nil ?_
    refine En.next ?_
    refine WC.ret ?_
    refine En.ret1 rfl (Res.tmp rfl) ?_
    obtain rfl := Option.some.inj h
    intro w' hs
    exact ⟨rfl, hs.below⟩

theorem w_impl_Clamp {n_p0 : Int} {low_p1 : Int} {high_p2 : Int} {r : Int}  (h : impl_Clamp n_p0 low_p1 high_p2 = some r) {w : World}    :
    Calls Tryz.prog 174 #[.int .i64 n_p0, .int .i64 low_p1, .int .i64 high_p2] w (fun en w' => en = .returned (.int .i64 r) ∧ Ext w w') := by
  unfold impl_Clamp at h
  refine enter (vs := [_, _, _]) Tryz.func174 rfl rfl rfl rfl ?_
  refine WC.seq ?_
  refine WC.region ?_
  refine Lt.ofWL.step rfl rfl rfl (OpV.assign rfl) ?_
  refine WL.nil ?_
  refine En.next ?_
  refine WC.seq ?_
  refine WC.seq ?_
  refine WC.region ?_
  refine Lt.ofWL.step rfl rfl rfl (OpV.move rfl) ?_
  refine Lt.ofWL.step rfl rfl rfl (OpV.move rfl) ?_
  refine Lt.ofWL.step rfl rfl rfl (OpV.lss rfl rfl) ?_
  refine WL.nil ?_
  refine En.next ?_
  refine WC.cond rfl ?_ ?_
  ·
    intro hc_1
    replace h := ifO_t hc_1 h
    refine WC.seq ?_
    refine WC.region ?_
    refine Lt.ofWL.step rfl rfl rfl (OpV.move rfl) ?_
    refine Lt.ofWL.step rfl rfl rfl (OpV.assign rfl) ?_
    refine WL.nil ?_
    refine En.next ?_
    refine WC.ret ?_
    refine En.then_ret ?_
    refine En.ret1 rfl (Res.tmp rfl) ?_
    obtain rfl := Option.some.inj h
    intro w' hs
    exact ⟨rfl, hs.below⟩
  ·
    intro hc_1
    replace h := ifO_f hc_1 h
    refine WC.skip ?_
    refine En.next ?_
    refine WC.seq ?_
    refine WC.region ?_
    refine Lt.ofWL.step rfl rfl rfl (OpV.move rfl) ?_
    refine Lt.ofWL.step rfl rfl rfl (OpV.move rfl) ?_
    refine Lt.ofWL.step rfl rfl rfl (OpV.move rfl) ?_
    refine Lt.ofWL.step rfl rfl rfl (OpV.min2 rfl rfl) ?_
    refine Lt.ofWL.step rfl rfl rfl (OpV.max2 rfl rfl) ?_
    refine Lt.ofWL.step rfl rfl rfl (OpV.assign rfl) ?_
    refine WL.nil ?_
    refine En.next ?_
    refine WC.ret ?_
    refine En.ret1 rfl (Res.tmp rfl) ?_
    obtain rfl := Option.some.inj h
    intro w' hs
    exact ⟨rfl, hs.below⟩

theorem w_impl_mixRow {m_p0 : ColorMapT} {row_p1 : Int} {r_p2 : Int} {g_p3 : Int} {b_p4 : Int} {r : Int} {q0_0 : Option Addr} {n0_0 k0_0 : Nat} {q0_1 : Option Addr} {n0_1 k0_1 : Nat} (h : impl_mixRow m_p0 row_p1 r_p2 g_p3 b_p4 = some r) {w : World} (r0_0 : Rd tInt w q0_0 n0_0 k0_0 m_p0.Matrix) (r0_1 : Rd tInt w q0_1 n0_1 k0_1 m_p0.Curve)   :
    Calls Tryz.prog 145 #[.agg #[.slice q0_0 n0_0 k0_0, .slice q0_1 n0_1 k0_1], .int .i64 row_p1, .int .i64 r_p2, .int .i64 g_p3, .int .i64 b_p4] w (fun en w' => en = .returned (.int .i64 r) ∧ Ext w w') := by
  obtain rfl := r0_0.1
  obtain rfl := r0_1.1
  unfold impl_mixRow at h
  refine enter (vs := [_, _, _, _, _]) Tryz.func145 rfl rfl rfl rfl ?_
  refine WC.seq ?_
  refine WC.region ?_
  refine WL.heavy rfl rfl rfl (OpH.box rfl rfl ?_)
  intro b0_0
  refine Lt.ofWL.step rfl rfl rfl (OpV.assign rfl) ?_
  refine WL.nil ?_
  refine En.next ?_
  refine WC.seq ?_
  obtain ⟨x1_4, e1_4, h⟩ := bnd h
  refine WC.region ?_
  refine Lt.ofWL.step rfl rfl rfl (OpV.fieldAddr rfl fo_31_0) ?_
  refine Lt.ofWL.step rfl rfl rfl (OpV.loadBox rfl pt_23 (.head _) rfl) ?_
  refine Lt.ofWL.step rfl rfl rfl (OpV.move rfl) ?_
  refine Lt.ofWL.step rfl rfl rfl (OpV.mulR rfl rfl) ?_
  refine Lt.ofWL.step rfl rfl rfl (OpV.subL rfl rfl rfl se_23 e1_4) ?_
  refine Lt.ofWL.step rfl rfl rfl (OpV.assign rfl) ?_
  refine WL.nil ?_
  refine En.next ?_
  refine WC.seq ?_
  obtain ⟨x2_1, e2_1, h⟩ := bnd h
  obtain ⟨g2_1, o2_1, _, ha2_1, rfl, hd2_1⟩ := Rd.atIdx (Rd.sub r0_0 e1_4) e2_1
  replace hd2_1 : ∀ (j : Nat) v, ([.int .i64 x2_1] : List Value)[j]? = some v → w.cell? ⟨g2_1, o2_1 + (Int.toNat 0) * 1 + j, .none⟩ = some v := hd2_1
  obtain ⟨x2_6, e2_6, h⟩ := bnd h
  obtain ⟨g2_6, o2_6, _, ha2_6, rfl, hd2_6⟩ := Rd.atIdx (Rd.sub r0_0 e1_4) e2_6
  replace hd2_6 : ∀ (j : Nat) v, ([.int .i64 x2_6] : List Value)[j]? = some v → w.cell? ⟨g2_6, o2_6 + (Int.toNat 1) * 1 + j, .none⟩ = some v := hd2_6
  obtain ⟨x2_12, e2_12, h⟩ := bnd h
  obtain ⟨g2_12, o2_12, _, ha2_12, rfl, hd2_12⟩ := Rd.atIdx (Rd.sub r0_0 e1_4) e2_12
  replace hd2_12 : ∀ (j : Nat) v, ([.int .i64 x2_12] : List Value)[j]? = some v → w.cell? ⟨g2_12, o2_12 + (Int.toNat 2) * 1 + j, .none⟩ = some v := hd2_12
  obtain ⟨x2_18, e2_18, h⟩ := bnd h
  obtain ⟨x2_19, e2_19, h⟩ := bnd h
  refine WC.drawn [(10, ?r2v10)] (by kernel_rfl) (by kernel_rfl) ?dH2 ?dK2
  case dH2 =>
    intro W hW hk
    refine hW.step rfl rfl rfl (OpV.move rfl) ?_
    refine hW.step rfl rfl rfl (OpV.idxA rfl rfl se_23 ha2_1 ⟨(idx_some e2_1).1, (idx_some e2_1).2.1⟩) ?_
    refine hW.step rfl rfl rfl (OpV.load1 rfl pt_3 (fun w hs => hs.cell (hd2_1 0 _ rfl))) ?_
    refine hW.step rfl rfl rfl (OpV.move rfl) ?_
    refine hW.step rfl rfl rfl (OpV.mulR rfl rfl) ?_
    refine hW.step rfl rfl rfl (OpV.move rfl) ?_
    refine hW.step rfl rfl rfl (OpV.idxA rfl rfl se_23 ha2_6 ⟨(idx_some e2_6).1, (idx_some e2_6).2.1⟩) ?_
    refine hW.step rfl rfl rfl (OpV.load1 rfl pt_3 (fun w hs => hs.cell (hd2_6 0 _ rfl))) ?_
    refine hW.step rfl rfl rfl (OpV.move rfl) ?_
    refine hW.step rfl rfl rfl (OpV.mulR rfl rfl) ?_
    refine hW.step rfl rfl rfl (OpV.addR rfl rfl) ?_
    refine hW.step rfl rfl rfl (OpV.move rfl) ?_
    refine hW.step rfl rfl rfl (OpV.idxA rfl rfl se_23 ha2_12 ⟨(idx_some e2_12).1, (idx_some e2_12).2.1⟩) ?_
    refine hW.step rfl rfl rfl (OpV.load1 rfl pt_3 (fun w hs => hs.cell (hd2_12 0 _ rfl))) ?_
    refine hW.step rfl rfl rfl (OpV.move rfl) ?_
    refine hW.step rfl rfl rfl (OpV.mulR rfl rfl) ?_
    refine hW.step rfl rfl rfl (OpV.addR rfl rfl) ?_
    refine hW.step rfl rfl rfl (OpV.addR rfl rfl) ?_
    refine hW.step rfl rfl rfl (OpV.call (evs.cons rfl (evs.cons rfl (evs.nil))) ca_173 (fun w hs => w_impl_floorDiv e2_18)) ?_
    refine hW.step rfl rfl rfl (OpV.call (evs.cons rfl (evs.cons rfl (evs.cons rfl (evs.nil)))) ca_174 (fun w hs => w_impl_Clamp e2_19)) ?_
    refine hW.step rfl rfl rfl (OpV.assign rfl) ?_
    refine hk _ ?_
    refine Sub.cons ?_ (Sub.nil _)
    all_goals exact rfl
  refine En.next ?_
  refine WC.ret ?_
  refine En.ret1 rfl (Res.tmp rfl) ?_
  obtain rfl := Option.some.inj h
  intro w' hs
  exact ⟨rfl, hs.below⟩

theorem w_impl_curveValue {m_p0 : ColorMapT} {v_p1 : Int} {r : Int} {q0_0 : Option Addr} {n0_0 k0_0 : Nat} {q0_1 : Option Addr} {n0_1 k0_1 : Nat} (h : impl_curveValue m_p0 v_p1 = some r) {w : World} (r0_0 : Rd tInt w q0_0 n0_0 k0_0 m_p0.Matrix) (r0_1 : Rd tInt w q0_1 n0_1 k0_1 m_p0.Curve)   :
    Calls Tryz.prog 144 #[.agg #[.slice q0_0 n0_0 k0_0, .slice q0_1 n0_1 k0_1], .int .i64 v_p1] w (fun en w' => en = .returned (.int .i64 r) ∧ Ext w w') := by
  obtain rfl := r0_0.1
  obtain rfl := r0_1.1
  unfold impl_curveValue at h
  refine enter (vs := [_, _]) Tryz.func144 rfl rfl rfl rfl ?_
  refine WC.seq ?_
  refine WC.region ?_
  refine WL.heavy rfl rfl rfl (OpH.box rfl rfl ?_)
  intro b0_0
  refine Lt.ofWL.step rfl rfl rfl (OpV.assign rfl) ?_
  refine WL.nil ?_
  refine En.next ?_
  refine WC.seq ?_
  obtain ⟨x1_4, e1_4, h⟩ := bnd h
  obtain ⟨g1_4, o1_4, _, ha1_4, rfl, hd1_4⟩ := Rd.atIdx r0_1 e1_4
  replace hd1_4 : ∀ (j : Nat) v, ([.int .i64 x1_4] : List Value)[j]? = some v → w.cell? ⟨g1_4, o1_4 + (wr (Int.tdiv v_p1 16)).toNat * 1 + j, .none⟩ = some v := hd1_4
  obtain ⟨x1_11, e1_11, h⟩ := bnd h
  obtain ⟨g1_11, o1_11, _, ha1_11, rfl, hd1_11⟩ := Rd.atIdx r0_1 e1_11
  replace hd1_11 : ∀ (j : Nat) v, ([.int .i64 x1_11] : List Value)[j]? = some v → w.cell? ⟨g1_11, o1_11 + (wr ((wr (Int.tdiv v_p1 16)) + 1)).toNat * 1 + j, .none⟩ = some v := hd1_11
  refine WC.drawn [(1, ?r1v1), (5, ?r1v5), (6, ?r1v6)] (by kernel_rfl) (by kernel_rfl) ?dH1 ?dK1
  case dH1 =>
    intro W hW hk
    refine hW.step rfl rfl rfl (OpV.fieldAddr rfl fo_31_1) ?_
    refine hW.step rfl rfl rfl (OpV.loadBox rfl pt_23 (.head _) rfl) ?_
    refine hW.step rfl rfl rfl (OpV.move rfl) ?_
    refine hW.step rfl rfl rfl (OpV.quoR rfl rfl rfl) ?_
    refine hW.step rfl rfl rfl (OpV.idxA rfl rfl se_23 ha1_4 ⟨(idx_some e1_4).1, (idx_some e1_4).2.1⟩) ?_
    refine hW.step rfl rfl rfl (OpV.load1 rfl pt_3 (fun w hs => hs.cell (hd1_4 0 _ rfl))) ?_
    refine hW.step rfl rfl rfl (OpV.fieldAddr rfl fo_31_1) ?_
    refine hW.step rfl rfl rfl (OpV.loadBox rfl pt_23 (.head _) rfl) ?_
    refine hW.step rfl rfl rfl (OpV.move rfl) ?_
    refine hW.step rfl rfl rfl (OpV.quoR rfl rfl rfl) ?_
    refine hW.step rfl rfl rfl (OpV.addR rfl rfl) ?_
    refine hW.step rfl rfl rfl (OpV.idxA rfl rfl se_23 ha1_11 ⟨(idx_some e1_11).1, (idx_some e1_11).2.1⟩) ?_
    refine hW.step rfl rfl rfl (OpV.load1 rfl pt_3 (fun w hs => hs.cell (hd1_11 0 _ rfl))) ?_
    refine hW.step rfl rfl rfl (OpV.assign rfl) ?_
    refine hW.step rfl rfl rfl (OpV.assign rfl) ?_
    refine hk _ ?_
    refine Sub.cons ?_ (Sub.cons ?_ (Sub.cons ?_ (Sub.nil _)))
    all_goals exact rfl
  refine En.next ?_
  refine WC.seq ?_
  obtain ⟨x2_7, e2_7, h⟩ := bnd h
  refine WC.region ?_
  refine Lt.ofWL.step rfl rfl rfl (OpV.move rfl) ?_
  refine Lt.ofWL.step rfl rfl rfl (OpV.move rfl) ?_
  refine Lt.ofWL.step rfl rfl rfl (OpV.move rfl) ?_
  refine Lt.ofWL.step rfl rfl rfl (OpV.subR rfl rfl) ?_
  refine Lt.ofWL.step rfl rfl rfl (OpV.move rfl) ?_
  refine Lt.ofWL.step rfl rfl rfl (OpV.remR rfl rfl rfl) ?_
  refine Lt.ofWL.step rfl rfl rfl (OpV.mulR rfl rfl) ?_
  refine Lt.ofWL.step rfl rfl rfl (OpV.call (evs.cons rfl (evs.cons rfl (evs.nil))) ca_173 (fun w hs => w_impl_floorDiv e2_7)) ?_
  refine Lt.ofWL.step rfl rfl rfl (OpV.addR rfl rfl) ?_
  refine Lt.ofWL.step rfl rfl rfl (OpV.min2 rfl rfl) ?_
  refine Lt.ofWL.step rfl rfl rfl (OpV.assign rfl) ?_
  refine WL.nil ?_
  refine En.next ?_
  refine WC.ret ?_
  refine En.ret1 rfl (Res.tmp rfl) ?_
  obtain rfl := Option.some.inj h
  intro w' hs
  exact ⟨rfl, hs.below⟩

theorem w_impl_colored {m_p0 : ColorMapT} {p_p1 : Int} {r : Int} {q0_0 : Option Addr} {n0_0 k0_0 : Nat} {q0_1 : Option Addr} {n0_1 k0_1 : Nat} (h : impl_colored m_p0 p_p1 = some r) {w : World} (r0_0 : Rd tInt w q0_0 n0_0 k0_0 m_p0.Matrix) (r0_1 : Rd tInt w q0_1 n0_1 k0_1 m_p0.Curve)   :
    Calls Tryz.prog 107 #[.agg #[.slice q0_0 n0_0 k0_0, .slice q0_1 n0_1 k0_1], .int .i64 p_p1] w (fun en w' => en = .returned (.int .i64 r) ∧ Ext w w') := by
  obtain rfl := r0_0.1
  obtain rfl := r0_1.1
  unfold impl_colored at h
  refine enter (vs := [_, _]) Tryz.func107 rfl rfl rfl rfl ?_
  refine WC.seq ?_
  refine WC.region ?_
  refine WL.heavy rfl rfl rfl (OpH.box rfl rfl ?_)
  intro b0_0
  refine Lt.ofWL.step rfl rfl rfl (OpV.assign rfl) ?_
  refine WL.nil ?_
  refine En.next ?_
  refine WC.seq ?_
  obtain ⟨x1_1, e1_1, h⟩ := bnd h
  refine WC.region ?_
  refine Lt.ofWL.step rfl rfl rfl (OpV.move rfl) ?_
  refine Lt.ofWL.step rfl rfl rfl (OpV.call (evs.cons rfl (evs.cons rfl (evs.nil))) ca_143 (fun w hs => w_impl_channel e1_1)) ?_
  refine Lt.ofWL.step rfl rfl rfl (OpV.assign rfl) ?_
  refine WL.nil ?_
  refine En.next ?_
  refine WC.seq ?_
  refine WC.seq ?_
  refine WC.region ?_
  refine Lt.ofWL.step rfl rfl rfl (OpV.move rfl) ?_
  refine WL.nil ?_
  refine En.next ?_
  refine WC.block ?_
  obtain ⟨zy0, ezy0, h⟩ := bnd h
  refine WC.cut (X := (Int) × (Unit)) (.exit 0) (fun x => zy0 = x.1) (fun x => match x with | (out_0e, ()) => [(5, .int .i64 out_0e)]) (fun x => match x with | (out_0e, ()) => []) ?_ ?_
  ·
    rintro ⟨out_0e, ⟨⟩⟩ hx
    replace hx : out_0e = zy0 := hx.symm
    subst hx
    show En _ _ _ _ [(5, .int .i64 out_0e)] []
    refine En.block_exit ?_
    refine En.next ?_
    refine WC.seq ?_
    refine WC.region ?_
    refine Lt.ofWL.step rfl rfl rfl (OpV.move rfl) ?_
    refine Lt.ofWL.step rfl rfl rfl (OpV.assign rfl) ?_
    refine WL.nil ?_
    refine En.next ?_
    refine WC.ret ?_
    refine En.ret1 rfl (Res.tmp rfl) ?_
    obtain rfl := Option.some.inj h
    intro w' hs
    exact ⟨rfl, hs.below⟩
  ·
    intro zK0_0
    refine WC.loopP (G := Unit) (fun s g => match s, g with | (out_0, v_0), () => [(1, .int .i64 p_p1), (2, .pointer (some ⟨b0_0, 0, .none⟩)), (5, .int .i64 out_0), (9, .int .i64 v_0)]) (fun s g => match s, g with | (out_0, v_0), () => [Chunk.box b0_0 31 [.slice q0_0 m_p0.Matrix.length k0_0, .slice q0_1 m_p0.Curve.length k0_1]]) (x1_1, 0) () ezy0 (by exact Sub.cons rfl (Sub.cons rfl (Sub.cons rfl (Sub.cons rfl (Sub.nil _))))) (by exact (fun _ h => h)) ?_
    rintro zm0 ⟨out_0, v_0⟩ ⟨⟩ zo0 zf0 zb0 ze0
    have zh0 : impl_colored_L0 m_p0 p_p1 out_0 v_0 = some zo0 := zf0
    unfold impl_colored_L0 at zh0
    show WC _ _ _ _ _ [(1, .int .i64 p_p1), (2, .pointer (some ⟨b0_0, 0, .none⟩)), (5, .int .i64 out_0), (9, .int .i64 v_0)] [Chunk.box b0_0 31 [.slice q0_0 m_p0.Matrix.length k0_0, .slice q0_1 m_p0.Curve.length k0_1]]
    refine WC.seq ?_
    refine WC.region ?_
    refine Lt.ofWL.step rfl rfl rfl (OpV.lss rfl rfl) ?_
    refine WL.nil ?_
    refine En.next ?_
    refine WC.seq ?_
    refine WC.cond rfl ?_ ?_
    ·
      intro hc_1
      replace zh0 := ifO_t hc_1 zh0
      refine WC.skip ?_
      refine En.next ?_
      refine WC.seq ?_
      refine WC.block ?_
      refine WC.seq ?_
      refine WC.region ?_
      refine Lt.ofWL.step rfl rfl rfl (OpV.move rfl) ?_
      refine Lt.ofWL.step rfl rfl rfl (OpV.assign rfl) ?_
      refine WL.nil ?_
      refine En.next ?_
      obtain ⟨x5_6, e5_6, zh0⟩ := bnd zh0
      obtain ⟨x5_8, e5_8, zh0⟩ := bnd zh0
      obtain ⟨x5_10, e5_10, zh0⟩ := bnd zh0
      obtain ⟨x5_11, e5_11, zh0⟩ := bnd zh0
      obtain ⟨x5_12, e5_12, zh0⟩ := bnd zh0
      refine WC.drawn [(1, ?r5v1), (2, ?r5v2), (5, ?r5v5), (9, ?r5v9)] (by kernel_rfl) (by kernel_rfl) ?dH5 ?dK5
      case dH5 =>
        intro W hW hk
        refine hW.step rfl rfl rfl (OpV.move rfl) ?_
        refine hW.step rfl rfl rfl (OpV.shlR rfl rfl rfl) ?_
        refine hW.step rfl rfl rfl (OpV.loadAll rfl (.head _) ag_31) ?_
        refine hW.step rfl rfl rfl (OpV.loadAll rfl (.head _) ag_31) ?_
        refine hW.step rfl rfl rfl (OpV.move rfl) ?_
        refine hW.step rfl rfl rfl (OpV.move rfl) ?_
        refine hW.step rfl rfl rfl (OpV.call (evs.cons rfl (evs.cons rfl (evs.nil))) ca_143 (fun w hs => w_impl_channel e5_6)) ?_
        refine hW.step rfl rfl rfl (OpV.move rfl) ?_
        refine hW.step rfl rfl rfl (OpV.call (evs.cons rfl (evs.cons rfl (evs.nil))) ca_143 (fun w hs => w_impl_channel e5_8)) ?_
        refine hW.step rfl rfl rfl (OpV.move rfl) ?_
        refine hW.step rfl rfl rfl (OpV.call (evs.cons rfl (evs.cons rfl (evs.nil))) ca_143 (fun w hs => w_impl_channel e5_10)) ?_
        refine hW.step rfl rfl rfl (OpV.call (evs.cons rfl (evs.cons rfl (evs.cons rfl (evs.cons rfl (evs.cons rfl (evs.nil)))))) ca_145 (fun w hs => w_impl_mixRow e5_11 (r0_0.ext hs.below) (r0_1.ext hs.below))) ?_
        refine hW.step rfl rfl rfl (OpV.call (evs.cons rfl (evs.cons rfl (evs.nil))) ca_144 (fun w hs => w_impl_curveValue e5_12 (r0_0.ext hs.below) (r0_1.ext hs.below))) ?_
        refine hW.step rfl rfl rfl (OpV.orR rfl rfl) ?_
        refine hW.step rfl rfl rfl (OpV.assign rfl) ?_
        refine hk _ ?_
        refine Sub.cons ?_ (Sub.cons ?_ (Sub.cons ?_ (Sub.cons ?_ (Sub.nil _))))
        all_goals exact rfl
      refine En.block_norm ?_
      refine En.next ?_
      refine WC.region ?_
      refine Lt.ofWL.step rfl rfl rfl (OpV.addR rfl rfl) ?_
      refine Lt.ofWL.step rfl rfl rfl (OpV.move rfl) ?_
      refine WL.nil ?_
      exact En.backP zb0 zh0 () (Sub.cons rfl (Sub.cons rfl (Sub.cons rfl (Sub.cons rfl (Sub.nil _))))) (fun _ h => h)
    ·
      intro hc_1
      replace zh0 := ifO_f hc_1 zh0
      refine WC.exit ?_
      refine En.then_exit ?_
      refine En.then_exit ?_
      have hx := exitP ze0 zh0
      exact En.wk _ _ (Sub.cons rfl (Sub.nil _)) (fun _ h => (h).sub (.cons _ (.slnil))) (zK0_0 (out_0, ()) hx.symm)

theorem w_impl_Threshold {x_p0 : Int} {y_p1 : Int} {r : Int}  (h : impl_Threshold x_p0 y_p1 = some r) {w : World}    :
    Calls Tryz.prog 172 #[.int .i64 x_p0, .int .i64 y_p1] w (fun en w' => en = .returned (.int .i64 r) ∧ Ext w w') := by
  unfold impl_Threshold at h
  refine enter (vs := [_, _]) Tryz.func172 rfl rfl rfl rfl ?_
  refine WC.seq ?_
  refine WC.region ?_
  refine Lt.ofWL.step rfl rfl rfl (OpV.assign rfl) ?_
  refine WL.nil ?_
  refine En.next ?_
  refine WC.seq ?_
  refine WC.block ?_
  refine WC.seq ?_
  refine WC.region ?_
  refine Lt.ofWL.step rfl rfl rfl (OpV.move rfl) ?_
  refine Lt.ofWL.step rfl rfl rfl (OpV.remR rfl rfl rfl) ?_
  refine Lt.ofWL.step rfl rfl rfl (OpV.eql rfl rfl) ?_
  refine Lt.ofWL.step rfl rfl rfl (OpV.move rfl) ?_
  refine Lt.ofWL.and 9 13 12 (p := ?pz1) (rest := ?qz1) (B := ?Bz1) rfl ?Tz1 ?Fz1 ?az1 ?bz1 ?cz1 ?dz1 ?ez1
  case Tz1 =>
    intro hcz1 hkz1
    refine Lt.ofWL.step rfl rfl rfl (OpV.move rfl) ?_
    refine Lt.ofWL.step rfl rfl rfl (OpV.remR rfl rfl rfl) ?_
    refine Lt.ofWL.step rfl rfl rfl (OpV.eql rfl rfl) ?_
    refine hkz1 _ ?_ ?_
    exact rfl
    repeat (first | exact Sub.refl _ | refine Sub.skip rfl ?_)
  case Fz1 =>
    intro hcz1 hkz1
    refine Lt.ofWL.skip rfl rfl rfl ?_
    refine Lt.ofWL.skip rfl rfl rfl ?_
    refine Lt.ofWL.skip rfl rfl rfl ?_
    refine hkz1 _ ?_
    repeat (first | exact Sub.refl _ | refine Sub.skip rfl ?_)
  case az1 => exact rfl
  case bz1 => exact rfl
  case cz1 => exact rfl
  case dz1 => exact rfl
  refine Lt.ofWL.step rfl rfl rfl (OpV.assign rfl) ?_
  refine WL.nil ?_
  refine En.next ?_
  refine WC.cond rfl ?_ ?_
  ·
    intro hc_1
    replace h := ifO_t hc_1 h
    refine WC.seq ?_
    refine WC.region ?_
    refine Lt.ofWL.step rfl rfl rfl (OpV.assign rfl) ?_
    refine WL.nil ?_
    refine En.next ?_
    refine WC.ret ?_
    refine En.block_ret ?_
    refine En.then_ret ?_
    refine En.ret1 rfl (Res.tmp rfl) ?_
    obtain rfl := Option.some.inj h
    intro w' hs
    exact ⟨rfl, hs.below⟩
  ·
    intro hc_1
    replace h := ifO_f hc_1 h
    refine WC.seq ?_
    refine WC.region ?_
    refine Lt.ofWL.step rfl rfl rfl (OpV.move rfl) ?_
    refine Lt.ofWL.step rfl rfl rfl (OpV.remR rfl rfl rfl) ?_
    refine Lt.ofWL.step rfl rfl rfl (OpV.eql rfl rfl) ?_
    refine Lt.ofWL.step rfl rfl rfl (OpV.assign rfl) ?_
    refine WL.nil ?_
    refine En.next ?_
    refine WC.cond rfl ?_ ?_
    ·
      intro hc_2
      replace h := ifO_t hc_2 h
      refine WC.seq ?_
      refine WC.region ?_
      refine Lt.ofWL.step rfl rfl rfl (OpV.assign rfl) ?_
      refine WL.nil ?_
      refine En.next ?_
      refine WC.ret ?_
      refine En.block_ret ?_
      refine En.then_ret ?_
      refine En.ret1 rfl (Res.tmp rfl) ?_
      obtain rfl := Option.some.inj h
      intro w' hs
      exact ⟨rfl, hs.below⟩
    ·
      intro hc_2
      replace h := ifO_f hc_2 h
      refine WC.seq ?_
      refine WC.region ?_
      refine Lt.ofWL.step rfl rfl rfl (OpV.move rfl) ?_
      refine Lt.ofWL.step rfl rfl rfl (OpV.remR rfl rfl rfl) ?_
      refine Lt.ofWL.step rfl rfl rfl (OpV.eql rfl rfl) ?_
      refine Lt.ofWL.step rfl rfl rfl (OpV.assign rfl) ?_
      refine WL.nil ?_
      refine En.next ?_
      refine WC.cond rfl ?_ ?_
      ·
        intro hc_3
        replace h := ifO_t hc_3 h
        refine WC.seq ?_
        refine WC.region ?_
        refine Lt.ofWL.step rfl rfl rfl (OpV.assign rfl) ?_
        refine WL.nil ?_
        refine En.next ?_
        refine WC.ret ?_
        refine En.block_ret ?_
        refine En.then_ret ?_
        refine En.ret1 rfl (Res.tmp rfl) ?_
        obtain rfl := Option.some.inj h
        intro w' hs
        exact ⟨rfl, hs.below⟩
      ·
        intro hc_3
        replace h := ifO_f hc_3 h
        refine WC.skip ?_
        refine En.block_norm ?_
        refine En.next ?_
        refine WC.seq ?_
        refine WC.region ?_
        refine Lt.ofWL.step rfl rfl rfl (OpV.assign rfl) ?_
        refine WL.nil ?_
        refine En.next ?_
        refine WC.ret ?_
        refine En.ret1 rfl (Res.tmp rfl) ?_
        obtain rfl := Option.some.inj h
        intro w' hs
        exact ⟨rfl, hs.below⟩

theorem w_impl_DitherLevel {v_p0 : Int} {x_p1 : Int} {y_p2 : Int} {r : Int}  (h : impl_DitherLevel v_p0 x_p1 y_p2 = some r) {w : World}    :
    Calls Tryz.prog 142 #[.int .i64 v_p0, .int .i64 x_p1, .int .i64 y_p2] w (fun en w' => en = .returned (.int .i64 r) ∧ Ext w w') := by
  unfold impl_DitherLevel at h
  refine enter (vs := [_, _, _]) Tryz.func142 rfl rfl rfl rfl ?_
  refine WC.seq ?_
  refine WC.region ?_
  refine Lt.ofWL.step rfl rfl rfl (OpV.assign rfl) ?_
  refine WL.nil ?_
  refine En.next ?_
  refine WC.seq ?_
  refine WC.seq ?_
  obtain ⟨x1_1, e1_1, h⟩ := bnd h
  refine WC.region ?_
  refine Lt.ofWL.step rfl rfl rfl (OpV.move rfl) ?_
  refine Lt.ofWL.step rfl rfl rfl (OpV.call (evs.cons rfl (evs.cons rfl (evs.cons rfl (evs.nil)))) ca_59 (fun w hs => w_impl_within e1_1)) ?_
  refine Lt.ofWL.step rfl rfl rfl (OpV.not rfl) ?_
  refine WL.nil ?_
  refine En.next ?_
  refine WC.cond rfl ?_ ?_
  ·
    intro hc_1
    replace h := ifO_t hc_1 h
    refine WC.seq ?_
    refine WC.region ?_
    refine Lt.ofWL.step rfl rfl rfl (OpV.assign rfl) ?_
    refine WL.nil ?_
    refine En.next ?_
    refine WC.ret ?_
    refine En.then_ret ?_
    refine En.ret1 rfl (Res.tmp rfl) ?_
    obtain rfl := Option.some.inj h
    intro w' hs
    exact ⟨rfl, hs.below⟩
  ·
    intro hc_1
    replace h := ifO_f hc_1 h
    refine WC.skip ?_
    refine En.next ?_
    refine WC.seq ?_
    obtain ⟨x3_4, e3_4, h⟩ := bnd h
    refine WC.region ?_
    refine Lt.ofWL.step rfl rfl rfl (OpV.move rfl) ?_
    refine Lt.ofWL.step rfl rfl rfl (OpV.mulR rfl rfl) ?_
    refine Lt.ofWL.step rfl rfl rfl (OpV.move rfl) ?_
    refine Lt.ofWL.step rfl rfl rfl (OpV.move rfl) ?_
    refine Lt.ofWL.step rfl rfl rfl (OpV.call (evs.cons rfl (evs.cons rfl (evs.nil))) ca_172 (fun w hs => w_impl_Threshold e3_4)) ?_
    refine Lt.ofWL.step rfl rfl rfl (OpV.mulR rfl rfl) ?_
    refine Lt.ofWL.step rfl rfl rfl (OpV.addR rfl rfl) ?_
    refine Lt.ofWL.step rfl rfl rfl (OpV.quoR rfl rfl rfl) ?_
    refine Lt.ofWL.step rfl rfl rfl (OpV.assign rfl) ?_
    refine WL.nil ?_
    refine En.next ?_
    refine WC.ret ?_
    refine En.ret1 rfl (Res.tmp rfl) ?_
    obtain rfl := Option.some.inj h
    intro w' hs
    exact ⟨rfl, hs.below⟩

theorem w_impl_DitherPixel {p_p0 : Int} {x_p1 : Int} {y_p2 : Int} {r : Int}  (h : impl_DitherPixel p_p0 x_p1 y_p2 = some r) {w : World}    :
    Calls Tryz.prog 106 #[.int .i64 p_p0, .int .i64 x_p1, .int .i64 y_p2] w (fun en w' => en = .returned (.int .i64 r) ∧ Ext w w') := by
  unfold impl_DitherPixel at h
  refine enter (vs := [_, _, _]) Tryz.func106 rfl rfl rfl rfl ?_
  refine WC.seq ?_
  refine WC.region ?_
  refine Lt.ofWL.step rfl rfl rfl (OpV.assign rfl) ?_
  refine WL.nil ?_
  refine En.next ?_
  refine WC.seq ?_
  refine WC.seq ?_
  obtain ⟨x1_1, e1_1, h⟩ := bnd h
  refine WC.region ?_
  refine Lt.ofWL.step rfl rfl rfl (OpV.move rfl) ?_
  refine Lt.ofWL.step rfl rfl rfl (OpV.call (evs.cons rfl (evs.nil)) ca_141 (fun w hs => w_impl_isPixel e1_1)) ?_
  refine Lt.ofWL.step rfl rfl rfl (OpV.not rfl) ?_
  refine WL.nil ?_
  refine En.next ?_
  refine WC.cond rfl ?_ ?_
  ·
    intro hc_1
    replace h := ifO_t hc_1 h
    refine WC.seq ?_
    refine WC.region ?_
    refine Lt.ofWL.step rfl rfl rfl (OpV.assign rfl) ?_
    refine WL.nil ?_
    refine En.next ?_
    refine WC.ret ?_
    refine En.then_ret ?_
    refine En.ret1 rfl (Res.tmp rfl) ?_
    obtain rfl := Option.some.inj h
    intro w' hs
    exact ⟨rfl, hs.below⟩
  ·
    intro hc_1
    replace h := ifO_f hc_1 h
    refine WC.skip ?_
    refine En.next ?_
    refine WC.seq ?_
    refine WC.region ?_
    refine Lt.ofWL.step rfl rfl rfl (OpV.assign rfl) ?_
    refine WL.nil ?_
    refine En.next ?_
    refine WC.seq ?_
    refine WC.seq ?_
    refine WC.region ?_
    refine Lt.ofWL.step rfl rfl rfl (OpV.assign rfl) ?_
    refine WL.nil ?_
    refine En.next ?_
    refine WC.block ?_
    obtain ⟨zy0, ezy0, h⟩ := bnd h
    refine WC.cut (X := (Int) × (Unit)) (.exit 0) (fun x => zy0 = x.1) (fun x => match x with | (d_0e, ()) => [(7, .int .i64 d_0e)]) (fun x => match x with | (d_0e, ()) => []) ?_ ?_
    ·
      rintro ⟨d_0e, ⟨⟩⟩ hx
      replace hx : d_0e = zy0 := hx.symm
      subst hx
      show En _ _ _ _ [(7, .int .i64 d_0e)] []
      refine En.block_exit ?_
      refine En.next ?_
      refine WC.seq ?_
      refine WC.region ?_
      refine Lt.ofWL.step rfl rfl rfl (OpV.move rfl) ?_
      refine Lt.ofWL.step rfl rfl rfl (OpV.assign rfl) ?_
      refine WL.nil ?_
      refine En.next ?_
      refine WC.ret ?_
      refine En.ret1 rfl (Res.tmp rfl) ?_
      obtain rfl := Option.some.inj h
      intro w' hs
      exact ⟨rfl, hs.below⟩
    ·
      intro zK0_0
      refine WC.loopP (G := Unit) (fun s g => match s, g with | (d_0, k_0), () => [(0, .int .i64 p_p0), (1, .int .i64 x_p1), (2, .int .i64 y_p2), (7, .int .i64 d_0), (8, .int .i64 k_0)]) (fun s g => match s, g with | (d_0, k_0), () => []) (0, 1) () ezy0 (by exact Sub.cons rfl (Sub.cons rfl (Sub.cons rfl (Sub.cons rfl (Sub.cons rfl (Sub.nil _)))))) (by exact (fun _ h => h)) ?_
      rintro zm0 ⟨d_0, k_0⟩ ⟨⟩ zo0 zf0 zb0 ze0
      have zh0 : impl_DitherPixel_L0 p_p0 x_p1 y_p2 d_0 k_0 = some zo0 := zf0
      unfold impl_DitherPixel_L0 at zh0
      show WC _ _ _ _ _ [(0, .int .i64 p_p0), (1, .int .i64 x_p1), (2, .int .i64 y_p2), (7, .int .i64 d_0), (8, .int .i64 k_0)] []
      refine WC.seq ?_
      refine WC.seq ?_
      refine WC.region ?_
      refine Lt.ofWL.step rfl rfl rfl (OpV.move rfl) ?_
      refine Lt.ofWL.step rfl rfl rfl (OpV.lss rfl rfl) ?_
      refine WL.nil ?_
      refine En.next ?_
      refine WC.cond rfl ?_ ?_
      ·
        intro hc_2
        replace zh0 := ifO_t hc_2 zh0
        refine WC.skip ?_
        refine En.next ?_
        refine WC.seq ?_
        refine WC.block ?_
        obtain ⟨x7_4, e7_4, zh0⟩ := bnd zh0
        obtain ⟨x7_7, e7_7, zh0⟩ := bnd zh0
        refine WC.region ?_
        refine Lt.ofWL.step rfl rfl rfl (OpV.move rfl) ?_
        refine Lt.ofWL.step rfl rfl rfl (OpV.shlR rfl rfl rfl) ?_
        refine Lt.ofWL.step rfl rfl rfl (OpV.move rfl) ?_
        refine Lt.ofWL.step rfl rfl rfl (OpV.move rfl) ?_
        refine Lt.ofWL.step rfl rfl rfl (OpV.call (evs.cons rfl (evs.cons rfl (evs.nil))) ca_143 (fun w hs => w_impl_channel e7_4)) ?_
        refine Lt.ofWL.step rfl rfl rfl (OpV.move rfl) ?_
        refine Lt.ofWL.step rfl rfl rfl (OpV.move rfl) ?_
        refine Lt.ofWL.step rfl rfl rfl (OpV.call (evs.cons rfl (evs.cons rfl (evs.cons rfl (evs.nil)))) ca_142 (fun w hs => w_impl_DitherLevel e7_7)) ?_
        refine Lt.ofWL.step rfl rfl rfl (OpV.orR rfl rfl) ?_
        refine Lt.ofWL.step rfl rfl rfl (OpV.assign rfl) ?_
        refine WL.nil ?_
        refine En.block_norm ?_
        refine En.next ?_
        refine WC.region ?_
        refine Lt.ofWL.step rfl rfl rfl (OpV.move rfl) ?_
        refine Lt.ofWL.step rfl rfl rfl (OpV.addR rfl rfl) ?_
        refine Lt.ofWL.step rfl rfl rfl (OpV.assign rfl) ?_
        refine WL.nil ?_
        exact En.backP zb0 zh0 () (Sub.cons rfl (Sub.cons rfl (Sub.cons rfl (Sub.cons rfl (Sub.cons rfl (Sub.nil _)))))) (fun _ h => h)
      ·
        intro hc_2
        replace zh0 := ifO_f hc_2 zh0
        refine WC.exit ?_
        refine En.then_exit ?_
        refine En.then_exit ?_
        have hx := exitP ze0 zh0
        exact En.wk _ _ (Sub.cons rfl (Sub.nil _)) (fun _ h => h) (zK0_0 (d_0, ()) hx.symm)

theorem w_impl_lineDots {i_p0 : ImageT} {m_p1 : ColorMapT} {y_p2 : Int} {r : (List Int)} {q0_0 : Option Addr} {n0_0 k0_0 : Nat} {q1_0 : Option Addr} {n1_0 k1_0 : Nat} {q1_1 : Option Addr} {n1_1 k1_1 : Nat} (h : impl_lineDots i_p0 m_p1 y_p2 = some r) {w : World} (r0_0 : Rd tInt w q0_0 n0_0 k0_0 i_p0.Data) (r1_0 : Rd tInt w q1_0 n1_0 k1_0 m_p1.Matrix) (r1_1 : Rd tInt w q1_1 n1_1 k1_1 m_p1.Curve)   :
    Calls Tryz.prog 60 #[.agg #[.int .i64 i_p0.W, .int .i64 i_p0.H, .slice q0_0 n0_0 k0_0], .agg #[.slice q1_0 n1_0 k1_0, .slice q1_1 n1_1 k1_1], .int .i64 y_p2] w (fun en w' => ∃ rv G, en = .returned rv ∧ (∃ (a0_0 : Option Addr) (n0_0 : Nat) (c0_0 : Nat) (f0_0 : List Nat), rv = .slice a0_0 n0_0 c0_0 ∧ G = [Chunk.own tInt f0_0 a0_0 n0_0 c0_0 r]) ∧ St w G w') := by
  obtain rfl := r0_0.1
  obtain rfl := r1_0.1
  obtain rfl := r1_1.1
  unfold impl_lineDots at h
  refine enter (vs := [_, _, _]) Tryz.func60 rfl rfl rfl rfl ?_
  refine WC.seq ?_
  refine WC.region ?_
  refine WL.heavy rfl rfl rfl (OpH.box rfl rfl ?_)
  intro b0_0
  refine WL.heavy rfl rfl rfl (OpH.box rfl rfl ?_)
  intro b0_1
  refine Lt.ofWL.step rfl rfl rfl (OpV.assign rfl) ?_
  refine WL.nil ?_
  refine En.next ?_
  refine WC.seq ?_
  obtain ⟨x1_2, e1_2, h⟩ := bnd h
  refine WC.region ?_
  refine Lt.ofWL.step rfl rfl rfl (OpV.fieldAddr rfl fo_96_0) ?_
  refine Lt.ofWL.step rfl rfl rfl (OpV.loadBox rfl pt_3 (.tail _ (.head _)) rfl) ?_
  refine WL.heavy rfl rfl rfl (OpH.makeO (A := tInt) rfl rfl mi_23 (fun w => tInt_flat.ow w 0) (by decide) e1_2 ⟨Int.le_refl _, (mkO_some e1_2).1.2⟩ ?_)
  intro b1_2
  refine Lt.ofWL.step rfl rfl rfl (OpV.assign rfl) ?_
  refine WL.nil ?_
  refine En.next ?_
  refine WC.seq ?_
  refine WC.seq ?_
  refine WC.region ?_
  refine Lt.ofWL.step rfl rfl rfl (OpV.move rfl) ?_
  refine Lt.ofWL.step rfl rfl rfl (OpV.len rfl si_23 rfl) ?_
  refine Lt.ofWL.step rfl rfl rfl (OpV.move rfl) ?_
  refine WL.nil ?_
  refine En.next ?_
  refine WC.block ?_
  obtain ⟨zy0, ezy0, h⟩ := bnd h
  refine WC.cut (X := ((List Int)) × ((List Nat))) (.exit 0) (fun x => zy0 = x.1) (fun x => match x with | (out_0e, fout_0e) => [(7, .slice (some ⟨b1_2, 0, .none⟩) x1_2.length i_p0.W.toNat)]) (fun x => match x with | (out_0e, fout_0e) => [Chunk.own tInt fout_0e (some ⟨b1_2, 0, .none⟩) x1_2.length i_p0.W.toNat out_0e]) ?_ ?_
  ·
    rintro ⟨out_0e, fout_0e⟩ hx
    replace hx : out_0e = zy0 := hx.symm
    subst hx
    show En _ _ _ _ [(7, .slice (some ⟨b1_2, 0, .none⟩) x1_2.length i_p0.W.toNat)] [Chunk.own tInt fout_0e (some ⟨b1_2, 0, .none⟩) x1_2.length i_p0.W.toNat out_0e]
    refine En.block_exit ?_
    refine En.next ?_
    refine WC.seq ?_
    refine WC.region ?_
    refine Lt.ofWL.step rfl rfl rfl (OpV.move rfl) ?_
    refine Lt.ofWL.step rfl rfl rfl (OpV.assign rfl) ?_
    refine WL.nil ?_
    refine En.next ?_
    refine WC.ret ?_
    refine En.ret1 rfl (Res.tmp rfl) ?_
    obtain rfl := Option.some.inj h
    intro w' hs
    have hs := hs
    exact ⟨_, _, rfl, ⟨(some ⟨b1_2, 0, .none⟩), x1_2.length, i_p0.W.toNat, fout_0e, rfl, rfl⟩, hs⟩
  ·
    intro zK0_0
    refine WC.loopP (G := (List Nat)) (fun s g => match s, g with | (out_0, v_0), fout_0 => [(2, .int .i64 y_p2), (3, .pointer (some ⟨b0_0, 0, .none⟩)), (4, .pointer (some ⟨b0_1, 0, .none⟩)), (7, .slice (some ⟨b1_2, 0, .none⟩) x1_2.length i_p0.W.toNat), (13, .int .i64 (x1_2.length : Int)), (14, .int .i64 v_0)]) (fun s g => match s, g with | (out_0, v_0), fout_0 => [Chunk.box b0_0 96 [.int .i64 i_p0.W, .int .i64 i_p0.H, .slice q0_0 i_p0.Data.length k0_0], Chunk.box b0_1 31 [.slice q1_0 m_p1.Matrix.length k1_0, .slice q1_1 m_p1.Curve.length k1_1], Chunk.own tInt fout_0 (some ⟨b1_2, 0, .none⟩) x1_2.length i_p0.W.toNat out_0]) (x1_2, 0) [b1_2] ezy0 (by exact Sub.cons rfl (Sub.cons rfl (Sub.cons rfl (Sub.cons rfl (Sub.cons rfl (Sub.cons rfl (Sub.nil _))))))) (by exact (fun _ h => ((h).perm (List.perm_middle (l₁ := [_]))).perm (List.perm_middle (l₁ := [_, _])))) ?_
    rintro zm0 ⟨out_0, v_0⟩ fout_0 zo0 zf0 zb0 ze0
    have zh0 : impl_lineDots_L0 i_p0 m_p1 y_p2 x1_2 out_0 v_0 = some zo0 := zf0
    unfold impl_lineDots_L0 at zh0
    show WC _ _ _ _ _ [(2, .int .i64 y_p2), (3, .pointer (some ⟨b0_0, 0, .none⟩)), (4, .pointer (some ⟨b0_1, 0, .none⟩)), (7, .slice (some ⟨b1_2, 0, .none⟩) x1_2.length i_p0.W.toNat), (13, .int .i64 (x1_2.length : Int)), (14, .int .i64 v_0)] [Chunk.box b0_0 96 [.int .i64 i_p0.W, .int .i64 i_p0.H, .slice q0_0 i_p0.Data.length k0_0], Chunk.box b0_1 31 [.slice q1_0 m_p1.Matrix.length k1_0, .slice q1_1 m_p1.Curve.length k1_1], Chunk.own tInt fout_0 (some ⟨b1_2, 0, .none⟩) x1_2.length i_p0.W.toNat out_0]
    refine WC.seq ?_
    refine WC.region ?_
    refine Lt.ofWL.step rfl rfl rfl (OpV.lss rfl rfl) ?_
    refine WL.nil ?_
    refine En.next ?_
    refine WC.seq ?_
    refine WC.cond rfl ?_ ?_
    ·
      intro hc_1
      replace zh0 := ifO_t hc_1 zh0
      refine WC.skip ?_
      refine En.next ?_
      refine WC.seq ?_
      refine WC.block ?_
      refine WC.seq ?_
      refine WC.region ?_
      refine Lt.ofWL.step rfl rfl rfl (OpV.move rfl) ?_
      refine Lt.ofWL.step rfl rfl rfl (OpV.assign rfl) ?_
      refine WL.nil ?_
      refine En.next ?_
      refine WC.inh fun hin5 => ?_
      obtain ⟨x5_11, e5_11, zh0⟩ := bnd zh0
      obtain ⟨g5_11, o5_11, _, ha5_11, rfl, hd5_11⟩ := Rd.atIdx r0_0 e5_11
      replace hd5_11 : ∀ (j : Nat) v, ([.int .i64 x5_11] : List Value)[j]? = some v → w.cell? ⟨g5_11, o5_11 + (wr ((wr (y_p2 * i_p0.W)) + v_0)).toNat * 1 + j, .none⟩ = some v := hd5_11
      obtain ⟨x5_13, e5_13, zh0⟩ := bnd zh0
      obtain ⟨x5_16, e5_16, zh0⟩ := bnd zh0
      have hn5_17 := ownLen hin5 (.tail _ (.tail _ (.head _)))
      obtain ⟨x5_18, e5_18, zh0⟩ := bnd zh0
      obtain ⟨g5_17, ha5_17⟩ := ownAddrU hin5 (.tail _ (.tail _ (.head _))) e5_18
      refine WC.wkF (fun _ h => h.perm (List.perm_middle (l₁ := [_, _]))) ?_
      refine WC.drawnH [_] ([_, _]) (fun _ h => h) (by kernel_rfl) ?_
      refine WAE.take (i := 0) rfl (by kernel_rfl) (by kernel_rfl) (by kernel_rfl) rfl rfl rfl (OpV.move rfl) ?_
      refine WAE.take (i := 1) rfl (by kernel_rfl) (by kernel_rfl) (by kernel_rfl) rfl rfl rfl (OpV.move rfl) ?_
      refine WAE.take (i := 2) rfl (by kernel_rfl) (by kernel_rfl) (by kernel_rfl) rfl rfl rfl (OpV.loadAll rfl (.tail _ (.head _)) ag_31) ?_
      refine WAE.take (i := 3) rfl (by kernel_rfl) (by kernel_rfl) (by kernel_rfl) rfl rfl rfl (OpV.fieldAddr rfl fo_96_2) ?_
      refine WAE.take (i := 4) rfl (by kernel_rfl) (by kernel_rfl) (by kernel_rfl) rfl rfl rfl (OpV.loadBox rfl pt_23 (.head _) rfl) ?_
      refine WAE.take (i := 5) rfl (by kernel_rfl) (by kernel_rfl) (by kernel_rfl) rfl rfl rfl (OpV.move rfl) ?_
      refine WAE.take (i := 6) rfl (by kernel_rfl) (by kernel_rfl) (by kernel_rfl) rfl rfl rfl (OpV.fieldAddr rfl fo_96_0) ?_
      refine WAE.take (i := 7) rfl (by kernel_rfl) (by kernel_rfl) (by kernel_rfl) rfl rfl rfl (OpV.loadBox rfl pt_3 (.head _) rfl) ?_
      refine WAE.take (i := 8) rfl (by kernel_rfl) (by kernel_rfl) (by kernel_rfl) rfl rfl rfl (OpV.mulR rfl rfl) ?_
      refine WAE.take (i := 9) rfl (by kernel_rfl) (by kernel_rfl) (by kernel_rfl) rfl rfl rfl (OpV.move rfl) ?_
      refine WAE.take (i := 10) rfl (by kernel_rfl) (by kernel_rfl) (by kernel_rfl) rfl rfl rfl (OpV.addR rfl rfl) ?_
      refine WAE.take (i := 11) rfl (by kernel_rfl) (by kernel_rfl) (by kernel_rfl) rfl rfl rfl (OpV.idxA rfl rfl se_23 ha5_11 ⟨(idx_some e5_11).1, (idx_some e5_11).2.1⟩) ?_
      refine WAE.take (i := 12) rfl (by kernel_rfl) (by kernel_rfl) (by kernel_rfl) rfl rfl rfl (OpV.load1 rfl pt_3 (fun w hs => hs.cell (hd5_11 0 _ rfl))) ?_
      refine WAE.take (i := 13) rfl (by kernel_rfl) (by kernel_rfl) (by kernel_rfl) rfl rfl rfl (OpV.call (evs.cons rfl (evs.cons rfl (evs.nil))) ca_107 (fun w hs => w_impl_colored e5_13 (r1_0.ext hs.below) (r1_1.ext hs.below))) ?_
      refine WAE.take (i := 14) rfl (by kernel_rfl) (by kernel_rfl) (by kernel_rfl) rfl rfl rfl (OpV.move rfl) ?_
      refine WAE.take (i := 15) rfl (by kernel_rfl) (by kernel_rfl) (by kernel_rfl) rfl rfl rfl (OpV.move rfl) ?_
      refine WAE.take (i := 16) rfl (by kernel_rfl) (by kernel_rfl) (by kernel_rfl) rfl rfl rfl (OpV.call (evs.cons rfl (evs.cons rfl (evs.cons rfl (evs.nil)))) ca_106 (fun w hs => w_impl_DitherPixel e5_16)) ?_
      refine WAE.take (i := 17) rfl (by kernel_rfl) (by kernel_rfl) (by kernel_rfl) rfl rfl rfl (OpV.idxA rfl rfl se_23 ha5_17 ⟨(upd_some e5_18).1.1, by rw [hn5_17]; exact (upd_some e5_18).1.2⟩) ?_
      refine WAE.all (rs := [18]) (by kernel_rfl) rfl (AllR.cons0 rfl rfl rfl ?_ AllR.nil)
      refine OpH.wkF (fun _ h => St.elFlat tInt_flat x5_16 h) ?_
      refine OpH.setEl (A := tInt) ha5_17 rfl rfl rfl ts_3 e5_18 ?_
      intro f5_18
      refine ⟨[_], rfl, ?_⟩
      refine WAE.rebase (H := []) ?_
      refine WAE.done (by kernel_rfl) ?_ _
      refine En.block_norm ?_
      refine En.next ?_
      refine WC.region ?_
      refine Lt.ofWL.step rfl rfl rfl (OpV.addR rfl rfl) ?_
      refine Lt.ofWL.step rfl rfl rfl (OpV.move rfl) ?_
      refine WL.nil ?_
      exact En.backP zb0 zh0 f5_18 (Sub.cons rfl (Sub.cons rfl (Sub.cons rfl (Sub.cons rfl (Sub.cons rfl (Sub.cons rfl (Sub.nil _))))))) (fun _ h => ((h).perm (List.perm_middle (l₁ := [_, _]))).perm (List.perm_middle (l₁ := [_, _])))
    ·
      intro hc_1
      replace zh0 := ifO_f hc_1 zh0
      refine WC.exit ?_
      refine En.then_exit ?_
      refine En.then_exit ?_
      have hx := exitP ze0 zh0
      exact En.wk _ _ (Sub.cons rfl (Sub.nil _)) (fun _ h => ((h).perm (List.perm_middle (l₁ := [_, _]))).sub (.cons_cons _ (.cons _ (.cons _ (.slnil))))) (zK0_0 (out_0, fout_0) hx.symm)

theorem w_impl_ScanDots {list_p0 : List PlaneT} {w_p1 : Int} {h_p2 : Int} {m_p3 : ColorMapT} {y_p4 : Int} {r : (List Int)} {q0_0 : Option Addr} {n0_0 k0_0 : Nat} {q3_0 : Option Addr} {n3_0 k3_0 : Nat} {q3_1 : Option Addr} {n3_1 k3_1 : Nat} (h : impl_ScanDots list_p0 w_p1 h_p2 m_p3 y_p4 = some r) {w : World} (r0_0 : Rd tPlane w q0_0 n0_0 k0_0 list_p0) (r3_0 : Rd tInt w q3_0 n3_0 k3_0 m_p3.Matrix) (r3_1 : Rd tInt w q3_1 n3_1 k3_1 m_p3.Curve)   :
    Calls Tryz.prog 14 #[.slice q0_0 n0_0 k0_0, .int .i64 w_p1, .int .i64 h_p2, .agg #[.slice q3_0 n3_0 k3_0, .slice q3_1 n3_1 k3_1], .int .i64 y_p4] w (fun en w' => ∃ rv G, en = .returned rv ∧ (∃ (a0_0 : Option Addr) (n0_0 : Nat) (c0_0 : Nat) (f0_0 : List Nat), rv = .slice a0_0 n0_0 c0_0 ∧ G = [Chunk.own tInt f0_0 a0_0 n0_0 c0_0 r]) ∧ St w G w') := by
  obtain rfl := r0_0.1
  obtain rfl := r3_0.1
  obtain rfl := r3_1.1
  unfold impl_ScanDots at h
  refine enter (vs := [_, _, _, _, _]) Tryz.func14 rfl rfl rfl rfl ?_
  refine WC.seq ?_
  refine WC.region ?_
  refine WL.heavy rfl rfl rfl (OpH.box rfl rfl ?_)
  intro b0_0
  refine Lt.ofWL.step rfl rfl rfl (OpV.assign rfl) ?_
  refine WL.nil ?_
  refine En.next ?_
  refine WC.seq ?_
  refine WC.seq ?_
  obtain ⟨x1_3, e1_3, h⟩ := bnd h
  obtain ⟨q1_9, e1_9, h⟩ := bnd h
  obtain ⟨q1_16, e1_16, h⟩ := bnd h
  refine WC.region ?_
  refine Lt.ofWL.step rfl rfl rfl (OpV.move rfl) ?_
  refine Lt.ofWL.step rfl rfl rfl (OpV.move rfl) ?_
  refine Lt.ofWL.step rfl rfl rfl (OpV.move rfl) ?_
  refine Lt.ofWL.step rfl rfl rfl (OpV.call (evs.cons rfl (evs.cons rfl (evs.cons rfl (evs.nil)))) ca_57 (fun w hs => w_impl_PlanesOk e1_3 (r0_0.ext hs.below))) ?_
  refine Lt.ofWL.step rfl rfl rfl (OpV.not rfl) ?_
  refine Lt.ofWL.step rfl rfl rfl (OpV.move rfl) ?_
  refine Lt.ofWL.orQ 16 20 19 (p := ?pz1) (rest := ?qz1) (B := q1_9) rfl (fun hz => orO_t e1_9 hz) ?Tz1 ?Fz1 ?az1 ?bz1 ?cz1 ?dz1 ?ez1
  case Tz1 =>
    intro hcz1 hkz1
    refine Lt.ofWL.skip rfl rfl rfl ?_
    refine Lt.ofWL.skip rfl rfl rfl ?_
    refine Lt.ofWL.skip rfl rfl rfl ?_
    refine hkz1 _ ?_
    repeat (first | exact Sub.refl _ | refine Sub.skip rfl ?_)
  case Fz1 =>
    intro hcz1 hkz1
    have hqz1 := orO_f e1_9 hcz1
    obtain ⟨x1_7, e1_7, hqz1⟩ := bnd hqz1
    obtain rfl := Option.some.inj hqz1
    refine Lt.ofWL.step rfl rfl rfl (OpV.loadAll rfl (.head _) ag_31) ?_
    refine Lt.ofWL.step rfl rfl rfl (OpV.call (evs.cons rfl (evs.nil)) ca_58 (fun w hs => w_impl_ColorOk e1_7 (r3_0.ext hs.below) (r3_1.ext hs.below))) ?_
    refine Lt.ofWL.step rfl rfl rfl (OpV.not rfl) ?_
    refine hkz1 _ ?_ ?_
    exact rfl
    repeat (first | exact Sub.refl _ | refine Sub.skip rfl ?_)
  case az1 => exact rfl
  case bz1 => exact rfl
  case cz1 => exact rfl
  case dz1 => exact rfl
  refine Lt.ofWL.step rfl rfl rfl (OpV.move rfl) ?_
  refine Lt.ofWL.orQ 21 27 26 (p := ?pz2) (rest := ?qz2) (B := q1_16) rfl (fun hz => orO_t e1_16 hz) ?Tz2 ?Fz2 ?az2 ?bz2 ?cz2 ?dz2 ?ez2
  case Tz2 =>
    intro hcz2 hkz2
    refine Lt.ofWL.skip rfl rfl rfl ?_
    refine Lt.ofWL.skip rfl rfl rfl ?_
    refine Lt.ofWL.skip rfl rfl rfl ?_
    refine Lt.ofWL.skip rfl rfl rfl ?_
    refine Lt.ofWL.skip rfl rfl rfl ?_
    refine hkz2 _ ?_
    repeat (first | exact Sub.refl _ | refine Sub.skip rfl ?_)
  case Fz2 =>
    intro hcz2 hkz2
    have hqz2 := orO_f e1_16 hcz2
    obtain ⟨x1_14, e1_14, hqz2⟩ := bnd hqz2
    obtain rfl := Option.some.inj hqz2
    refine Lt.ofWL.step rfl rfl rfl (OpV.move rfl) ?_
    refine Lt.ofWL.step rfl rfl rfl (OpV.move rfl) ?_
    refine Lt.ofWL.step rfl rfl rfl (OpV.subR rfl rfl) ?_
    refine Lt.ofWL.step rfl rfl rfl (OpV.call (evs.cons rfl (evs.cons rfl (evs.cons rfl (evs.nil)))) ca_59 (fun w hs => w_impl_within e1_14)) ?_
    refine Lt.ofWL.step rfl rfl rfl (OpV.not rfl) ?_
    refine hkz2 _ ?_ ?_
    exact rfl
    repeat (first | exact Sub.refl _ | refine Sub.skip rfl ?_)
  case az2 => exact rfl
  case bz2 => exact rfl
  case cz2 => exact rfl
  case dz2 => exact rfl
  refine WL.nil ?_
  refine En.next ?_
  refine WC.cond rfl ?_ ?_
  ·
    intro hc_1
    replace h := ifO_t hc_1 h
    refine WC.seq ?_
    refine WC.region ?_
    refine Lt.ofWL.step rfl rfl rfl (OpV.assign rfl) ?_
    refine WL.nil ?_
    refine En.next ?_
    refine WC.ret ?_
    refine En.then_ret ?_
    refine En.ret1 rfl (Res.tmp rfl) ?_
    obtain rfl := Option.some.inj h
    intro w' hs
    have hs := ((hs).ownNil (A := tInt)).sub (.cons_cons _ (.cons _ (.slnil)))
    exact ⟨_, _, rfl, ⟨.none, 0, 0, [], rfl, rfl⟩, hs⟩
  ·
    intro hc_1
    replace h := ifO_f hc_1 h
    refine WC.skip ?_
    refine En.next ?_
    refine WC.seq ?_
    obtain ⟨x3_1, e3_1, h⟩ := bnd h
    obtain ⟨x3_4, e3_4, h⟩ := bnd h
    refine WC.drawnH [] ([_]) (fun _ h => h) (by kernel_rfl) ?_
    refine WAE.take (i := 0) rfl (by kernel_rfl) (by kernel_rfl) (by kernel_rfl) rfl rfl rfl (OpV.move rfl) ?_
    refine WAE.take (i := 2) rfl (by kernel_rfl) (by kernel_rfl) (by kernel_rfl) rfl rfl rfl (OpV.loadAll rfl (.head _) ag_31) ?_
    refine WAE.take (i := 3) rfl (by kernel_rfl) (by kernel_rfl) (by kernel_rfl) rfl rfl rfl (OpV.move rfl) ?_
    refine WAE.all (rs := [1]) (by kernel_rfl) rfl (AllR.cons rfl rfl rfl rfl ?_ AllR.nil)
    refine OpH.callR (evs.cons rfl (evs.nil)) ca_61 (fun w hs => w_impl_scanned e3_1 (r0_0.ext hs.below)) ?_
    rintro _ _ ⟨a3_100, n3_100, c3_100, f3_100, rfl, rfl⟩
    refine ⟨[_], rfl, ?_⟩
    refine WAE.rebase (H := []) ?_
    refine WAE.all (rs := [4]) (by kernel_rfl) rfl (AllR.cons rfl rfl rfl rfl ?_ AllR.nil)
    refine OpH.callR (evs.cons rfl (evs.cons rfl (evs.cons rfl (evs.nil)))) ca_60 (fun w hs => w_impl_lineDots e3_4 (Ow.rd (hs.mem (.head _))) (r3_0.ext hs.below) (r3_1.ext hs.below)) ?_
    rintro _ _ ⟨a3_400, n3_400, c3_400, f3_400, rfl, rfl⟩
    refine ⟨[_], rfl, ?_⟩
    refine WAE.rebase (H := []) ?_
    refine WAE.take (i := 5) rfl (by kernel_rfl) (by kernel_rfl) (by kernel_rfl) rfl rfl rfl (OpV.assign rfl) ?_
    refine WAE.done (by kernel_rfl) ?_ _
    refine En.next ?_
    refine WC.ret ?_
    refine En.ret1 rfl (Res.tmp rfl) ?_
    obtain rfl := Option.some.inj h
    intro w' hs
    have hs := (hs).sub (.cons_cons _ (.cons _ (.cons _ (.slnil))))
    exact ⟨_, _, rfl, ⟨a3_400, n3_400, c3_400, f3_400, rfl, rfl⟩, hs⟩

theorem w_laws_eqIntS {a_p0 : List Int} {b_p1 : List Int} {r : Bool} {q0_0 : Option Addr} {n0_0 k0_0 : Nat} {q1_0 : Option Addr} {n1_0 k1_0 : Nat} (h : laws_eqIntS a_p0 b_p1 = some r) {w : World} (r0_0 : Rd tInt w q0_0 n0_0 k0_0 a_p0) (r1_0 : Rd tInt w q1_0 n1_0 k1_0 b_p1)   :
    Calls Tryz.prog 15 #[.slice q0_0 n0_0 k0_0, .slice q1_0 n1_0 k1_0] w (fun en w' => en = .returned (.bool r) ∧ Ext w w') := by
  obtain rfl := r0_0.1
  obtain rfl := r1_0.1
  unfold laws_eqIntS at h
  refine enter (vs := [_, _]) Tryz.func15 rfl rfl rfl rfl ?_
  refine WC.seq ?_
  refine WC.region ?_
  refine Lt.ofWL.step rfl rfl rfl (OpV.assign rfl) ?_
  refine WL.nil ?_
  refine En.next ?_
  refine WC.seq ?_
  refine WC.seq ?_
  refine WC.region ?_
  refine Lt.ofWL.step rfl rfl rfl (OpV.move rfl) ?_
  refine Lt.ofWL.step rfl rfl rfl (OpV.len rfl si_23 rfl) ?_
  refine Lt.ofWL.step rfl rfl rfl (OpV.move rfl) ?_
  refine Lt.ofWL.step rfl rfl rfl (OpV.len rfl si_23 rfl) ?_
  refine Lt.ofWL.step rfl rfl rfl (OpV.neq rfl rfl) ?_
  refine WL.nil ?_
  refine En.next ?_
  refine WC.cond rfl ?_ ?_
  ·
    intro hc_1
    replace h := ifO_t hc_1 h
    refine WC.seq ?_
    refine WC.region ?_
    refine Lt.ofWL.step rfl rfl rfl (OpV.assign rfl) ?_
    refine WL.nil ?_
    refine En.next ?_
    refine WC.ret ?_
    refine En.then_ret ?_
    refine En.ret1 rfl (Res.tmp rfl) ?_
    obtain rfl := Option.some.inj h
    intro w' hs
    exact ⟨rfl, hs.below⟩
  ·
    intro hc_1
    replace h := ifO_f hc_1 h
    refine WC.skip ?_
    refine En.next ?_
    refine WC.seq ?_
    refine WC.seq ?_
    refine WC.region ?_
    refine Lt.ofWL.step rfl rfl rfl (OpV.assign rfl) ?_
    refine WL.nil ?_
    refine En.next ?_
    refine WC.block ?_
    obtain ⟨zy0, ezy0, h⟩ := bnd h
    refine WC.cut (X := (Unit) × (Unit)) (.exit 0) (fun x => zy0 = .inl x.1) (fun x => match x with | ((), ()) => []) (fun x => match x with | ((), ()) => []) ?_ ?_
    ·
      rintro ⟨⟨⟩, ⟨⟩⟩ hx
      replace hx : .inl () = zy0 := hx.symm
      subst hx
      replace h := fork_l h
      show En _ _ _ _ [] []
      refine En.block_exit ?_
      refine En.next ?_
      refine WC.seq ?_
      refine WC.region ?_
      refine Lt.ofWL.step rfl rfl rfl (OpV.assign rfl) ?_
      refine WL.nil ?_
      refine En.next ?_
      refine WC.ret ?_
      refine En.ret1 rfl (Res.tmp rfl) ?_
      obtain rfl := Option.some.inj h
      intro w' hs
      exact ⟨rfl, hs.below⟩
    ·
      intro zK0_0
      refine WC.loopP (G := Unit) (fun s g => match s, g with | i_0, () => [(0, .slice q0_0 a_p0.length k0_0), (1, .slice q1_0 b_p1.length k1_0), (5, .int .i64 i_0)]) (fun s g => match s, g with | i_0, () => []) 0 () ezy0 (by exact Sub.cons rfl (Sub.cons rfl (Sub.cons rfl (Sub.nil _)))) (by exact (fun _ h => h)) ?_
      rintro zm0 i_0 ⟨⟩ zo0 zf0 zb0 ze0
      have zh0 : laws_eqIntS_L0 a_p0 b_p1 i_0 = some zo0 := zf0
      unfold laws_eqIntS_L0 at zh0
      show WC _ _ _ _ _ [(0, .slice q0_0 a_p0.length k0_0), (1, .slice q1_0 b_p1.length k1_0), (5, .int .i64 i_0)] []
      refine WC.seq ?_
      refine WC.seq ?_
      refine WC.region ?_
      refine Lt.ofWL.step rfl rfl rfl (OpV.move rfl) ?_
      refine Lt.ofWL.step rfl rfl rfl (OpV.move rfl) ?_
      refine Lt.ofWL.step rfl rfl rfl (OpV.len rfl si_23 rfl) ?_
      refine Lt.ofWL.step rfl rfl rfl (OpV.lss rfl rfl) ?_
      refine WL.nil ?_
      refine En.next ?_
      refine WC.cond rfl ?_ ?_
      ·
        intro hc_2
        replace zh0 := ifO_t hc_2 zh0
        refine WC.skip ?_
        refine En.next ?_
        refine WC.seq ?_
        refine WC.block ?_
        refine WC.seq ?_
        obtain ⟨x6_2, e6_2, zh0⟩ := bnd zh0
        obtain ⟨g6_2, o6_2, _, ha6_2, rfl, hd6_2⟩ := Rd.atIdx r0_0 e6_2
        replace hd6_2 : ∀ (j : Nat) v, ([.int .i64 x6_2] : List Value)[j]? = some v → w.cell? ⟨g6_2, o6_2 + i_0.toNat * 1 + j, .none⟩ = some v := hd6_2
        obtain ⟨x6_6, e6_6, zh0⟩ := bnd zh0
        obtain ⟨g6_6, o6_6, _, ha6_6, rfl, hd6_6⟩ := Rd.atIdx r1_0 e6_6
        replace hd6_6 : ∀ (j : Nat) v, ([.int .i64 x6_6] : List Value)[j]? = some v → w.cell? ⟨g6_6, o6_6 + i_0.toNat * 1 + j, .none⟩ = some v := hd6_6
        refine WC.drawn [(0, ?r6v0), (1, ?r6v1), (5, ?r6v5), (25, ?r6v25)] (by kernel_rfl) (by kernel_rfl) ?dH6 ?dK6
        case dH6 =>
          intro W hW hk
          refine hW.step rfl rfl rfl (OpV.move rfl) ?_
          refine hW.step rfl rfl rfl (OpV.move rfl) ?_
          refine hW.step rfl rfl rfl (OpV.idxA rfl rfl se_23 ha6_2 ⟨(idx_some e6_2).1, (idx_some e6_2).2.1⟩) ?_
          refine hW.step rfl rfl rfl (OpV.load1 rfl pt_3 (fun w hs => hs.cell (hd6_2 0 _ rfl))) ?_
          refine hW.step rfl rfl rfl (OpV.move rfl) ?_
          refine hW.step rfl rfl rfl (OpV.move rfl) ?_
          refine hW.step rfl rfl rfl (OpV.idxA rfl rfl se_23 ha6_6 ⟨(idx_some e6_6).1, (idx_some e6_6).2.1⟩) ?_
          refine hW.step rfl rfl rfl (OpV.load1 rfl pt_3 (fun w hs => hs.cell (hd6_6 0 _ rfl))) ?_
          refine hW.step rfl rfl rfl (OpV.neq rfl rfl) ?_
          refine hk _ ?_
          refine Sub.cons ?_ (Sub.cons ?_ (Sub.cons ?_ (Sub.cons ?_ (Sub.nil _))))
          all_goals exact rfl
        refine En.next ?_
        refine WC.cond rfl ?_ ?_
        ·
          intro hc_3
          replace zh0 := ifO_t hc_3 zh0
          refine WC.seq ?_
          refine WC.region ?_
          refine Lt.ofWL.step rfl rfl rfl (OpV.assign rfl) ?_
          refine WL.nil ?_
          refine En.next ?_
          refine WC.ret ?_
          refine En.block_ret ?_
          refine En.then_ret ?_
          refine En.then_ret ?_
          refine En.block_ret ?_
          refine En.then_ret ?_
          refine En.ret1 rfl (Res.tmp rfl) ?_
          have hx := exitP ze0 zh0
          subst hx
          replace h := fork_r h
          obtain rfl := Option.some.inj h
          intro w' hs
          exact ⟨rfl, hs.below⟩
        ·
          intro hc_3
          replace zh0 := ifO_f hc_3 zh0
          refine WC.skip ?_
          refine En.block_norm ?_
          refine En.next ?_
          refine WC.region ?_
          refine Lt.ofWL.step rfl rfl rfl (OpV.move rfl) ?_
          refine Lt.ofWL.step rfl rfl rfl (OpV.addR rfl rfl) ?_
          refine Lt.ofWL.step rfl rfl rfl (OpV.assign rfl) ?_
          refine WL.nil ?_
          exact En.backP zb0 zh0 () (Sub.cons rfl (Sub.cons rfl (Sub.cons rfl (Sub.nil _)))) (fun _ h => h)
      ·
        intro hc_2
        replace zh0 := ifO_f hc_2 zh0
        refine WC.exit ?_
        refine En.then_exit ?_
        refine En.then_exit ?_
        have hx := exitP ze0 zh0
        exact En.wk _ _ (Sub.nil _) (fun _ h => h) (zK0_0 ((), ()) hx.symm)

theorem w_laws_eqPlane {a_p0 : PlaneT} {b_p1 : PlaneT} {r : Bool} {q0_0 : Option Addr} {n0_0 k0_0 : Nat} {q1_0 : Option Addr} {n1_0 k1_0 : Nat} (h : laws_eqPlane a_p0 b_p1 = some r) {w : World} (r0_0 : Rd tInt w q0_0 n0_0 k0_0 a_p0.Words) (r1_0 : Rd tInt w q1_0 n1_0 k1_0 b_p1.Words)   :
    Calls Tryz.prog 62 #[.agg #[.bool a_p0.On, .int .i64 a_p0.X, .int .i64 a_p0.Y, .int .i64 a_p0.W, .int .i64 a_p0.H, .int .i64 a_p0.Layout, .slice q0_0 n0_0 k0_0, .int .i64 a_p0.Alpha, .int .i64 a_p0.Orient, .int .i64 a_p0.ToW, .int .i64 a_p0.ToH], .agg #[.bool b_p1.On, .int .i64 b_p1.X, .int .i64 b_p1.Y, .int .i64 b_p1.W, .int .i64 b_p1.H, .int .i64 b_p1.Layout, .slice q1_0 n1_0 k1_0, .int .i64 b_p1.Alpha, .int .i64 b_p1.Orient, .int .i64 b_p1.ToW, .int .i64 b_p1.ToH]] w (fun en w' => en = .returned (.bool r) ∧ Ext w w') := by
  obtain rfl := r0_0.1
  obtain rfl := r1_0.1
  unfold laws_eqPlane at h
  refine enter (vs := [_, _]) Tryz.func62 rfl rfl rfl rfl ?_
  refine WC.seq ?_
  refine WC.region ?_
  refine WL.heavy rfl rfl rfl (OpH.box rfl rfl ?_)
  intro b0_0
  refine WL.heavy rfl rfl rfl (OpH.box rfl rfl ?_)
  intro b0_1
  refine Lt.ofWL.step rfl rfl rfl (OpV.assign rfl) ?_
  refine WL.nil ?_
  refine En.next ?_
  refine WC.seq ?_
  refine WC.seq ?_
  refine WC.region ?_
  refine Lt.ofWL.step rfl rfl rfl (OpV.fieldAddr rfl fo_82_0) ?_
  refine Lt.ofWL.step rfl rfl rfl (OpV.loadBox rfl pt_4 (.tail _ (.head _)) rfl) ?_
  refine Lt.ofWL.step rfl rfl rfl (OpV.fieldAddr rfl fo_82_0) ?_
  refine Lt.ofWL.step rfl rfl rfl (OpV.loadBox rfl pt_4 (.head _) rfl) ?_
  refine Lt.ofWL.step rfl rfl rfl (OpV.bneq rfl rfl ub_4) ?_
  refine WL.nil ?_
  refine En.next ?_
  refine WC.cond rfl ?_ ?_
  ·
    intro hc_1
    replace h := ifO_t hc_1 h
    refine WC.seq ?_
    refine WC.region ?_
    refine Lt.ofWL.step rfl rfl rfl (OpV.assign rfl) ?_
    refine WL.nil ?_
    refine En.next ?_
    refine WC.ret ?_
    refine En.then_ret ?_
    refine En.ret1 rfl (Res.tmp rfl) ?_
    obtain rfl := Option.some.inj h
    intro w' hs
    exact ⟨rfl, hs.below⟩
  ·
    intro hc_1
    replace h := ifO_f hc_1 h
    refine WC.skip ?_
    refine En.next ?_
    refine WC.seq ?_
    refine WC.seq ?_
    refine WC.region ?_
    refine Lt.ofWL.step rfl rfl rfl (OpV.fieldAddr rfl fo_82_1) ?_
    refine Lt.ofWL.step rfl rfl rfl (OpV.loadBox rfl pt_3 (.tail _ (.head _)) rfl) ?_
    refine Lt.ofWL.step rfl rfl rfl (OpV.fieldAddr rfl fo_82_1) ?_
    refine Lt.ofWL.step rfl rfl rfl (OpV.loadBox rfl pt_3 (.head _) rfl) ?_
    refine Lt.ofWL.step rfl rfl rfl (OpV.neq rfl rfl) ?_
    refine WL.nil ?_
    refine En.next ?_
    refine WC.cond rfl ?_ ?_
    ·
      intro hc_2
      replace h := ifO_t hc_2 h
      refine WC.seq ?_
      refine WC.region ?_
      refine Lt.ofWL.step rfl rfl rfl (OpV.assign rfl) ?_
      refine WL.nil ?_
      refine En.next ?_
      refine WC.ret ?_
      refine En.then_ret ?_
      refine En.ret1 rfl (Res.tmp rfl) ?_
      obtain rfl := Option.some.inj h
      intro w' hs
      exact ⟨rfl, hs.below⟩
    ·
      intro hc_2
      replace h := ifO_f hc_2 h
      refine WC.skip ?_
      refine En.next ?_
      refine WC.seq ?_
      refine WC.seq ?_
      refine WC.region ?_
      refine Lt.ofWL.step rfl rfl rfl (OpV.fieldAddr rfl fo_82_2) ?_
      refine Lt.ofWL.step rfl rfl rfl (OpV.loadBox rfl pt_3 (.tail _ (.head _)) rfl) ?_
      refine Lt.ofWL.step rfl rfl rfl (OpV.fieldAddr rfl fo_82_2) ?_
      refine Lt.ofWL.step rfl rfl rfl (OpV.loadBox rfl pt_3 (.head _) rfl) ?_
      refine Lt.ofWL.step rfl rfl rfl (OpV.neq rfl rfl) ?_
      refine WL.nil ?_
      refine En.next ?_
      refine WC.cond rfl ?_ ?_
      ·
        intro hc_3
        replace h := ifO_t hc_3 h
        refine WC.seq ?_
        refine WC.region ?_
        refine Lt.ofWL.step rfl rfl rfl (OpV.assign rfl) ?_
        refine WL.nil ?_
        refine En.next ?_
        refine WC.ret ?_
        refine En.then_ret ?_
        refine En.ret1 rfl (Res.tmp rfl) ?_
        obtain rfl := Option.some.inj h
        intro w' hs
        exact ⟨rfl, hs.below⟩
      ·
        intro hc_3
        replace h := ifO_f hc_3 h
        refine WC.skip ?_
        refine En.next ?_
        refine WC.seq ?_
        refine WC.seq ?_
        refine WC.region ?_
        refine Lt.ofWL.step rfl rfl rfl (OpV.fieldAddr rfl fo_82_3) ?_
        refine Lt.ofWL.step rfl rfl rfl (OpV.loadBox rfl pt_3 (.tail _ (.head _)) rfl) ?_
        refine Lt.ofWL.step rfl rfl rfl (OpV.fieldAddr rfl fo_82_3) ?_
        refine Lt.ofWL.step rfl rfl rfl (OpV.loadBox rfl pt_3 (.head _) rfl) ?_
        refine Lt.ofWL.step rfl rfl rfl (OpV.neq rfl rfl) ?_
        refine WL.nil ?_
        refine En.next ?_
        refine WC.cond rfl ?_ ?_
        ·
          intro hc_4
          replace h := ifO_t hc_4 h
          refine WC.seq ?_
          refine WC.region ?_
          refine Lt.ofWL.step rfl rfl rfl (OpV.assign rfl) ?_
          refine WL.nil ?_
          refine En.next ?_
          refine WC.ret ?_
          refine En.then_ret ?_
          refine En.ret1 rfl (Res.tmp rfl) ?_
          obtain rfl := Option.some.inj h
          intro w' hs
          exact ⟨rfl, hs.below⟩
        ·
          intro hc_4
          replace h := ifO_f hc_4 h
          refine WC.skip ?_
          refine En.next ?_
          refine WC.seq ?_
          refine WC.seq ?_
          refine WC.region ?_
          refine Lt.ofWL.step rfl rfl rfl (OpV.fieldAddr rfl fo_82_4) ?_
          refine Lt.ofWL.step rfl rfl rfl (OpV.loadBox rfl pt_3 (.tail _ (.head _)) rfl) ?_
          refine Lt.ofWL.step rfl rfl rfl (OpV.fieldAddr rfl fo_82_4) ?_
          refine Lt.ofWL.step rfl rfl rfl (OpV.loadBox rfl pt_3 (.head _) rfl) ?_
          refine Lt.ofWL.step rfl rfl rfl (OpV.neq rfl rfl) ?_
          refine WL.nil ?_
          refine En.next ?_
          refine WC.cond rfl ?_ ?_
          ·
            intro hc_5
            replace h := ifO_t hc_5 h
            refine WC.seq ?_
            refine WC.region ?_
            refine Lt.ofWL.step rfl rfl rfl (OpV.assign rfl) ?_
            refine WL.nil ?_
            refine En.next ?_
            refine WC.ret ?_
            refine En.then_ret ?_
            refine En.ret1 rfl (Res.tmp rfl) ?_
            obtain rfl := Option.some.inj h
            intro w' hs
            exact ⟨rfl, hs.below⟩
          ·
            intro hc_5
            replace h := ifO_f hc_5 h
            refine WC.skip ?_
            refine En.next ?_
            refine WC.seq ?_
            refine WC.seq ?_
            refine WC.region ?_
            refine Lt.ofWL.step rfl rfl rfl (OpV.fieldAddr rfl fo_82_5) ?_
            refine Lt.ofWL.step rfl rfl rfl (OpV.loadBox rfl pt_3 (.tail _ (.head _)) rfl) ?_
            refine Lt.ofWL.step rfl rfl rfl (OpV.fieldAddr rfl fo_82_5) ?_
            refine Lt.ofWL.step rfl rfl rfl (OpV.loadBox rfl pt_3 (.head _) rfl) ?_
            refine Lt.ofWL.step rfl rfl rfl (OpV.neq rfl rfl) ?_
            refine WL.nil ?_
            refine En.next ?_
            refine WC.cond rfl ?_ ?_
            ·
              intro hc_6
              replace h := ifO_t hc_6 h
              refine WC.seq ?_
              refine WC.region ?_
              refine Lt.ofWL.step rfl rfl rfl (OpV.assign rfl) ?_
              refine WL.nil ?_
              refine En.next ?_
              refine WC.ret ?_
              refine En.then_ret ?_
              refine En.ret1 rfl (Res.tmp rfl) ?_
              obtain rfl := Option.some.inj h
              intro w' hs
              exact ⟨rfl, hs.below⟩
            ·
              intro hc_6
              replace h := ifO_f hc_6 h
              refine WC.skip ?_
              refine En.next ?_
              refine WC.seq ?_
              refine WC.seq ?_
              obtain ⟨x13_4, e13_4, h⟩ := bnd h
              refine WC.region ?_
              refine Lt.ofWL.step rfl rfl rfl (OpV.fieldAddr rfl fo_82_6) ?_
              refine Lt.ofWL.step rfl rfl rfl (OpV.loadBox rfl pt_23 (.tail _ (.head _)) rfl) ?_
              refine Lt.ofWL.step rfl rfl rfl (OpV.fieldAddr rfl fo_82_6) ?_
              refine Lt.ofWL.step rfl rfl rfl (OpV.loadBox rfl pt_23 (.head _) rfl) ?_
              refine Lt.ofWL.step rfl rfl rfl (OpV.call (evs.cons rfl (evs.cons rfl (evs.nil))) ca_15 (fun w hs => w_laws_eqIntS e13_4 (r0_0.ext hs.below) (r1_0.ext hs.below))) ?_
              refine Lt.ofWL.step rfl rfl rfl (OpV.not rfl) ?_
              refine WL.nil ?_
              refine En.next ?_
              refine WC.cond rfl ?_ ?_
              ·
                intro hc_7
                replace h := ifO_t hc_7 h
                refine WC.seq ?_
                refine WC.region ?_
                refine Lt.ofWL.step rfl rfl rfl (OpV.assign rfl) ?_
                refine WL.nil ?_
                refine En.next ?_
                refine WC.ret ?_
                refine En.then_ret ?_
                refine En.ret1 rfl (Res.tmp rfl) ?_
                obtain rfl := Option.some.inj h
                intro w' hs
                exact ⟨rfl, hs.below⟩
              ·
                intro hc_7
                replace h := ifO_f hc_7 h
                refine WC.skip ?_
                refine En.next ?_
                refine WC.seq ?_
                refine WC.seq ?_
                refine WC.region ?_
                refine Lt.ofWL.step rfl rfl rfl (OpV.fieldAddr rfl fo_82_7) ?_
                refine Lt.ofWL.step rfl rfl rfl (OpV.loadBox rfl pt_3 (.tail _ (.head _)) rfl) ?_
                refine Lt.ofWL.step rfl rfl rfl (OpV.fieldAddr rfl fo_82_7) ?_
                refine Lt.ofWL.step rfl rfl rfl (OpV.loadBox rfl pt_3 (.head _) rfl) ?_
                refine Lt.ofWL.step rfl rfl rfl (OpV.neq rfl rfl) ?_
                refine WL.nil ?_
                refine En.next ?_
                refine WC.cond rfl ?_ ?_
                ·
                  intro hc_8
                  replace h := ifO_t hc_8 h
                  refine WC.seq ?_
                  refine WC.region ?_
                  refine Lt.ofWL.step rfl rfl rfl (OpV.assign rfl) ?_
                  refine WL.nil ?_
                  refine En.next ?_
                  refine WC.ret ?_
                  refine En.then_ret ?_
                  refine En.ret1 rfl (Res.tmp rfl) ?_
                  obtain rfl := Option.some.inj h
                  intro w' hs
                  exact ⟨rfl, hs.below⟩
                ·
                  intro hc_8
                  replace h := ifO_f hc_8 h
                  refine WC.skip ?_
                  refine En.next ?_
                  refine WC.seq ?_
                  refine WC.seq ?_
                  refine WC.region ?_
                  refine Lt.ofWL.step rfl rfl rfl (OpV.fieldAddr rfl fo_82_8) ?_
                  refine Lt.ofWL.step rfl rfl rfl (OpV.loadBox rfl pt_3 (.tail _ (.head _)) rfl) ?_
                  refine Lt.ofWL.step rfl rfl rfl (OpV.fieldAddr rfl fo_82_8) ?_
                  refine Lt.ofWL.step rfl rfl rfl (OpV.loadBox rfl pt_3 (.head _) rfl) ?_
                  refine Lt.ofWL.step rfl rfl rfl (OpV.neq rfl rfl) ?_
                  refine WL.nil ?_
                  refine En.next ?_
                  refine WC.cond rfl ?_ ?_
                  ·
                    intro hc_9
                    replace h := ifO_t hc_9 h
                    refine WC.seq ?_
                    refine WC.region ?_
                    refine Lt.ofWL.step rfl rfl rfl (OpV.assign rfl) ?_
                    refine WL.nil ?_
                    refine En.next ?_
                    refine WC.ret ?_
                    refine En.then_ret ?_
                    refine En.ret1 rfl (Res.tmp rfl) ?_
                    obtain rfl := Option.some.inj h
                    intro w' hs
                    exact ⟨rfl, hs.below⟩
                  ·
                    intro hc_9
                    replace h := ifO_f hc_9 h
                    refine WC.skip ?_
                    refine En.next ?_
                    refine WC.seq ?_
                    refine WC.seq ?_
                    refine WC.region ?_
                    refine Lt.ofWL.step rfl rfl rfl (OpV.fieldAddr rfl fo_82_9) ?_
                    refine Lt.ofWL.step rfl rfl rfl (OpV.loadBox rfl pt_3 (.tail _ (.head _)) rfl) ?_
                    refine Lt.ofWL.step rfl rfl rfl (OpV.fieldAddr rfl fo_82_9) ?_
                    refine Lt.ofWL.step rfl rfl rfl (OpV.loadBox rfl pt_3 (.head _) rfl) ?_
                    refine Lt.ofWL.step rfl rfl rfl (OpV.neq rfl rfl) ?_
                    refine WL.nil ?_
                    refine En.next ?_
                    refine WC.cond rfl ?_ ?_
                    ·
                      intro hc_10
                      replace h := ifO_t hc_10 h
                      refine WC.seq ?_
                      refine WC.region ?_
                      refine Lt.ofWL.step rfl rfl rfl (OpV.assign rfl) ?_
                      refine WL.nil ?_
                      refine En.next ?_
                      refine WC.ret ?_
                      refine En.then_ret ?_
                      refine En.ret1 rfl (Res.tmp rfl) ?_
                      obtain rfl := Option.some.inj h
                      intro w' hs
                      exact ⟨rfl, hs.below⟩
                    ·
                      intro hc_10
                      replace h := ifO_f hc_10 h
                      refine WC.skip ?_
                      refine En.next ?_
                      refine WC.seq ?_
                      refine WC.seq ?_
                      refine WC.region ?_
                      refine Lt.ofWL.step rfl rfl rfl (OpV.fieldAddr rfl fo_82_10) ?_
                      refine Lt.ofWL.step rfl rfl rfl (OpV.loadBox rfl pt_3 (.tail _ (.head _)) rfl) ?_
                      refine Lt.ofWL.step rfl rfl rfl (OpV.fieldAddr rfl fo_82_10) ?_
                      refine Lt.ofWL.step rfl rfl rfl (OpV.loadBox rfl pt_3 (.head _) rfl) ?_
                      refine Lt.ofWL.step rfl rfl rfl (OpV.neq rfl rfl) ?_
                      refine WL.nil ?_
                      refine En.next ?_
                      refine WC.cond rfl ?_ ?_
                      ·
                        intro hc_11
                        replace h := ifO_t hc_11 h
                        refine WC.seq ?_
                        refine WC.region ?_
                        refine Lt.ofWL.step rfl rfl rfl (OpV.assign rfl) ?_
                        refine WL.nil ?_
                        refine En.next ?_
                        refine WC.ret ?_
                        refine En.then_ret ?_
                        refine En.ret1 rfl (Res.tmp rfl) ?_
                        obtain rfl := Option.some.inj h
                        intro w' hs
                        exact ⟨rfl, hs.below⟩
                      ·
                        intro hc_11
                        replace h := ifO_f hc_11 h
                        refine WC.skip ?_
                        refine En.next ?_
                        refine WC.seq ?_
                        refine WC.region ?_
                        refine Lt.ofWL.step rfl rfl rfl (OpV.assign rfl) ?_
                        refine WL.nil ?_
                        refine En.next ?_
                        refine WC.ret ?_
                        refine En.ret1 rfl (Res.tmp rfl) ?_
                        obtain rfl := Option.some.inj h
                        intro w' hs
                        exact ⟨rfl, hs.below⟩

theorem w_laws_eqPlaneS {a_p0 : List PlaneT} {b_p1 : List PlaneT} {r : Bool} {q0_0 : Option Addr} {n0_0 k0_0 : Nat} {q1_0 : Option Addr} {n1_0 k1_0 : Nat} (h : laws_eqPlaneS a_p0 b_p1 = some r) {w : World} (r0_0 : Rd tPlane w q0_0 n0_0 k0_0 a_p0) (r1_0 : Rd tPlane w q1_0 n1_0 k1_0 b_p1)   :
    Calls Tryz.prog 16 #[.slice q0_0 n0_0 k0_0, .slice q1_0 n1_0 k1_0] w (fun en w' => en = .returned (.bool r) ∧ Ext w w') := by
  obtain rfl := r0_0.1
  obtain rfl := r1_0.1
  unfold laws_eqPlaneS at h
  refine enter (vs := [_, _]) Tryz.func16 rfl rfl rfl rfl ?_
  refine WC.seq ?_
  refine WC.region ?_
  refine Lt.ofWL.step rfl rfl rfl (OpV.assign rfl) ?_
  refine WL.nil ?_
  refine En.next ?_
  refine WC.seq ?_
  refine WC.seq ?_
  refine WC.region ?_
  refine Lt.ofWL.step rfl rfl rfl (OpV.move rfl) ?_
  refine Lt.ofWL.step rfl rfl rfl (OpV.len rfl si_29 rfl) ?_
  refine Lt.ofWL.step rfl rfl rfl (OpV.move rfl) ?_
  refine Lt.ofWL.step rfl rfl rfl (OpV.len rfl si_29 rfl) ?_
  refine Lt.ofWL.step rfl rfl rfl (OpV.neq rfl rfl) ?_
  refine WL.nil ?_
  refine En.next ?_
  refine WC.cond rfl ?_ ?_
  ·
    intro hc_1
    replace h := ifO_t hc_1 h
    refine WC.seq ?_
    refine WC.region ?_
    refine Lt.ofWL.step rfl rfl rfl (OpV.assign rfl) ?_
    refine WL.nil ?_
    refine En.next ?_
    refine WC.ret ?_
    refine En.then_ret ?_
    refine En.ret1 rfl (Res.tmp rfl) ?_
    obtain rfl := Option.some.inj h
    intro w' hs
    exact ⟨rfl, hs.below⟩
  ·
    intro hc_1
    replace h := ifO_f hc_1 h
    refine WC.skip ?_
    refine En.next ?_
    refine WC.seq ?_
    refine WC.seq ?_
    refine WC.region ?_
    refine Lt.ofWL.step rfl rfl rfl (OpV.assign rfl) ?_
    refine WL.nil ?_
    refine En.next ?_
    refine WC.block ?_
    obtain ⟨zy0, ezy0, h⟩ := bnd h
    refine WC.cut (X := (Unit) × (Unit)) (.exit 0) (fun x => zy0 = .inl x.1) (fun x => match x with | ((), ()) => []) (fun x => match x with | ((), ()) => []) ?_ ?_
    ·
      rintro ⟨⟨⟩, ⟨⟩⟩ hx
      replace hx : .inl () = zy0 := hx.symm
      subst hx
      replace h := fork_l h
      show En _ _ _ _ [] []
      refine En.block_exit ?_
      refine En.next ?_
      refine WC.seq ?_
      refine WC.region ?_
      refine Lt.ofWL.step rfl rfl rfl (OpV.assign rfl) ?_
      refine WL.nil ?_
      refine En.next ?_
      refine WC.ret ?_
      refine En.ret1 rfl (Res.tmp rfl) ?_
      obtain rfl := Option.some.inj h
      intro w' hs
      exact ⟨rfl, hs.below⟩
    ·
      intro zK0_0
      refine WC.loopP (G := Unit) (fun s g => match s, g with | i_0, () => [(0, .slice q0_0 a_p0.length k0_0), (1, .slice q1_0 b_p1.length k1_0), (5, .int .i64 i_0)]) (fun s g => match s, g with | i_0, () => []) 0 () ezy0 (by exact Sub.cons rfl (Sub.cons rfl (Sub.cons rfl (Sub.nil _)))) (by exact (fun _ h => h)) ?_
      rintro zm0 i_0 ⟨⟩ zo0 zf0 zb0 ze0
      have zh0 : laws_eqPlaneS_L0 a_p0 b_p1 i_0 = some zo0 := zf0
      unfold laws_eqPlaneS_L0 at zh0
      show WC _ _ _ _ _ [(0, .slice q0_0 a_p0.length k0_0), (1, .slice q1_0 b_p1.length k1_0), (5, .int .i64 i_0)] []
      refine WC.seq ?_
      refine WC.seq ?_
      refine WC.region ?_
      refine Lt.ofWL.step rfl rfl rfl (OpV.move rfl) ?_
      refine Lt.ofWL.step rfl rfl rfl (OpV.move rfl) ?_
      refine Lt.ofWL.step rfl rfl rfl (OpV.len rfl si_29 rfl) ?_
      refine Lt.ofWL.step rfl rfl rfl (OpV.lss rfl rfl) ?_
      refine WL.nil ?_
      refine En.next ?_
      refine WC.cond rfl ?_ ?_
      ·
        intro hc_2
        replace zh0 := ifO_t hc_2 zh0
        refine WC.skip ?_
        refine En.next ?_
        refine WC.seq ?_
        refine WC.block ?_
        refine WC.seq ?_
        obtain ⟨x6_2, e6_2, zh0⟩ := bnd zh0
        obtain ⟨g6_2, o6_2, _, ha6_2, ⟨a6_2_1, c6_2_1, rfl, r6_2_1⟩, hd6_2⟩ := Rd.atIdx r0_0 e6_2
        replace hd6_2 : ∀ (j : Nat) v, ([.bool x6_2.On, .int .i64 x6_2.X, .int .i64 x6_2.Y, .int .i64 x6_2.W, .int .i64 x6_2.H, .int .i64 x6_2.Layout, .slice a6_2_1 x6_2.Words.length c6_2_1, .int .i64 x6_2.Alpha, .int .i64 x6_2.Orient, .int .i64 x6_2.ToW, .int .i64 x6_2.ToH] : List Value)[j]? = some v → w.cell? ⟨g6_2, o6_2 + i_0.toNat * 11 + j, .none⟩ = some v := hd6_2
        obtain ⟨x6_6, e6_6, zh0⟩ := bnd zh0
        obtain ⟨g6_6, o6_6, _, ha6_6, ⟨a6_6_1, c6_6_1, rfl, r6_6_1⟩, hd6_6⟩ := Rd.atIdx r1_0 e6_6
        replace hd6_6 : ∀ (j : Nat) v, ([.bool x6_6.On, .int .i64 x6_6.X, .int .i64 x6_6.Y, .int .i64 x6_6.W, .int .i64 x6_6.H, .int .i64 x6_6.Layout, .slice a6_6_1 x6_6.Words.length c6_6_1, .int .i64 x6_6.Alpha, .int .i64 x6_6.Orient, .int .i64 x6_6.ToW, .int .i64 x6_6.ToH] : List Value)[j]? = some v → w.cell? ⟨g6_6, o6_6 + i_0.toNat * 11 + j, .none⟩ = some v := hd6_6
        obtain ⟨x6_8, e6_8, zh0⟩ := bnd zh0
        refine WC.drawn [(0, ?r6v0), (1, ?r6v1), (5, ?r6v5), (26, ?r6v26)] (by kernel_rfl) (by kernel_rfl) ?dH6 ?dK6
        case dH6 =>
          intro W hW hk
          refine hW.step rfl rfl rfl (OpV.move rfl) ?_
          refine hW.step rfl rfl rfl (OpV.move rfl) ?_
          refine hW.step rfl rfl rfl (OpV.idxA rfl rfl se_29 ha6_2 ⟨(idx_some e6_2).1, (idx_some e6_2).2.1⟩) ?_
          refine hW.step rfl rfl rfl (OpV.loadN rfl ag_82 rfl (fun w hs => hs.cellsAt hd6_2)) ?_
          refine hW.step rfl rfl rfl (OpV.move rfl) ?_
          refine hW.step rfl rfl rfl (OpV.move rfl) ?_
          refine hW.step rfl rfl rfl (OpV.idxA rfl rfl se_29 ha6_6 ⟨(idx_some e6_6).1, (idx_some e6_6).2.1⟩) ?_
          refine hW.step rfl rfl rfl (OpV.loadN rfl ag_82 rfl (fun w hs => hs.cellsAt hd6_6)) ?_
          refine hW.step rfl rfl rfl (OpV.call (evs.cons rfl (evs.cons rfl (evs.nil))) ca_62 (fun w hs => w_laws_eqPlane e6_8 (r6_2_1.ext hs.below) (r6_6_1.ext hs.below))) ?_
          refine hW.step rfl rfl rfl (OpV.not rfl) ?_
          refine hk _ ?_
          refine Sub.cons ?_ (Sub.cons ?_ (Sub.cons ?_ (Sub.cons ?_ (Sub.nil _))))
          all_goals exact rfl
        refine En.next ?_
        refine WC.cond rfl ?_ ?_
        ·
          intro hc_3
          replace zh0 := ifO_t hc_3 zh0
          refine WC.seq ?_
          refine WC.region ?_
          refine Lt.ofWL.step rfl rfl rfl (OpV.assign rfl) ?_
          refine WL.nil ?_
          refine En.next ?_
          refine WC.ret ?_
          refine En.block_ret ?_
          refine En.then_ret ?_
          refine En.then_ret ?_
          refine En.block_ret ?_
          refine En.then_ret ?_
          refine En.ret1 rfl (Res.tmp rfl) ?_
          have hx := exitP ze0 zh0
          subst hx
          replace h := fork_r h
          obtain rfl := Option.some.inj h
          intro w' hs
          exact ⟨rfl, hs.below⟩
        ·
          intro hc_3
          replace zh0 := ifO_f hc_3 zh0
          refine WC.skip ?_
          refine En.block_norm ?_
          refine En.next ?_
          refine WC.region ?_
          refine Lt.ofWL.step rfl rfl rfl (OpV.move rfl) ?_
          refine Lt.ofWL.step rfl rfl rfl (OpV.addR rfl rfl) ?_
          refine Lt.ofWL.step rfl rfl rfl (OpV.assign rfl) ?_
          refine WL.nil ?_
          exact En.backP zb0 zh0 () (Sub.cons rfl (Sub.cons rfl (Sub.cons rfl (Sub.nil _)))) (fun _ h => h)
      ·
        intro hc_2
        replace zh0 := ifO_f hc_2 zh0
        refine WC.exit ?_
        refine En.then_exit ?_
        refine En.then_exit ?_
        have hx := exitP ze0 zh0
        exact En.wk _ _ (Sub.nil _) (fun _ h => h) (zK0_0 ((), ()) hx.symm)

theorem w_laws_eqColorMap {a_p0 : ColorMapT} {b_p1 : ColorMapT} {r : Bool} {q0_0 : Option Addr} {n0_0 k0_0 : Nat} {q0_1 : Option Addr} {n0_1 k0_1 : Nat} {q1_0 : Option Addr} {n1_0 k1_0 : Nat} {q1_1 : Option Addr} {n1_1 k1_1 : Nat} (h : laws_eqColorMap a_p0 b_p1 = some r) {w : World} (r0_0 : Rd tInt w q0_0 n0_0 k0_0 a_p0.Matrix) (r0_1 : Rd tInt w q0_1 n0_1 k0_1 a_p0.Curve) (r1_0 : Rd tInt w q1_0 n1_0 k1_0 b_p1.Matrix) (r1_1 : Rd tInt w q1_1 n1_1 k1_1 b_p1.Curve)   :
    Calls Tryz.prog 17 #[.agg #[.slice q0_0 n0_0 k0_0, .slice q0_1 n0_1 k0_1], .agg #[.slice q1_0 n1_0 k1_0, .slice q1_1 n1_1 k1_1]] w (fun en w' => en = .returned (.bool r) ∧ Ext w w') := by
  obtain rfl := r0_0.1
  obtain rfl := r0_1.1
  obtain rfl := r1_0.1
  obtain rfl := r1_1.1
  unfold laws_eqColorMap at h
  refine enter (vs := [_, _]) Tryz.func17 rfl rfl rfl rfl ?_
  refine WC.seq ?_
  refine WC.region ?_
  refine WL.heavy rfl rfl rfl (OpH.box rfl rfl ?_)
  intro b0_0
  refine WL.heavy rfl rfl rfl (OpH.box rfl rfl ?_)
  intro b0_1
  refine Lt.ofWL.step rfl rfl rfl (OpV.assign rfl) ?_
  refine WL.nil ?_
  refine En.next ?_
  refine WC.seq ?_
  refine WC.seq ?_
  obtain ⟨x1_4, e1_4, h⟩ := bnd h
  refine WC.region ?_
  refine Lt.ofWL.step rfl rfl rfl (OpV.fieldAddr rfl fo_31_0) ?_
  refine Lt.ofWL.step rfl rfl rfl (OpV.loadBox rfl pt_23 (.tail _ (.head _)) rfl) ?_
  refine Lt.ofWL.step rfl rfl rfl (OpV.fieldAddr rfl fo_31_0) ?_
  refine Lt.ofWL.step rfl rfl rfl (OpV.loadBox rfl pt_23 (.head _) rfl) ?_
  refine Lt.ofWL.step rfl rfl rfl (OpV.call (evs.cons rfl (evs.cons rfl (evs.nil))) ca_15 (fun w hs => w_laws_eqIntS e1_4 (r0_0.ext hs.below) (r1_0.ext hs.below))) ?_
  refine Lt.ofWL.step rfl rfl rfl (OpV.not rfl) ?_
  refine WL.nil ?_
  refine En.next ?_
  refine WC.cond rfl ?_ ?_
  ·
    intro hc_1
    replace h := ifO_t hc_1 h
    refine WC.seq ?_
    refine WC.region ?_
    refine Lt.ofWL.step rfl rfl rfl (OpV.assign rfl) ?_
    refine WL.nil ?_
    refine En.next ?_
    refine WC.ret ?_
    refine En.then_ret ?_
    refine En.ret1 rfl (Res.tmp rfl) ?_
    obtain rfl := Option.some.inj h
    intro w' hs
    exact ⟨rfl, hs.below⟩
  ·
    intro hc_1
    replace h := ifO_f hc_1 h
    refine WC.skip ?_
    refine En.next ?_
    refine WC.seq ?_
    refine WC.seq ?_
    obtain ⟨x3_4, e3_4, h⟩ := bnd h
    refine WC.region ?_
    refine Lt.ofWL.step rfl rfl rfl (OpV.fieldAddr rfl fo_31_1) ?_
    refine Lt.ofWL.step rfl rfl rfl (OpV.loadBox rfl pt_23 (.tail _ (.head _)) rfl) ?_
    refine Lt.ofWL.step rfl rfl rfl (OpV.fieldAddr rfl fo_31_1) ?_
    refine Lt.ofWL.step rfl rfl rfl (OpV.loadBox rfl pt_23 (.head _) rfl) ?_
    refine Lt.ofWL.step rfl rfl rfl (OpV.call (evs.cons rfl (evs.cons rfl (evs.nil))) ca_15 (fun w hs => w_laws_eqIntS e3_4 (r0_1.ext hs.below) (r1_1.ext hs.below))) ?_
    refine Lt.ofWL.step rfl rfl rfl (OpV.not rfl) ?_
    refine WL.nil ?_
    refine En.next ?_
    refine WC.cond rfl ?_ ?_
    ·
      intro hc_2
      replace h := ifO_t hc_2 h
      refine WC.seq ?_
      refine WC.region ?_
      refine Lt.ofWL.step rfl rfl rfl (OpV.assign rfl) ?_
      refine WL.nil ?_
      refine En.next ?_
      refine WC.ret ?_
      refine En.then_ret ?_
      refine En.ret1 rfl (Res.tmp rfl) ?_
      obtain rfl := Option.some.inj h
      intro w' hs
      exact ⟨rfl, hs.below⟩
    ·
      intro hc_2
      replace h := ifO_f hc_2 h
      refine WC.skip ?_
      refine En.next ?_
      refine WC.seq ?_
      refine WC.region ?_
      refine Lt.ofWL.step rfl rfl rfl (OpV.assign rfl) ?_
      refine WL.nil ?_
      refine En.next ?_
      refine WC.ret ?_
      refine En.ret1 rfl (Res.tmp rfl) ?_
      obtain rfl := Option.some.inj h
      intro w' hs
      exact ⟨rfl, hs.below⟩

theorem w_laws_markIntS {a_p0 : List Int} {k_p1 : Int} {r : Int × (List Int)} {q0_0 : Option Addr} {n0_0 k0_0 : Nat} {f0_0 : List Nat} (h : laws_markIntS a_p0 k_p1 = some r) {w0 w : World} {C : List Chunk} (hs0 : St w0 (Chunk.own tInt f0_0 q0_0 n0_0 k0_0 a_p0 :: C) w)  :
    Calls Tryz.prog 20 #[.slice q0_0 n0_0 k0_0, .int .i64 k_p1] w (fun en w' => ∃ rv G, en = .returned rv ∧ (∃ (g0_0 : List Nat), rv = .int .i64 r.1 ∧ G = Chunk.own tInt g0_0 q0_0 n0_0 k0_0 r.2 :: C) ∧ St w0 G w') := by
  unfold laws_markIntS at h
  refine enterF hs0 (vs := [_, _]) Tryz.func20 rfl rfl rfl rfl ?_
  refine WC.seq ?_
  refine WC.region ?_
  refine Lt.ofWL.step rfl rfl rfl (OpV.assign rfl) ?_
  refine WL.nil ?_
  refine En.next ?_
  refine WC.seq ?_
  refine WC.seq ?_
  refine WC.region ?_
  refine Lt.ofWL.step rfl rfl rfl (OpV.assign rfl) ?_
  refine WL.nil ?_
  refine En.next ?_
  refine WC.block ?_
  obtain ⟨zy0, ezy0, h⟩ := bnd h
  refine WC.cut (X := (Int × (List Int)) × ((List Nat))) (.exit 0) (fun x => zy0 = x.1) (fun x => match x with | ((k_0e, p_0e), fp_0e) => [(1, .int .i64 k_0e)]) (fun x => match x with | ((k_0e, p_0e), fp_0e) => (Chunk.own tInt fp_0e q0_0 n0_0 k0_0 p_0e :: C)) ?_ ?_
  ·
    rintro ⟨⟨k_0e, p_0e⟩, fp_0e⟩ hx
    replace hx : (k_0e, p_0e) = zy0 := hx.symm
    subst hx
    show En _ _ _ _ [(1, .int .i64 k_0e)] (Chunk.own tInt fp_0e q0_0 n0_0 k0_0 p_0e :: C)
    refine En.block_exit ?_
    refine En.next ?_
    refine WC.seq ?_
    refine WC.region ?_
    refine Lt.ofWL.step rfl rfl rfl (OpV.move rfl) ?_
    refine Lt.ofWL.step rfl rfl rfl (OpV.assign rfl) ?_
    refine WL.nil ?_
    refine En.next ?_
    refine WC.ret ?_
    refine En.ret1 rfl (Res.tmp rfl) ?_
    obtain rfl := Option.some.inj h
    intro w' hs
    have hs := hs
    exact ⟨_, _, rfl, ⟨fp_0e, rfl, rfl⟩, hs⟩
  ·
    intro zK0_0
    refine WC.loopP (G := (List Nat)) (fun s g => match s, g with | (a_0, k_0, i_0), fa_0 => [(0, .slice q0_0 n0_0 k0_0), (1, .int .i64 k_0), (5, .int .i64 i_0)]) (fun s g => match s, g with | (a_0, k_0, i_0), fa_0 => (Chunk.own tInt fa_0 q0_0 n0_0 k0_0 a_0 :: C)) (a_p0, k_p1, 0) f0_0 ezy0 (by exact Sub.cons rfl (Sub.cons rfl (Sub.cons rfl (Sub.nil _)))) (by exact (fun _ h => h)) ?_
    rintro zm0 ⟨a_0, k_0, i_0⟩ fa_0 zo0 zf0 zb0 ze0
    have zh0 : laws_markIntS_L0 a_0 k_0 i_0 = some zo0 := zf0
    unfold laws_markIntS_L0 at zh0
    show WC _ _ _ _ _ [(0, .slice q0_0 n0_0 k0_0), (1, .int .i64 k_0), (5, .int .i64 i_0)] (Chunk.own tInt fa_0 q0_0 n0_0 k0_0 a_0 :: C)
    refine WC.seq ?_
    refine WC.seq ?_
    refine WC.region ?_
    refine Lt.ofWL.step rfl rfl rfl (OpV.move rfl) ?_
    refine Lt.ofWL.step rfl rfl rfl (OpV.move rfl) ?_
    refine Lt.ofWL.step rfl rfl rfl (OpV.inhF fun hin => OpV.lenO (xs := a_0) rfl si_23 rfl (ownLen hin (.head _))) ?_
    refine Lt.ofWL.step rfl rfl rfl (OpV.lss rfl rfl) ?_
    refine WL.nil ?_
    refine En.next ?_
    refine WC.cond rfl ?_ ?_
    ·
      intro hc_1
      replace zh0 := ifO_t hc_1 zh0
      refine WC.skip ?_
      refine En.next ?_
      refine WC.seq ?_
      refine WC.block ?_
      refine WC.seq ?_
      refine WC.inh fun hin4 => ?_
      have hn4_3 := ownLen hin4 (.head _)
      obtain ⟨x4_4, e4_4, zh0⟩ := bnd zh0
      obtain ⟨g4_3, ha4_3⟩ := ownAddrU hin4 (.head _) e4_4
      refine WC.region ?_
      refine Lt.ofWL.step rfl rfl rfl (OpV.move rfl) ?_
      refine Lt.ofWL.step rfl rfl rfl (OpV.move rfl) ?_
      refine Lt.ofWL.step rfl rfl rfl (OpV.move rfl) ?_
      refine Lt.ofWL.step rfl rfl rfl (OpV.idxA rfl rfl se_23 ha4_3 ⟨(upd_some e4_4).1.1, by rw [hn4_3]; exact (upd_some e4_4).1.2⟩) ?_
      refine WL.wkF (fun _ h => St.elFlat tInt_flat k_0 h) ?_
      refine WL.heavy0 rfl rfl (OpH.setEl (A := tInt) ha4_3 rfl rfl rfl ts_3 e4_4 ?_)
      intro f4_4
      refine WL.nil ?_
      refine En.next ?_
      refine WC.region ?_
      refine Lt.ofWL.step rfl rfl rfl (OpV.move rfl) ?_
      refine Lt.ofWL.step rfl rfl rfl (OpV.addR rfl rfl) ?_
      refine Lt.ofWL.step rfl rfl rfl (OpV.assign rfl) ?_
      refine WL.nil ?_
      refine En.block_norm ?_
      refine En.next ?_
      refine WC.region ?_
      refine Lt.ofWL.step rfl rfl rfl (OpV.move rfl) ?_
      refine Lt.ofWL.step rfl rfl rfl (OpV.addR rfl rfl) ?_
      refine Lt.ofWL.step rfl rfl rfl (OpV.assign rfl) ?_
      refine WL.nil ?_
      exact En.backP zb0 zh0 f4_4 (Sub.cons rfl (Sub.cons rfl (Sub.cons rfl (Sub.nil _)))) (fun _ h => h)
    ·
      intro hc_1
      replace zh0 := ifO_f hc_1 zh0
      refine WC.exit ?_
      refine En.then_exit ?_
      refine En.then_exit ?_
      have hx := exitP ze0 zh0
      exact En.wk _ _ (Sub.cons rfl (Sub.nil _)) (fun _ h => h) (zK0_0 ((k_0, a_0), fa_0) hx.symm)

theorem w_laws_markPlaneS {a_p0 : List PlaneT} {a_p1 : Int} {r : Int × (List PlaneT)} {q0_0 : Option Addr} {n0_0 k0_0 : Nat} {f0_0 : List Nat} (h : laws_markPlaneS a_p0 a_p1 = some r) {w0 w : World} {C : List Chunk} (hs0 : St w0 (Chunk.own tPlane f0_0 q0_0 n0_0 k0_0 a_p0 :: C) w)  :
    Calls Tryz.prog 18 #[.slice q0_0 n0_0 k0_0, .int .i64 a_p1] w (fun en w' => ∃ rv G, en = .returned rv ∧ (∃ (g0_0 : List Nat), rv = .int .i64 r.1 ∧ G = Chunk.own tPlane g0_0 q0_0 n0_0 k0_0 r.2 :: C) ∧ St w0 G w') := by
  unfold laws_markPlaneS at h
  refine enterF hs0 (vs := [_, _]) Tryz.func18 rfl rfl rfl rfl ?_
  refine WC.seq ?_
  refine WC.region ?_
  refine Lt.ofWL.step rfl rfl rfl (OpV.assign rfl) ?_
  refine WL.nil ?_
  refine En.next ?_
  refine WC.seq ?_
  refine WC.seq ?_
  refine WC.region ?_
  refine Lt.ofWL.step rfl rfl rfl (OpV.assign rfl) ?_
  refine WL.nil ?_
  refine En.next ?_
  refine WC.block ?_
  obtain ⟨zy0, ezy0, h⟩ := bnd h
  refine WC.cut (X := (Int × (List PlaneT)) × ((List Nat))) (.exit 0) (fun x => zy0 = x.1) (fun x => match x with | ((v_0e, p_0e), fp_0e) => [(1, .int .i64 v_0e)]) (fun x => match x with | ((v_0e, p_0e), fp_0e) => (Chunk.own tPlane fp_0e q0_0 n0_0 k0_0 p_0e :: C)) ?_ ?_
  ·
    rintro ⟨⟨v_0e, p_0e⟩, fp_0e⟩ hx
    replace hx : (v_0e, p_0e) = zy0 := hx.symm
    subst hx
    show En _ _ _ _ [(1, .int .i64 v_0e)] (Chunk.own tPlane fp_0e q0_0 n0_0 k0_0 p_0e :: C)
    refine En.block_exit ?_
    refine En.next ?_
    refine WC.seq ?_
    refine WC.region ?_
    refine Lt.ofWL.step rfl rfl rfl (OpV.move rfl) ?_
    refine Lt.ofWL.step rfl rfl rfl (OpV.assign rfl) ?_
    refine WL.nil ?_
    refine En.next ?_
    refine WC.ret ?_
    refine En.ret1 rfl (Res.tmp rfl) ?_
    obtain rfl := Option.some.inj h
    intro w' hs
    have hs := hs
    exact ⟨_, _, rfl, ⟨fp_0e, rfl, rfl⟩, hs⟩
  ·
    intro zK0_0
    refine WC.loopP (G := (List Nat)) (fun s g => match s, g with | (v_0, v1_0, v2_0), fv_0 => [(0, .slice q0_0 n0_0 k0_0), (1, .int .i64 v1_0), (5, .int .i64 v2_0)]) (fun s g => match s, g with | (v_0, v1_0, v2_0), fv_0 => (Chunk.own tPlane fv_0 q0_0 n0_0 k0_0 v_0 :: C)) (a_p0, a_p1, 0) f0_0 ezy0 (by exact Sub.cons rfl (Sub.cons rfl (Sub.cons rfl (Sub.nil _)))) (by exact (fun _ h => h)) ?_
    rintro zm0 ⟨v_0, v1_0, v2_0⟩ fv_0 zo0 zf0 zb0 ze0
    have zh0 : laws_markPlaneS_L0 v_0 v1_0 v2_0 = some zo0 := zf0
    unfold laws_markPlaneS_L0 at zh0
    show WC _ _ _ _ _ [(0, .slice q0_0 n0_0 k0_0), (1, .int .i64 v1_0), (5, .int .i64 v2_0)] (Chunk.own tPlane fv_0 q0_0 n0_0 k0_0 v_0 :: C)
    refine WC.seq ?_
    refine WC.seq ?_
    refine WC.region ?_
    refine Lt.ofWL.step rfl rfl rfl (OpV.move rfl) ?_
    refine Lt.ofWL.step rfl rfl rfl (OpV.move rfl) ?_
    refine Lt.ofWL.step rfl rfl rfl (OpV.inhF fun hin => OpV.lenO (xs := v_0) rfl si_29 rfl (ownLen hin (.head _))) ?_
    refine Lt.ofWL.step rfl rfl rfl (OpV.lss rfl rfl) ?_
    refine WL.nil ?_
    refine En.next ?_
    refine WC.cond rfl ?_ ?_
    ·
      intro hc_1
      replace zh0 := ifO_t hc_1 zh0
      refine WC.skip ?_
      refine En.next ?_
      refine WC.seq ?_
      refine WC.block ?_
      refine WC.seq ?_
      refine WC.inh fun hin4 => ?_
      obtain ⟨x4_5, e4_5, zh0⟩ := bnd zh0
      obtain ⟨g4_5, ha4_5⟩ := ownAddr hin4 (.head _) e4_5
      have hn4_5 := ownLen hin4 (.head _)
      obtain ⟨x4_7, e4_7, zh0⟩ := bnd zh0
      refine WC.region ?_
      refine Lt.ofWL.step rfl rfl rfl (OpV.move rfl) ?_
      refine Lt.ofWL.step rfl rfl rfl (OpV.move rfl) ?_
      refine Lt.ofWL.step rfl rfl rfl (OpV.move rfl) ?_
      refine Lt.ofWL.step rfl rfl rfl (OpV.remR rfl rfl rfl) ?_
      refine Lt.ofWL.step rfl rfl rfl (OpV.eql rfl rfl) ?_
      refine Lt.ofWL.step rfl rfl rfl (OpV.idxA rfl rfl se_29 ha4_5 ⟨(idx_some e4_5).1, by rw [hn4_5]; exact (idx_some e4_5).2.1⟩) ?_
      refine Lt.ofWL.step rfl rfl rfl (OpV.fieldAddr rfl fo_82_0) ?_
      refine WL.heavy0 rfl rfl (OpH.setFld (F := []) (A := tPlane) (off := 0) (i := v2_0) (v' := (PlaneT.mk (decide ((Int.tmod v1_0 3) = 0)) x4_5.X x4_5.Y x4_5.W x4_5.H x4_5.Layout x4_5.Words x4_5.Alpha x4_5.Orient x4_5.ToW x4_5.ToH)) ha4_5 rfl rfl rfl ts_4 rfl rfl e4_5 (fun _ _ _ ⟨_, _, _, hp, he, h0⟩ => ⟨_, _, _, hp, by rw [he]; rfl, h0⟩) e4_7 ?_)
      refine WL.nil ?_
      refine En.next ?_
      refine WC.seq ?_
      refine WC.region ?_
      refine Lt.ofWL.step rfl rfl rfl (OpV.move rfl) ?_
      refine Lt.ofWL.step rfl rfl rfl (OpV.addR rfl rfl) ?_
      refine Lt.ofWL.step rfl rfl rfl (OpV.assign rfl) ?_
      refine WL.nil ?_
      refine En.next ?_
      refine WC.seq ?_
      refine WC.inh fun hin6 => ?_
      obtain ⟨x6_3, e6_3, zh0⟩ := bnd zh0
      obtain ⟨g6_3, ha6_3⟩ := ownAddr hin6 (.head _) e6_3
      have hn6_3 := ownLen hin6 (.head _)
      obtain ⟨x6_5, e6_5, zh0⟩ := bnd zh0
      refine WC.region ?_
      refine Lt.ofWL.step rfl rfl rfl (OpV.move rfl) ?_
      refine Lt.ofWL.step rfl rfl rfl (OpV.move rfl) ?_
      refine Lt.ofWL.step rfl rfl rfl (OpV.move rfl) ?_
      refine Lt.ofWL.step rfl rfl rfl (OpV.idxA rfl rfl se_29 ha6_3 ⟨(idx_some e6_3).1, by rw [hn6_3]; exact (idx_some e6_3).2.1⟩) ?_
      refine Lt.ofWL.step rfl rfl rfl (OpV.fieldAddr rfl fo_82_1) ?_
      refine WL.heavy0 rfl rfl (OpH.setFld (F := []) (A := tPlane) (off := 1) (i := v2_0) (v' := (PlaneT.mk x6_3.On (wr (v1_0 + 1)) x6_3.Y x6_3.W x6_3.H x6_3.Layout x6_3.Words x6_3.Alpha x6_3.Orient x6_3.ToW x6_3.ToH)) ha6_3 rfl rfl rfl ts_3 rfl rfl e6_3 (fun _ _ _ ⟨_, _, _, hp, he, h0⟩ => ⟨_, _, _, hp, by rw [he]; rfl, h0⟩) e6_5 ?_)
      refine WL.nil ?_
      refine En.next ?_
      refine WC.seq ?_
      refine WC.region ?_
      refine Lt.ofWL.step rfl rfl rfl (OpV.move rfl) ?_
      refine Lt.ofWL.step rfl rfl rfl (OpV.addR rfl rfl) ?_
      refine Lt.ofWL.step rfl rfl rfl (OpV.assign rfl) ?_
      refine WL.nil ?_
      refine En.next ?_
      refine WC.seq ?_
      refine WC.inh fun hin8 => ?_
      obtain ⟨x8_3, e8_3, zh0⟩ := bnd zh0
      obtain ⟨g8_3, ha8_3⟩ := ownAddr hin8 (.head _) e8_3
      have hn8_3 := ownLen hin8 (.head _)
      obtain ⟨x8_5, e8_5, zh0⟩ := bnd zh0
      refine WC.region ?_
      refine Lt.ofWL.step rfl rfl rfl (OpV.move rfl) ?_
      refine Lt.ofWL.step rfl rfl rfl (OpV.move rfl) ?_
      refine Lt.ofWL.step rfl rfl rfl (OpV.move rfl) ?_
      refine Lt.ofWL.step rfl rfl rfl (OpV.idxA rfl rfl se_29 ha8_3 ⟨(idx_some e8_3).1, by rw [hn8_3]; exact (idx_some e8_3).2.1⟩) ?_
      refine Lt.ofWL.step rfl rfl rfl (OpV.fieldAddr rfl fo_82_2) ?_
      refine WL.heavy0 rfl rfl (OpH.setFld (F := []) (A := tPlane) (off := 2) (i := v2_0) (v' := (PlaneT.mk x8_3.On x8_3.X (wr ((wr (v1_0 + 1)) + 1)) x8_3.W x8_3.H x8_3.Layout x8_3.Words x8_3.Alpha x8_3.Orient x8_3.ToW x8_3.ToH)) ha8_3 rfl rfl rfl ts_3 rfl rfl e8_3 (fun _ _ _ ⟨_, _, _, hp, he, h0⟩ => ⟨_, _, _, hp, by rw [he]; rfl, h0⟩) e8_5 ?_)
      refine WL.nil ?_
      refine En.next ?_
      refine WC.seq ?_
      refine WC.region ?_
      refine Lt.ofWL.step rfl rfl rfl (OpV.move rfl) ?_
      refine Lt.ofWL.step rfl rfl rfl (OpV.addR rfl rfl) ?_
      refine Lt.ofWL.step rfl rfl rfl (OpV.assign rfl) ?_
      refine WL.nil ?_
      refine En.next ?_
      refine WC.seq ?_
      refine WC.inh fun hin10 => ?_
      obtain ⟨x10_3, e10_3, zh0⟩ := bnd zh0
      obtain ⟨g10_3, ha10_3⟩ := ownAddr hin10 (.head _) e10_3
      have hn10_3 := ownLen hin10 (.head _)
      obtain ⟨x10_5, e10_5, zh0⟩ := bnd zh0
      refine WC.region ?_
      refine Lt.ofWL.step rfl rfl rfl (OpV.move rfl) ?_
      refine Lt.ofWL.step rfl rfl rfl (OpV.move rfl) ?_
      refine Lt.ofWL.step rfl rfl rfl (OpV.move rfl) ?_
      refine Lt.ofWL.step rfl rfl rfl (OpV.idxA rfl rfl se_29 ha10_3 ⟨(idx_some e10_3).1, by rw [hn10_3]; exact (idx_some e10_3).2.1⟩) ?_
      refine Lt.ofWL.step rfl rfl rfl (OpV.fieldAddr rfl fo_82_3) ?_
      refine WL.heavy0 rfl rfl (OpH.setFld (F := []) (A := tPlane) (off := 3) (i := v2_0) (v' := (PlaneT.mk x10_3.On x10_3.X x10_3.Y (wr ((wr ((wr (v1_0 + 1)) + 1)) + 1)) x10_3.H x10_3.Layout x10_3.Words x10_3.Alpha x10_3.Orient x10_3.ToW x10_3.ToH)) ha10_3 rfl rfl rfl ts_3 rfl rfl e10_3 (fun _ _ _ ⟨_, _, _, hp, he, h0⟩ => ⟨_, _, _, hp, by rw [he]; rfl, h0⟩) e10_5 ?_)
      refine WL.nil ?_
      refine En.next ?_
      refine WC.seq ?_
      refine WC.region ?_
      refine Lt.ofWL.step rfl rfl rfl (OpV.move rfl) ?_
      refine Lt.ofWL.step rfl rfl rfl (OpV.addR rfl rfl) ?_
      refine Lt.ofWL.step rfl rfl rfl (OpV.assign rfl) ?_
      refine WL.nil ?_
      refine En.next ?_
      refine WC.seq ?_
      refine WC.inh fun hin12 => ?_
      obtain ⟨x12_3, e12_3, zh0⟩ := bnd zh0
      obtain ⟨g12_3, ha12_3⟩ := ownAddr hin12 (.head _) e12_3
      have hn12_3 := ownLen hin12 (.head _)
      obtain ⟨x12_5, e12_5, zh0⟩ := bnd zh0
      refine WC.region ?_
      refine Lt.ofWL.step rfl rfl rfl (OpV.move rfl) ?_
      refine Lt.ofWL.step rfl rfl rfl (OpV.move rfl) ?_
      refine Lt.ofWL.step rfl rfl rfl (OpV.move rfl) ?_
      refine Lt.ofWL.step rfl rfl rfl (OpV.idxA rfl rfl se_29 ha12_3 ⟨(idx_some e12_3).1, by rw [hn12_3]; exact (idx_some e12_3).2.1⟩) ?_
      refine Lt.ofWL.step rfl rfl rfl (OpV.fieldAddr rfl fo_82_4) ?_
      refine WL.heavy0 rfl rfl (OpH.setFld (F := []) (A := tPlane) (off := 4) (i := v2_0) (v' := (PlaneT.mk x12_3.On x12_3.X x12_3.Y x12_3.W (wr ((wr ((wr ((wr (v1_0 + 1)) + 1)) + 1)) + 1)) x12_3.Layout x12_3.Words x12_3.Alpha x12_3.Orient x12_3.ToW x12_3.ToH)) ha12_3 rfl rfl rfl ts_3 rfl rfl e12_3 (fun _ _ _ ⟨_, _, _, hp, he, h0⟩ => ⟨_, _, _, hp, by rw [he]; rfl, h0⟩) e12_5 ?_)
      refine WL.nil ?_
      refine En.next ?_
      refine WC.seq ?_
      refine WC.region ?_
      refine Lt.ofWL.step rfl rfl rfl (OpV.move rfl) ?_
      refine Lt.ofWL.step rfl rfl rfl (OpV.addR rfl rfl) ?_
      refine Lt.ofWL.step rfl rfl rfl (OpV.assign rfl) ?_
      refine WL.nil ?_
      refine En.next ?_
      refine WC.seq ?_
      refine WC.inh fun hin14 => ?_
      obtain ⟨x14_3, e14_3, zh0⟩ := bnd zh0
      obtain ⟨g14_3, ha14_3⟩ := ownAddr hin14 (.head _) e14_3
      have hn14_3 := ownLen hin14 (.head _)
      obtain ⟨x14_5, e14_5, zh0⟩ := bnd zh0
      refine WC.region ?_
      refine Lt.ofWL.step rfl rfl rfl (OpV.move rfl) ?_
      refine Lt.ofWL.step rfl rfl rfl (OpV.move rfl) ?_
      refine Lt.ofWL.step rfl rfl rfl (OpV.move rfl) ?_
      refine Lt.ofWL.step rfl rfl rfl (OpV.idxA rfl rfl se_29 ha14_3 ⟨(idx_some e14_3).1, by rw [hn14_3]; exact (idx_some e14_3).2.1⟩) ?_
      refine Lt.ofWL.step rfl rfl rfl (OpV.fieldAddr rfl fo_82_5) ?_
      refine WL.heavy0 rfl rfl (OpH.setFld (F := []) (A := tPlane) (off := 5) (i := v2_0) (v' := (PlaneT.mk x14_3.On x14_3.X x14_3.Y x14_3.W x14_3.H (wr ((wr ((wr ((wr ((wr (v1_0 + 1)) + 1)) + 1)) + 1)) + 1)) x14_3.Words x14_3.Alpha x14_3.Orient x14_3.ToW x14_3.ToH)) ha14_3 rfl rfl rfl ts_3 rfl rfl e14_3 (fun _ _ _ ⟨_, _, _, hp, he, h0⟩ => ⟨_, _, _, hp, by rw [he]; rfl, h0⟩) e14_5 ?_)
      refine WL.nil ?_
      refine En.next ?_
      refine WC.seq ?_
      refine WC.region ?_
      refine Lt.ofWL.step rfl rfl rfl (OpV.move rfl) ?_
      refine Lt.ofWL.step rfl rfl rfl (OpV.addR rfl rfl) ?_
      refine Lt.ofWL.step rfl rfl rfl (OpV.assign rfl) ?_
      refine WL.nil ?_
      refine En.next ?_
      refine WC.seq ?_
      refine WC.inh fun hin16 => ?_
      obtain ⟨x16_2, e16_2, zh0⟩ := bnd zh0
      obtain ⟨g16_2, ha16_2⟩ := ownAddr hin16 (.head _) e16_2
      have hn16_2 := ownLen hin16 (.head _)
      obtain ⟨⟨x16_6a, x16_6b⟩, e16_6, zh0⟩ := bnd zh0
      obtain ⟨x16_u, e16_u, zh0⟩ := bnd zh0
      refine WC.exF (fun w h => St.focus (F := []) e16_2 h) ?_
      rintro ⟨css16_2, fps16_2, cs16_2, fz16_2⟩ ⟨hcs16_2, hk16_2⟩
      refine WC.exF (X := (Option Addr) × Nat × (List Nat)) (Pre := fun x => match x with | (a16_2_0, c16_2_0, f16_2_0) => cs16_2 = [.bool x16_2.On, .int .i64 x16_2.X, .int .i64 x16_2.Y, .int .i64 x16_2.W, .int .i64 x16_2.H, .int .i64 x16_2.Layout, .slice a16_2_0 x16_2.Words.length c16_2_0, .int .i64 x16_2.Alpha, .int .i64 x16_2.Orient, .int .i64 x16_2.ToW, .int .i64 x16_2.ToH]) (F' := fun x => match x with | (a16_2_0, c16_2_0, f16_2_0) => (Chunk.own tInt f16_2_0 a16_2_0 x16_2.Words.length c16_2_0 x16_2.Words :: Chunk.row tPlane.T tPlane.k q0_0 x14_5.length k0_0 css16_2.flatten :: Chunk.inX tPlane css16_2 fps16_2 x14_5 v2_0.toNat :: C)) (fun w h => let ⟨a16_2_0, c16_2_0, f16_2_0, e, hs⟩ := tPlane_open (F := []) h; ⟨(a16_2_0, c16_2_0, f16_2_0), e, hs⟩) ?_
      rintro ⟨a16_2_0, c16_2_0, f16_2_0⟩ hz16_2
      replace hz16_2 : cs16_2 = [.bool x16_2.On, .int .i64 x16_2.X, .int .i64 x16_2.Y, .int .i64 x16_2.W, .int .i64 x16_2.H, .int .i64 x16_2.Layout, .slice a16_2_0 x16_2.Words.length c16_2_0, .int .i64 x16_2.Alpha, .int .i64 x16_2.Orient, .int .i64 x16_2.ToW, .int .i64 x16_2.ToH] := hz16_2
      subst hz16_2
      show WC _ _ _ _ _ _ (Chunk.own tInt f16_2_0 a16_2_0 x16_2.Words.length c16_2_0 x16_2.Words :: Chunk.row tPlane.T tPlane.k q0_0 x14_5.length k0_0 css16_2.flatten :: Chunk.inX tPlane css16_2 fps16_2 x14_5 v2_0.toNat :: C)
      refine WC.region ?_
      refine Lt.ofWL.step rfl rfl rfl (OpV.move rfl) ?_
      refine Lt.ofWL.step rfl rfl rfl (OpV.move rfl) ?_
      refine Lt.ofWL.step rfl rfl rfl (OpV.idxA rfl rfl se_29 ha16_2 ⟨(idx_some e16_2).1, by rw [hn16_2]; exact (idx_some e16_2).2.1⟩) ?_
      refine Lt.ofWL.step rfl rfl rfl (OpV.fieldAddr rfl fo_82_6) ?_
      refine Lt.ofWL.step rfl rfl rfl (OpV.load1 rfl pt_23 (fun w hs => focCell (j := 6) (hs.mem (.tail _ (.head _))) hk16_2 hcs16_2 ha16_2 rfl)) ?_
      refine Lt.ofWL.step rfl rfl rfl (OpV.move rfl) ?_
      refine WL.heavy rfl rfl rfl (OpH.callX (evs.cons rfl (evs.cons rfl (evs.nil))) ca_20 (fun w hs => w_laws_markIntS e16_6 hs) ?_)
      rintro _ _ ⟨g16_600, rfl, rfl⟩
      refine Lt.ofWL.step rfl rfl rfl (OpV.assign rfl) ?_
      refine WL.nil ?_
      refine En.exF (fun w h => St.unfocus (F := []) hcs16_2 hn16_2 e16_u (tPlane_mk x16_2.On x16_2.X x16_2.Y x16_2.W x16_2.H x16_2.Layout x16_6b x16_2.Alpha x16_2.Orient x16_2.ToW x16_2.ToH h)) ?_
      rintro fp16_u _
      refine En.next ?_
      refine WC.seq ?_
      refine WC.inh fun hin17 => ?_
      obtain ⟨x17_3, e17_3, zh0⟩ := bnd zh0
      obtain ⟨g17_3, ha17_3⟩ := ownAddr hin17 (.head _) e17_3
      have hn17_3 := ownLen hin17 (.head _)
      obtain ⟨x17_5, e17_5, zh0⟩ := bnd zh0
      refine WC.region ?_
      refine Lt.ofWL.step rfl rfl rfl (OpV.move rfl) ?_
      refine Lt.ofWL.step rfl rfl rfl (OpV.move rfl) ?_
      refine Lt.ofWL.step rfl rfl rfl (OpV.move rfl) ?_
      refine Lt.ofWL.step rfl rfl rfl (OpV.idxA rfl rfl se_29 ha17_3 ⟨(idx_some e17_3).1, by rw [hn17_3]; exact (idx_some e17_3).2.1⟩) ?_
      refine Lt.ofWL.step rfl rfl rfl (OpV.fieldAddr rfl fo_82_7) ?_
      refine WL.heavy0 rfl rfl (OpH.setFld (F := []) (A := tPlane) (off := 7) (i := v2_0) (v' := (PlaneT.mk x17_3.On x17_3.X x17_3.Y x17_3.W x17_3.H x17_3.Layout x17_3.Words x16_6a x17_3.Orient x17_3.ToW x17_3.ToH)) ha17_3 rfl rfl rfl ts_3 rfl rfl e17_3 (fun _ _ _ ⟨_, _, _, hp, he, h0⟩ => ⟨_, _, _, hp, by rw [he]; rfl, h0⟩) e17_5 ?_)
      refine WL.nil ?_
      refine En.next ?_
      refine WC.seq ?_
      refine WC.region ?_
      refine Lt.ofWL.step rfl rfl rfl (OpV.move rfl) ?_
      refine Lt.ofWL.step rfl rfl rfl (OpV.addR rfl rfl) ?_
      refine Lt.ofWL.step rfl rfl rfl (OpV.assign rfl) ?_
      refine WL.nil ?_
      refine En.next ?_
      refine WC.seq ?_
      refine WC.inh fun hin19 => ?_
      obtain ⟨x19_3, e19_3, zh0⟩ := bnd zh0
      obtain ⟨g19_3, ha19_3⟩ := ownAddr hin19 (.head _) e19_3
      have hn19_3 := ownLen hin19 (.head _)
      obtain ⟨x19_5, e19_5, zh0⟩ := bnd zh0
      refine WC.region ?_
      refine Lt.ofWL.step rfl rfl rfl (OpV.move rfl) ?_
      refine Lt.ofWL.step rfl rfl rfl (OpV.move rfl) ?_
      refine Lt.ofWL.step rfl rfl rfl (OpV.move rfl) ?_
      refine Lt.ofWL.step rfl rfl rfl (OpV.idxA rfl rfl se_29 ha19_3 ⟨(idx_some e19_3).1, by rw [hn19_3]; exact (idx_some e19_3).2.1⟩) ?_
      refine Lt.ofWL.step rfl rfl rfl (OpV.fieldAddr rfl fo_82_8) ?_
      refine WL.heavy0 rfl rfl (OpH.setFld (F := []) (A := tPlane) (off := 8) (i := v2_0) (v' := (PlaneT.mk x19_3.On x19_3.X x19_3.Y x19_3.W x19_3.H x19_3.Layout x19_3.Words x19_3.Alpha (wr (x16_6a + 1)) x19_3.ToW x19_3.ToH)) ha19_3 rfl rfl rfl ts_3 rfl rfl e19_3 (fun _ _ _ ⟨_, _, _, hp, he, h0⟩ => ⟨_, _, _, hp, by rw [he]; rfl, h0⟩) e19_5 ?_)
      refine WL.nil ?_
      refine En.next ?_
      refine WC.seq ?_
      refine WC.region ?_
      refine Lt.ofWL.step rfl rfl rfl (OpV.move rfl) ?_
      refine Lt.ofWL.step rfl rfl rfl (OpV.addR rfl rfl) ?_
      refine Lt.ofWL.step rfl rfl rfl (OpV.assign rfl) ?_
      refine WL.nil ?_
      refine En.next ?_
      refine WC.seq ?_
      refine WC.inh fun hin21 => ?_
      obtain ⟨x21_3, e21_3, zh0⟩ := bnd zh0
      obtain ⟨g21_3, ha21_3⟩ := ownAddr hin21 (.head _) e21_3
      have hn21_3 := ownLen hin21 (.head _)
      obtain ⟨x21_5, e21_5, zh0⟩ := bnd zh0
      refine WC.region ?_
      refine Lt.ofWL.step rfl rfl rfl (OpV.move rfl) ?_
      refine Lt.ofWL.step rfl rfl rfl (OpV.move rfl) ?_
      refine Lt.ofWL.step rfl rfl rfl (OpV.move rfl) ?_
      refine Lt.ofWL.step rfl rfl rfl (OpV.idxA rfl rfl se_29 ha21_3 ⟨(idx_some e21_3).1, by rw [hn21_3]; exact (idx_some e21_3).2.1⟩) ?_
      refine Lt.ofWL.step rfl rfl rfl (OpV.fieldAddr rfl fo_82_9) ?_
      refine WL.heavy0 rfl rfl (OpH.setFld (F := []) (A := tPlane) (off := 9) (i := v2_0) (v' := (PlaneT.mk x21_3.On x21_3.X x21_3.Y x21_3.W x21_3.H x21_3.Layout x21_3.Words x21_3.Alpha x21_3.Orient (wr ((wr (x16_6a + 1)) + 1)) x21_3.ToH)) ha21_3 rfl rfl rfl ts_3 rfl rfl e21_3 (fun _ _ _ ⟨_, _, _, hp, he, h0⟩ => ⟨_, _, _, hp, by rw [he]; rfl, h0⟩) e21_5 ?_)
      refine WL.nil ?_
      refine En.next ?_
      refine WC.seq ?_
      refine WC.region ?_
      refine Lt.ofWL.step rfl rfl rfl (OpV.move rfl) ?_
      refine Lt.ofWL.step rfl rfl rfl (OpV.addR rfl rfl) ?_
      refine Lt.ofWL.step rfl rfl rfl (OpV.assign rfl) ?_
      refine WL.nil ?_
      refine En.next ?_
      refine WC.seq ?_
      refine WC.inh fun hin23 => ?_
      obtain ⟨x23_3, e23_3, zh0⟩ := bnd zh0
      obtain ⟨g23_3, ha23_3⟩ := ownAddr hin23 (.head _) e23_3
      have hn23_3 := ownLen hin23 (.head _)
      obtain ⟨x23_5, e23_5, zh0⟩ := bnd zh0
      refine WC.region ?_
      refine Lt.ofWL.step rfl rfl rfl (OpV.move rfl) ?_
      refine Lt.ofWL.step rfl rfl rfl (OpV.move rfl) ?_
      refine Lt.ofWL.step rfl rfl rfl (OpV.move rfl) ?_
      refine Lt.ofWL.step rfl rfl rfl (OpV.idxA rfl rfl se_29 ha23_3 ⟨(idx_some e23_3).1, by rw [hn23_3]; exact (idx_some e23_3).2.1⟩) ?_
      refine Lt.ofWL.step rfl rfl rfl (OpV.fieldAddr rfl fo_82_10) ?_
      refine WL.heavy0 rfl rfl (OpH.setFld (F := []) (A := tPlane) (off := 10) (i := v2_0) (v' := (PlaneT.mk x23_3.On x23_3.X x23_3.Y x23_3.W x23_3.H x23_3.Layout x23_3.Words x23_3.Alpha x23_3.Orient x23_3.ToW (wr ((wr ((wr (x16_6a + 1)) + 1)) + 1)))) ha23_3 rfl rfl rfl ts_3 rfl rfl e23_3 (fun _ _ _ ⟨_, _, _, hp, he, h0⟩ => ⟨_, _, _, hp, by rw [he]; rfl, h0⟩) e23_5 ?_)
      refine WL.nil ?_
      refine En.next ?_
      refine WC.region ?_
      refine Lt.ofWL.step rfl rfl rfl (OpV.move rfl) ?_
      refine Lt.ofWL.step rfl rfl rfl (OpV.addR rfl rfl) ?_
      refine Lt.ofWL.step rfl rfl rfl (OpV.assign rfl) ?_
      refine WL.nil ?_
      refine En.block_norm ?_
      refine En.next ?_
      refine WC.region ?_
      refine Lt.ofWL.step rfl rfl rfl (OpV.move rfl) ?_
      refine Lt.ofWL.step rfl rfl rfl (OpV.addR rfl rfl) ?_
      refine Lt.ofWL.step rfl rfl rfl (OpV.assign rfl) ?_
      refine WL.nil ?_
      exact En.backP zb0 zh0 fp16_u (Sub.cons rfl (Sub.cons rfl (Sub.cons rfl (Sub.nil _)))) (fun _ h => h)
    ·
      intro hc_1
      replace zh0 := ifO_f hc_1 zh0
      refine WC.exit ?_
      refine En.then_exit ?_
      refine En.then_exit ?_
      have hx := exitP ze0 zh0
      exact En.wk _ _ (Sub.cons rfl (Sub.nil _)) (fun _ h => h) (zK0_0 ((v1_0, v_0), fv_0) hx.symm)

theorem w_laws_markColorMap {a_p0 : ColorMapT} {k_p1 : Int} {r : Int × (List Int) × (List Int)} {q0_0 : Option Addr} {n0_0 k0_0 : Nat} {f0_0 : List Nat} {q0_1 : Option Addr} {n0_1 k0_1 : Nat} {f0_1 : List Nat} (h : laws_markColorMap a_p0 k_p1 = some r) {w0 w : World} {C : List Chunk} (hs0 : St w0 (Chunk.own tInt f0_0 q0_0 n0_0 k0_0 a_p0.Matrix :: Chunk.own tInt f0_1 q0_1 n0_1 k0_1 a_p0.Curve :: C) w)  :
    Calls Tryz.prog 19 #[.agg #[.slice q0_0 n0_0 k0_0, .slice q0_1 n0_1 k0_1], .int .i64 k_p1] w (fun en w' => ∃ rv G, en = .returned rv ∧ (∃ (g0_0 : List Nat) (g0_1 : List Nat), rv = .int .i64 r.1 ∧ G = Chunk.own tInt g0_0 q0_0 n0_0 k0_0 r.2.1 :: Chunk.own tInt g0_1 q0_1 n0_1 k0_1 r.2.2 :: C) ∧ St w0 G w') := by
  unfold laws_markColorMap at h
  refine enterF hs0 (vs := [_, _]) Tryz.func19 rfl rfl rfl rfl ?_
  refine WC.seq ?_
  refine WC.region ?_
  refine WL.heavy rfl rfl rfl (OpH.box rfl rfl ?_)
  intro b0_0
  refine Lt.ofWL.step rfl rfl rfl (OpV.assign rfl) ?_
  refine WL.nil ?_
  refine En.next ?_
  refine WC.seq ?_
  obtain ⟨⟨x1_3a, x1_3b⟩, e1_3, h⟩ := bnd h
  refine WC.region ?_
  refine Lt.ofWL.step rfl rfl rfl (OpV.fieldAddr rfl fo_31_0) ?_
  refine Lt.ofWL.step rfl rfl rfl (OpV.loadBox rfl pt_23 (.head _) rfl) ?_
  refine Lt.ofWL.step rfl rfl rfl (OpV.move rfl) ?_
  refine WL.wkF (fun _ h => h.perm (List.perm_middle (l₁ := [_]))) ?_
  refine WL.heavy rfl rfl rfl (OpH.callX (evs.cons rfl (evs.cons rfl (evs.nil))) ca_20 (fun w hs => w_laws_markIntS e1_3 hs) ?_)
  rintro _ _ ⟨g1_300, rfl, rfl⟩
  refine Lt.ofWL.step rfl rfl rfl (OpV.assign rfl) ?_
  refine WL.nil ?_
  refine En.next ?_
  refine WC.seq ?_
  obtain ⟨⟨x2_3a, x2_3b⟩, e2_3, h⟩ := bnd h
  refine WC.region ?_
  refine Lt.ofWL.step rfl rfl rfl (OpV.fieldAddr rfl fo_31_1) ?_
  refine Lt.ofWL.step rfl rfl rfl (OpV.loadBox rfl pt_23 (.tail _ (.head _)) rfl) ?_
  refine Lt.ofWL.step rfl rfl rfl (OpV.move rfl) ?_
  refine WL.wkF (fun _ h => h.perm (List.perm_middle (l₁ := [_, _]))) ?_
  refine WL.heavy rfl rfl rfl (OpH.callX (evs.cons rfl (evs.cons rfl (evs.nil))) ca_20 (fun w hs => w_laws_markIntS e2_3 hs) ?_)
  rintro _ _ ⟨g2_300, rfl, rfl⟩
  refine Lt.ofWL.step rfl rfl rfl (OpV.assign rfl) ?_
  refine WL.nil ?_
  refine En.next ?_
  refine WC.seq ?_
  refine WC.region ?_
  refine Lt.ofWL.step rfl rfl rfl (OpV.move rfl) ?_
  refine Lt.ofWL.step rfl rfl rfl (OpV.assign rfl) ?_
  refine WL.nil ?_
  refine En.next ?_
  refine WC.ret ?_
  refine En.ret1 rfl (Res.tmp rfl) ?_
  obtain rfl := Option.some.inj h
  intro w' hs
  have hs := ((hs).perm (List.perm_middle (l₁ := [_]))).sub (.cons_cons _ (.cons_cons _ (.cons _ (List.Sublist.refl _))))
  exact ⟨_, _, rfl, ⟨g1_300, g2_300, rfl, rfl⟩, hs⟩

theorem w_laws_heldIntS {a_p0 : List Int} {k_p1 : Int} {r : Int} {q0_0 : Option Addr} {n0_0 k0_0 : Nat} (h : laws_heldIntS a_p0 k_p1 = some r) {w : World} (r0_0 : Rd tInt w q0_0 n0_0 k0_0 a_p0)   :
    Calls Tryz.prog 21 #[.slice q0_0 n0_0 k0_0, .int .i64 k_p1] w (fun en w' => en = .returned (.int .i64 r) ∧ Ext w w') := by
  obtain rfl := r0_0.1
  unfold laws_heldIntS at h
  refine enter (vs := [_, _]) Tryz.func21 rfl rfl rfl rfl ?_
  refine WC.seq ?_
  refine WC.region ?_
  refine Lt.ofWL.step rfl rfl rfl (OpV.assign rfl) ?_
  refine WL.nil ?_
  refine En.next ?_
  refine WC.seq ?_
  refine WC.seq ?_
  refine WC.region ?_
  refine Lt.ofWL.step rfl rfl rfl (OpV.assign rfl) ?_
  refine WL.nil ?_
  refine En.next ?_
  refine WC.block ?_
  obtain ⟨zy0, ezy0, h⟩ := bnd h
  refine WC.cut (X := (Int) × (Unit)) (.exit 0) (fun x => zy0 = .inl x.1) (fun x => match x with | (k_0e, ()) => [(1, .int .i64 k_0e)]) (fun x => match x with | (k_0e, ()) => []) ?_ ?_
  ·
    rintro ⟨k_0e, ⟨⟩⟩ hx
    replace hx : .inl k_0e = zy0 := hx.symm
    subst hx
    replace h := fork_l h
    show En _ _ _ _ [(1, .int .i64 k_0e)] []
    refine En.block_exit ?_
    refine En.next ?_
    refine WC.seq ?_
    refine WC.region ?_
    refine Lt.ofWL.step rfl rfl rfl (OpV.move rfl) ?_
    refine Lt.ofWL.step rfl rfl rfl (OpV.assign rfl) ?_
    refine WL.nil ?_
    refine En.next ?_
    refine WC.ret ?_
    refine En.ret1 rfl (Res.tmp rfl) ?_
    obtain rfl := Option.some.inj h
    intro w' hs
    exact ⟨rfl, hs.below⟩
  ·
    intro zK0_0
    refine WC.loopP (G := Unit) (fun s g => match s, g with | (k_0, i_0), () => [(0, .slice q0_0 a_p0.length k0_0), (1, .int .i64 k_0), (5, .int .i64 i_0)]) (fun s g => match s, g with | (k_0, i_0), () => []) (k_p1, 0) () ezy0 (by exact Sub.cons rfl (Sub.cons rfl (Sub.cons rfl (Sub.nil _)))) (by exact (fun _ h => h)) ?_
    rintro zm0 ⟨k_0, i_0⟩ ⟨⟩ zo0 zf0 zb0 ze0
    have zh0 : laws_heldIntS_L0 a_p0 k_0 i_0 = some zo0 := zf0
    unfold laws_heldIntS_L0 at zh0
    show WC _ _ _ _ _ [(0, .slice q0_0 a_p0.length k0_0), (1, .int .i64 k_0), (5, .int .i64 i_0)] []
    refine WC.seq ?_
    refine WC.seq ?_
    refine WC.region ?_
    refine Lt.ofWL.step rfl rfl rfl (OpV.move rfl) ?_
    refine Lt.ofWL.step rfl rfl rfl (OpV.move rfl) ?_
    refine Lt.ofWL.step rfl rfl rfl (OpV.len rfl si_23 rfl) ?_
    refine Lt.ofWL.step rfl rfl rfl (OpV.lss rfl rfl) ?_
    refine WL.nil ?_
    refine En.next ?_
    refine WC.cond rfl ?_ ?_
    ·
      intro hc_1
      replace zh0 := ifO_t hc_1 zh0
      refine WC.skip ?_
      refine En.next ?_
      refine WC.seq ?_
      refine WC.block ?_
      refine WC.seq ?_
      refine WC.seq ?_
      obtain ⟨x4_2, e4_2, zh0⟩ := bnd zh0
      obtain ⟨g4_2, o4_2, _, ha4_2, rfl, hd4_2⟩ := Rd.atIdx r0_0 e4_2
      replace hd4_2 : ∀ (j : Nat) v, ([.int .i64 x4_2] : List Value)[j]? = some v → w.cell? ⟨g4_2, o4_2 + i_0.toNat * 1 + j, .none⟩ = some v := hd4_2
      refine WC.region ?_
      refine Lt.ofWL.step rfl rfl rfl (OpV.move rfl) ?_
      refine Lt.ofWL.step rfl rfl rfl (OpV.move rfl) ?_
      refine Lt.ofWL.step rfl rfl rfl (OpV.idxA rfl rfl se_23 ha4_2 ⟨(idx_some e4_2).1, (idx_some e4_2).2.1⟩) ?_
      refine Lt.ofWL.step rfl rfl rfl (OpV.load1 rfl pt_3 (fun w hs => hs.cell (hd4_2 0 _ rfl))) ?_
      refine Lt.ofWL.step rfl rfl rfl (OpV.move rfl) ?_
      refine Lt.ofWL.step rfl rfl rfl (OpV.neq rfl rfl) ?_
      refine WL.nil ?_
      refine En.next ?_
      refine WC.cond rfl ?_ ?_
      ·
        intro hc_2
        replace zh0 := ifO_t hc_2 zh0
        refine WC.seq ?_
        refine WC.region ?_
        refine Lt.ofWL.step rfl rfl rfl (OpV.assign rfl) ?_
        refine WL.nil ?_
        refine En.next ?_
        refine WC.ret ?_
        refine En.then_ret ?_
        refine En.block_ret ?_
        refine En.then_ret ?_
        refine En.then_ret ?_
        refine En.block_ret ?_
        refine En.then_ret ?_
        refine En.ret1 rfl (Res.tmp rfl) ?_
        have hx := exitP ze0 zh0
        subst hx
        replace h := fork_r h
        obtain rfl := Option.some.inj h
        intro w' hs
        exact ⟨rfl, hs.below⟩
      ·
        intro hc_2
        replace zh0 := ifO_f hc_2 zh0
        refine WC.skip ?_
        refine En.next ?_
        refine WC.region ?_
        refine Lt.ofWL.step rfl rfl rfl (OpV.move rfl) ?_
        refine Lt.ofWL.step rfl rfl rfl (OpV.addR rfl rfl) ?_
        refine Lt.ofWL.step rfl rfl rfl (OpV.assign rfl) ?_
        refine WL.nil ?_
        refine En.block_norm ?_
        refine En.next ?_
        refine WC.region ?_
        refine Lt.ofWL.step rfl rfl rfl (OpV.move rfl) ?_
        refine Lt.ofWL.step rfl rfl rfl (OpV.addR rfl rfl) ?_
        refine Lt.ofWL.step rfl rfl rfl (OpV.assign rfl) ?_
        refine WL.nil ?_
        exact En.backP zb0 zh0 () (Sub.cons rfl (Sub.cons rfl (Sub.cons rfl (Sub.nil _)))) (fun _ h => h)
    ·
      intro hc_1
      replace zh0 := ifO_f hc_1 zh0
      refine WC.exit ?_
      refine En.then_exit ?_
      refine En.then_exit ?_
      have hx := exitP ze0 zh0
      exact En.wk _ _ (Sub.cons rfl (Sub.nil _)) (fun _ h => h) (zK0_0 (k_0, ()) hx.symm)

theorem w_laws_FnExactScanDots {a_p0 : List PlaneT} {a_p1 : Int} {a_p2 : Int} {a_p3 : ColorMapT} {a_p4 : Int} {r : Bool} {q0_0 : Option Addr} {n0_0 k0_0 : Nat} {q3_0 : Option Addr} {n3_0 k3_0 : Nat} {q3_1 : Option Addr} {n3_1 k3_1 : Nat} (h : laws_FnExactScanDots a_p0 a_p1 a_p2 a_p3 a_p4 = some r) {w : World} (r0_0 : Rd tPlane w q0_0 n0_0 k0_0 a_p0) (r3_0 : Rd tInt w q3_0 n3_0 k3_0 a_p3.Matrix) (r3_1 : Rd tInt w q3_1 n3_1 k3_1 a_p3.Curve)   :
    Calls Tryz.prog 3 #[.slice q0_0 n0_0 k0_0, .int .i64 a_p1, .int .i64 a_p2, .agg #[.slice q3_0 n3_0 k3_0, .slice q3_1 n3_1 k3_1], .int .i64 a_p4] w (fun en w' => en = .returned (.bool r) ∧ Ext w w') := by
  obtain rfl := r0_0.1
  obtain rfl := r3_0.1
  obtain rfl := r3_1.1
  unfold laws_FnExactScanDots at h
  refine enter (vs := [_, _, _, _, _]) Tryz.func3 rfl rfl rfl rfl ?_
  refine WC.seq ?_
  refine WC.region ?_
  refine WL.heavy rfl rfl rfl (OpH.box rfl rfl ?_)
  intro b0_0
  refine Lt.ofWL.step rfl rfl rfl (OpV.assign rfl) ?_
  refine WL.nil ?_
  refine En.next ?_
  refine WC.seq ?_
  refine WC.region ?_
  refine Lt.ofWL.step rfl rfl rfl (OpV.assign rfl) ?_
  refine WL.nil ?_
  refine En.next ?_
  refine WC.seq ?_
  obtain ⟨x2_2, e2_2, h⟩ := bnd h
  refine WC.region ?_
  refine Lt.ofWL.step rfl rfl rfl (OpV.move rfl) ?_
  refine Lt.ofWL.step rfl rfl rfl (OpV.move rfl) ?_
  refine Lt.ofWL.step rfl rfl rfl (OpV.call (evs.cons rfl (evs.cons rfl (evs.nil))) ca_9 (fun w hs => w_laws_szPlaneS e2_2 (r0_0.ext hs.below))) ?_
  refine Lt.ofWL.step rfl rfl rfl (OpV.assign rfl) ?_
  refine WL.nil ?_
  refine En.next ?_
  refine WC.seq ?_
  refine WC.seq ?_
  refine WC.region ?_
  refine Lt.ofWL.step rfl rfl rfl (OpV.move rfl) ?_
  refine Lt.ofWL.step rfl rfl rfl (OpV.lss rfl rfl) ?_
  refine WL.nil ?_
  refine En.next ?_
  refine WC.cond rfl ?_ ?_
  ·
    intro hc_1
    replace h := ifO_t hc_1 h
    refine WC.seq ?_
    refine WC.region ?_
    refine Lt.ofWL.step rfl rfl rfl (OpV.assign rfl) ?_
    refine WL.nil ?_
    refine En.next ?_
    refine WC.ret ?_
    refine En.then_ret ?_
    refine En.ret1 rfl (Res.tmp rfl) ?_
    obtain rfl := Option.some.inj h
    intro w' hs
    exact ⟨rfl, hs.below⟩
  ·
    intro hc_1
    replace h := ifO_f hc_1 h
    refine WC.skip ?_
    refine En.next ?_
    refine WC.seq ?_
    obtain ⟨x5_2, e5_2, h⟩ := bnd h
    refine WC.region ?_
    refine Lt.ofWL.step rfl rfl rfl (OpV.loadAll rfl (.head _) ag_25) ?_
    refine Lt.ofWL.step rfl rfl rfl (OpV.move rfl) ?_
    refine Lt.ofWL.step rfl rfl rfl (OpV.call (evs.cons rfl (evs.cons rfl (evs.nil))) ca_10 (fun w hs => w_laws_szColorMap e5_2 (r3_0.ext hs.below) (r3_1.ext hs.below))) ?_
    refine Lt.ofWL.step rfl rfl rfl (OpV.assign rfl) ?_
    refine WL.nil ?_
    refine En.next ?_
    refine WC.seq ?_
    refine WC.seq ?_
    refine WC.region ?_
    refine Lt.ofWL.step rfl rfl rfl (OpV.move rfl) ?_
    refine Lt.ofWL.step rfl rfl rfl (OpV.lss rfl rfl) ?_
    refine WL.nil ?_
    refine En.next ?_
    refine WC.cond rfl ?_ ?_
    ·
      intro hc_2
      replace h := ifO_t hc_2 h
      refine WC.seq ?_
      refine WC.region ?_
      refine Lt.ofWL.step rfl rfl rfl (OpV.assign rfl) ?_
      refine WL.nil ?_
      refine En.next ?_
      refine WC.ret ?_
      refine En.then_ret ?_
      refine En.ret1 rfl (Res.tmp rfl) ?_
      obtain rfl := Option.some.inj h
      intro w' hs
      exact ⟨rfl, hs.below⟩
    ·
      intro hc_2
      replace h := ifO_f hc_2 h
      refine WC.skip ?_
      refine En.next ?_
      refine WC.seq ?_
      obtain ⟨x8_1, e8_1, h⟩ := bnd h
      obtain ⟨x8_5, e8_5, h⟩ := bnd h
      obtain ⟨x8_7, e8_7, h⟩ := bnd h
      refine WC.drawnH [] ([_]) (fun _ h => h) (by kernel_rfl) ?_
      refine WAE.take (i := 0) rfl (by kernel_rfl) (by kernel_rfl) (by kernel_rfl) rfl rfl rfl (OpV.move rfl) ?_
      refine WAE.take (i := 2) rfl (by kernel_rfl) (by kernel_rfl) (by kernel_rfl) rfl rfl rfl (OpV.move rfl) ?_
      refine WAE.take (i := 3) rfl (by kernel_rfl) (by kernel_rfl) (by kernel_rfl) rfl rfl rfl (OpV.move rfl) ?_
      refine WAE.take (i := 4) rfl (by kernel_rfl) (by kernel_rfl) (by kernel_rfl) rfl rfl rfl (OpV.loadAll rfl (.head _) ag_25) ?_
      refine WAE.take (i := 6) rfl (by kernel_rfl) (by kernel_rfl) (by kernel_rfl) rfl rfl rfl (OpV.move rfl) ?_
      refine WAE.all (rs := [1]) (by kernel_rfl) rfl (AllR.cons rfl rfl rfl rfl ?_ AllR.nil)
      refine OpH.callR (evs.cons rfl (evs.nil)) ca_12 (fun w hs => w_laws_toPlaneS e8_1 (r0_0.ext hs.below)) ?_
      rintro _ _ ⟨a8_100, n8_100, c8_100, f8_100, rfl, rfl⟩
      refine ⟨[_], rfl, ?_⟩
      refine WAE.rebase (H := []) ?_
      refine WAE.all (rs := [5]) (by kernel_rfl) rfl (AllR.cons rfl rfl rfl rfl ?_ AllR.nil)
      refine OpH.callR (evs.cons rfl (evs.nil)) ca_13 (fun w hs => w_laws_toColorMap e8_5 (r3_0.ext hs.below) (r3_1.ext hs.below)) ?_
      rintro _ _ ⟨a8_500, n8_500, c8_500, f8_500, a8_501, n8_501, c8_501, f8_501, rfl, rfl⟩
      refine ⟨[_, _], rfl, ?_⟩
      refine WAE.rebase (H := []) ?_
      refine WAE.all (rs := [7]) (by kernel_rfl) rfl (AllR.cons rfl rfl rfl rfl ?_ AllR.nil)
      refine OpH.callR (evs.cons rfl (evs.cons rfl (evs.cons rfl (evs.cons rfl (evs.cons rfl (evs.nil)))))) ca_11 (fun w hs => w_spec_ScanDots e8_7 (Ow.rd (hs.mem (.tail _ (.tail _ (.head _))))) (Ow.rd (hs.mem (.head _))) (Ow.rd (hs.mem (.tail _ (.head _))))) ?_
      rintro _ _ ⟨a8_700, n8_700, c8_700, f8_700, rfl, rfl⟩
      refine ⟨[_], rfl, ?_⟩
      refine WAE.rebase (H := []) ?_
      refine WAE.take (i := 8) rfl (by kernel_rfl) (by kernel_rfl) (by kernel_rfl) rfl rfl rfl (OpV.assign rfl) ?_
      refine WAE.done (by kernel_rfl) ?_ _
      refine En.next ?_
      refine WC.seq ?_
      obtain ⟨x9_1, e9_1, h⟩ := bnd h
      refine WC.region ?_
      refine Lt.ofWL.step rfl rfl rfl (OpV.move rfl) ?_
      refine WL.heavy rfl rfl rfl (OpH.callR (evs.cons rfl (evs.nil)) ca_12 (fun w hs => w_laws_toPlaneS e9_1 (r0_0.ext hs.below)) ?_)
      rintro _ _ ⟨a9_100, n9_100, c9_100, f9_100, rfl, rfl⟩
      refine Lt.ofWL.step rfl rfl rfl (OpV.assign rfl) ?_
      refine WL.nil ?_
      refine En.next ?_
      refine WC.seq ?_
      obtain ⟨x10_1, e10_1, h⟩ := bnd h
      refine WC.region ?_
      refine Lt.ofWL.step rfl rfl rfl (OpV.loadAll rfl (.tail _ (.tail _ (.tail _ (.tail _ (.tail _ (.head _)))))) ag_25) ?_
      refine WL.heavy rfl rfl rfl (OpH.callR (evs.cons rfl (evs.nil)) ca_13 (fun w hs => w_laws_toColorMap e10_1 (r3_0.ext hs.below) (r3_1.ext hs.below)) ?_)
      rintro _ _ ⟨a10_100, n10_100, c10_100, f10_100, a10_101, n10_101, c10_101, f10_101, rfl, rfl⟩
      refine WL.heavy rfl rfl rfl (OpH.alloc zc_31 ?_)
      intro b10_2
      refine WL.heavy0 rfl rfl (OpH.storeTo (A := []) [_, _] rfl rfl rfl ts_31 rfl rfl rfl ?_)
      refine WL.nil ?_
      refine En.next ?_
      refine WC.seq ?_
      obtain ⟨x11_5, e11_5, h⟩ := bnd h
      refine WC.region ?_
      refine Lt.ofWL.step rfl rfl rfl (OpV.move rfl) ?_
      refine Lt.ofWL.step rfl rfl rfl (OpV.move rfl) ?_
      refine Lt.ofWL.step rfl rfl rfl (OpV.move rfl) ?_
      refine Lt.ofWL.step rfl rfl rfl (OpV.loadAll rfl (.head _) ag_31) ?_
      refine Lt.ofWL.step rfl rfl rfl (OpV.move rfl) ?_
      refine WL.heavy rfl rfl rfl (OpH.callR (evs.cons rfl (evs.cons rfl (evs.cons rfl (evs.cons rfl (evs.cons rfl (evs.nil)))))) ca_14 (fun w hs => w_impl_ScanDots e11_5 (Ow.rd (hs.mem (.tail _ (.tail _ (.tail _ (.head _)))))) (Ow.rd (hs.mem (.tail _ (.head _)))) (Ow.rd (hs.mem (.tail _ (.tail _ (.head _)))))) ?_)
      rintro _ _ ⟨a11_500, n11_500, c11_500, f11_500, rfl, rfl⟩
      refine Lt.ofWL.step rfl rfl rfl (OpV.assign rfl) ?_
      refine WL.nil ?_
      refine En.next ?_
      refine WC.seq ?_
      refine WC.seq ?_
      obtain ⟨x12_2, e12_2, h⟩ := bnd h
      refine WC.region ?_
      refine Lt.ofWL.step rfl rfl rfl (OpV.move rfl) ?_
      refine Lt.ofWL.step rfl rfl rfl (OpV.move rfl) ?_
      refine Lt.ofWL.step rfl rfl rfl (OpV.call (evs.cons rfl (evs.cons rfl (evs.nil))) ca_15 (fun w hs => w_laws_eqIntS e12_2 (Ow.rd (hs.mem (.head _))) (Ow.rd (hs.mem (.tail _ (.tail _ (.tail _ (.tail _ (.tail _ (.head _)))))))))) ?_
      refine Lt.ofWL.step rfl rfl rfl (OpV.not rfl) ?_
      refine WL.nil ?_
      refine En.next ?_
      refine WC.cond rfl ?_ ?_
      ·
        intro hc_3
        replace h := ifO_t hc_3 h
        refine WC.seq ?_
        refine WC.region ?_
        refine Lt.ofWL.step rfl rfl rfl (OpV.assign rfl) ?_
        refine WL.nil ?_
        refine En.next ?_
        refine WC.ret ?_
        refine En.then_ret ?_
        refine En.ret1 rfl (Res.tmp rfl) ?_
        obtain rfl := Option.some.inj h
        intro w' hs
        exact ⟨rfl, hs.below⟩
      ·
        intro hc_3
        replace h := ifO_f hc_3 h
        refine WC.skip ?_
        refine En.next ?_
        refine WC.seq ?_
        refine WC.seq ?_
        obtain ⟨x14_2, e14_2, h⟩ := bnd h
        obtain ⟨x14_3, e14_3, h⟩ := bnd h
        refine WC.region ?_
        refine Lt.ofWL.step rfl rfl rfl (OpV.move rfl) ?_
        refine Lt.ofWL.step rfl rfl rfl (OpV.move rfl) ?_
        refine WL.heavy rfl rfl rfl (OpH.callR (evs.cons rfl (evs.nil)) ca_12 (fun w hs => w_laws_toPlaneS e14_2 (r0_0.ext hs.below)) ?_)
        rintro _ _ ⟨a14_200, n14_200, c14_200, f14_200, rfl, rfl⟩
        refine Lt.ofWL.step rfl rfl rfl (OpV.call (evs.cons rfl (evs.cons rfl (evs.nil))) ca_16 (fun w hs => w_laws_eqPlaneS e14_3 (Ow.rd (hs.mem (.tail _ (.tail _ (.tail _ (.tail _ (.tail _ (.head _)))))))) (Ow.rd (hs.mem (.head _))))) ?_
        refine Lt.ofWL.step rfl rfl rfl (OpV.not rfl) ?_
        refine WL.nil ?_
        refine En.next ?_
        refine WC.cond rfl ?_ ?_
        ·
          intro hc_4
          replace h := ifO_t hc_4 h
          refine WC.seq ?_
          refine WC.region ?_
          refine Lt.ofWL.step rfl rfl rfl (OpV.assign rfl) ?_
          refine WL.nil ?_
          refine En.next ?_
          refine WC.ret ?_
          refine En.then_ret ?_
          refine En.ret1 rfl (Res.tmp rfl) ?_
          obtain rfl := Option.some.inj h
          intro w' hs
          exact ⟨rfl, hs.below⟩
        ·
          intro hc_4
          replace h := ifO_f hc_4 h
          refine WC.skip ?_
          refine En.next ?_
          refine WC.seq ?_
          refine WC.seq ?_
          obtain ⟨x16_2, e16_2, h⟩ := bnd h
          obtain ⟨x16_3, e16_3, h⟩ := bnd h
          refine WC.drawnH [] ([_, _, _, _, _, _, _, _, _, _, _]) (fun _ h => h) (by kernel_rfl) ?_
          refine WAE.take (i := 0) rfl (by kernel_rfl) (by kernel_rfl) (by kernel_rfl) rfl rfl rfl (OpV.loadAll rfl (.tail _ (.tail _ (.head _))) ag_31) ?_
          refine WAE.take (i := 1) rfl (by kernel_rfl) (by kernel_rfl) (by kernel_rfl) rfl rfl rfl (OpV.loadAll rfl (.tail _ (.tail _ (.tail _ (.tail _ (.tail _ (.tail _ (.tail _ (.tail _ (.tail _ (.tail _ (.head _))))))))))) ag_25) ?_
          refine WAE.all (rs := [2]) (by kernel_rfl) rfl (AllR.cons rfl rfl rfl rfl ?_ AllR.nil)
          refine OpH.callR (evs.cons rfl (evs.nil)) ca_13 (fun w hs => w_laws_toColorMap e16_2 (r3_0.ext hs.below) (r3_1.ext hs.below)) ?_
          rintro _ _ ⟨a16_200, n16_200, c16_200, f16_200, a16_201, n16_201, c16_201, f16_201, rfl, rfl⟩
          refine ⟨[_, _], rfl, ?_⟩
          refine WAE.rebase (H := []) ?_
          refine WAE.take (i := 3) rfl (by kernel_rfl) (by kernel_rfl) (by kernel_rfl) rfl rfl rfl (OpV.call (evs.cons rfl (evs.cons rfl (evs.nil))) ca_17 (fun w hs => w_laws_eqColorMap e16_3 (Ow.rd (hs.mem (.tail _ (.tail _ (.tail _ (.tail _ (.tail _ (.head _)))))))) (Ow.rd (hs.mem (.tail _ (.tail _ (.tail _ (.tail _ (.tail _ (.tail _ (.head _))))))))) (Ow.rd (hs.mem (.head _))) (Ow.rd (hs.mem (.tail _ (.head _)))))) ?_
          refine WAE.take (i := 4) rfl (by kernel_rfl) (by kernel_rfl) (by kernel_rfl) rfl rfl rfl (OpV.not rfl) ?_
          refine WAE.done (by kernel_rfl) ?_ _
          refine En.next ?_
          refine WC.cond rfl ?_ ?_
          ·
            intro hc_5
            replace h := ifO_t hc_5 h
            refine WC.seq ?_
            refine WC.region ?_
            refine Lt.ofWL.step rfl rfl rfl (OpV.assign rfl) ?_
            refine WL.nil ?_
            refine En.next ?_
            refine WC.ret ?_
            refine En.then_ret ?_
            refine En.ret1 rfl (Res.tmp rfl) ?_
            obtain rfl := Option.some.inj h
            intro w' hs
            exact ⟨rfl, hs.below⟩
          ·
            intro hc_5
            replace h := ifO_f hc_5 h
            refine WC.skip ?_
            refine En.next ?_
            refine WC.seq ?_
            refine WC.region ?_
            refine Lt.ofWL.step rfl rfl rfl (OpV.assign rfl) ?_
            refine WL.nil ?_
            refine En.next ?_
            refine WC.seq ?_
            obtain ⟨⟨x19_2a, x19_2b⟩, e19_2, h⟩ := bnd h
            refine WC.region ?_
            refine Lt.ofWL.step rfl rfl rfl (OpV.move rfl) ?_
            refine Lt.ofWL.step rfl rfl rfl (OpV.move rfl) ?_
            refine WL.wkF (fun _ h => h.perm (List.perm_middle (l₁ := [_, _, _, _, _, _, _]))) ?_
            refine WL.heavy rfl rfl rfl (OpH.callX (evs.cons rfl (evs.cons rfl (evs.nil))) ca_18 (fun w hs => w_laws_markPlaneS e19_2 hs) ?_)
            rintro _ _ ⟨g19_200, rfl, rfl⟩
            refine Lt.ofWL.step rfl rfl rfl (OpV.assign rfl) ?_
            refine WL.nil ?_
            refine En.next ?_
            refine WC.seq ?_
            obtain ⟨⟨x20_2a, x20_2b, x20_2c⟩, e20_2, h⟩ := bnd h
            refine WC.region ?_
            refine Lt.ofWL.step rfl rfl rfl (OpV.loadAll rfl (.tail _ (.tail _ (.tail _ (.tail _ (.tail _ (.head _)))))) ag_31) ?_
            refine Lt.ofWL.step rfl rfl rfl (OpV.move rfl) ?_
            refine WL.wkF (fun _ h => h.perm (List.perm_middle (l₁ := [_, _, _, _, _, _, _]))) ?_
            refine WL.wkF (fun _ h => h.perm (List.perm_middle (l₁ := [_, _, _, _, _, _, _]))) ?_
            refine WL.heavy rfl rfl rfl (OpH.callX (evs.cons rfl (evs.cons rfl (evs.nil))) ca_19 (fun w hs => w_laws_markColorMap e20_2 hs) ?_)
            rintro _ _ ⟨g20_200, g20_201, rfl, rfl⟩
            refine Lt.ofWL.step rfl rfl rfl (OpV.assign rfl) ?_
            refine WL.nil ?_
            refine En.next ?_
            refine WC.seq ?_
            refine WC.seq ?_
            obtain ⟨q21_7, e21_7, h⟩ := bnd h
            refine WC.region ?_
            refine Lt.ofWL.step rfl rfl rfl (OpV.move rfl) ?_
            refine Lt.ofWL.step rfl rfl rfl (OpV.lss rfl rfl) ?_
            refine Lt.ofWL.step rfl rfl rfl (OpV.move rfl) ?_
            refine Lt.ofWL.orQ 70 75 74 (p := ?pz1) (rest := ?qz1) (B := q21_7) rfl (fun hz => orO_t e21_7 hz) ?Tz1 ?Fz1 ?az1 ?bz1 ?cz1 ?dz1 ?ez1
            case Tz1 =>
              intro hcz1 hkz1
              refine Lt.ofWL.skip rfl rfl rfl ?_
              refine Lt.ofWL.skip rfl rfl rfl ?_
              refine Lt.ofWL.skip rfl rfl rfl ?_
              refine Lt.ofWL.skip rfl rfl rfl ?_
              refine hkz1 _ ?_
              repeat (first | exact Sub.refl _ | refine Sub.skip rfl ?_)
            case Fz1 =>
              intro hcz1 hkz1
              have hqz1 := orO_f e21_7 hcz1
              obtain ⟨x21_5, e21_5, hqz1⟩ := bnd hqz1
              obtain rfl := Option.some.inj hqz1
              refine Lt.ofWL.step rfl rfl rfl (OpV.move rfl) ?_
              refine Lt.ofWL.step rfl rfl rfl (OpV.move rfl) ?_
              refine Lt.ofWL.step rfl rfl rfl (OpV.call (evs.cons rfl (evs.cons rfl (evs.nil))) ca_15 (fun w hs => w_laws_eqIntS e21_5 (Ow.rd (hs.mem (.tail _ (.tail _ (.tail _ (.tail _ (.tail _ (.tail _ (.head _))))))))) (Ow.rd (hs.mem (.tail _ (.tail _ (.tail _ (.tail _ (.tail _ (.tail _ (.tail _ (.tail _ (.head _))))))))))))) ?_
              refine Lt.ofWL.step rfl rfl rfl (OpV.not rfl) ?_
              refine hkz1 _ ?_ ?_
              exact rfl
              repeat (first | exact Sub.refl _ | refine Sub.skip rfl ?_)
            case az1 => exact rfl
            case bz1 => exact rfl
            case cz1 => exact rfl
            case dz1 => exact rfl
            refine WL.nil ?_
            refine En.next ?_
            refine WC.cond rfl ?_ ?_
            ·
              intro hc_6
              replace h := ifO_t hc_6 h
              refine WC.seq ?_
              refine WC.region ?_
              refine Lt.ofWL.step rfl rfl rfl (OpV.assign rfl) ?_
              refine WL.nil ?_
              refine En.next ?_
              refine WC.ret ?_
              refine En.then_ret ?_
              refine En.ret1 rfl (Res.tmp rfl) ?_
              obtain rfl := Option.some.inj h
              intro w' hs
              exact ⟨rfl, hs.below⟩
            ·
              intro hc_6
              replace h := ifO_f hc_6 h
              refine WC.skip ?_
              refine En.next ?_
              refine WC.seq ?_
              refine WC.region ?_
              refine Lt.ofWL.step rfl rfl rfl (OpV.assign rfl) ?_
              refine WL.nil ?_
              refine En.next ?_
              refine WC.seq ?_
              obtain ⟨⟨x24_2a, x24_2b⟩, e24_2, h⟩ := bnd h
              refine WC.region ?_
              refine Lt.ofWL.step rfl rfl rfl (OpV.move rfl) ?_
              refine Lt.ofWL.step rfl rfl rfl (OpV.move rfl) ?_
              refine WL.wkF (fun _ h => h.perm (List.perm_middle (l₁ := [_, _, _, _, _, _]))) ?_
              refine WL.heavy rfl rfl rfl (OpH.callX (evs.cons rfl (evs.cons rfl (evs.nil))) ca_20 (fun w hs => w_laws_markIntS e24_2 hs) ?_)
              rintro _ _ ⟨g24_200, rfl, rfl⟩
              refine Lt.ofWL.step rfl rfl rfl (OpV.assign rfl) ?_
              refine WL.nil ?_
              refine En.next ?_
              refine WC.seq ?_
              refine WC.region ?_
              refine Lt.ofWL.step rfl rfl rfl (OpV.assign rfl) ?_
              refine WL.nil ?_
              refine En.next ?_
              refine WC.seq ?_
              obtain ⟨x26_2, e26_2, h⟩ := bnd h
              refine WC.region ?_
              refine Lt.ofWL.step rfl rfl rfl (OpV.move rfl) ?_
              refine Lt.ofWL.step rfl rfl rfl (OpV.move rfl) ?_
              refine Lt.ofWL.step rfl rfl rfl (OpV.call (evs.cons rfl (evs.cons rfl (evs.nil))) ca_21 (fun w hs => w_laws_heldIntS e26_2 (Ow.rd (hs.mem (.head _))))) ?_
              refine Lt.ofWL.step rfl rfl rfl (OpV.assign rfl) ?_
              refine WL.nil ?_
              refine En.next ?_
              refine WC.seq ?_
              refine WC.seq ?_
              refine WC.region ?_
              refine Lt.ofWL.step rfl rfl rfl (OpV.move rfl) ?_
              refine Lt.ofWL.step rfl rfl rfl (OpV.lss rfl rfl) ?_
              refine WL.nil ?_
              refine En.next ?_
              refine WC.cond rfl ?_ ?_
              ·
                intro hc_7
                replace h := ifO_t hc_7 h
                refine WC.seq ?_
                refine WC.region ?_
                refine Lt.ofWL.step rfl rfl rfl (OpV.assign rfl) ?_
                refine WL.nil ?_
                refine En.next ?_
                refine WC.ret ?_
                refine En.then_ret ?_
                refine En.ret1 rfl (Res.tmp rfl) ?_
                obtain rfl := Option.some.inj h
                intro w' hs
                exact ⟨rfl, hs.below⟩
              ·
                intro hc_7
                replace h := ifO_f hc_7 h
                refine WC.skip ?_
                refine En.next ?_
                refine WC.seq ?_
                refine WC.seq ?_
                refine WC.region ?_
                refine Lt.ofWL.step rfl rfl rfl (OpV.move rfl) ?_
                refine Lt.ofWL.step rfl rfl rfl (OpV.move rfl) ?_
                refine Lt.ofWL.step rfl rfl rfl (OpV.neq rfl rfl) ?_
                refine WL.nil ?_
                refine En.next ?_
                refine WC.cond rfl ?_ ?_
                ·
                  intro hc_8
                  replace h := ifO_t hc_8 h
                  refine WC.seq ?_
                  refine WC.region ?_
                  refine Lt.ofWL.step rfl rfl rfl (OpV.assign rfl) ?_
                  refine WL.nil ?_
                  refine En.next ?_
                  refine WC.ret ?_
                  refine En.then_ret ?_
                  refine En.ret1 rfl (Res.tmp rfl) ?_
                  obtain rfl := Option.some.inj h
                  intro w' hs
                  exact ⟨rfl, hs.below⟩
                ·
                  intro hc_8
                  replace h := ifO_f hc_8 h
                  refine WC.skip ?_
                  refine En.next ?_
                  refine WC.seq ?_
                  obtain ⟨x31_1, e31_1, h⟩ := bnd h
                  obtain ⟨x31_5, e31_5, h⟩ := bnd h
                  obtain ⟨x31_7, e31_7, h⟩ := bnd h
                  refine WC.drawnH [] ([_, _, _, _, _, _, _, _, _, _, _, _, _]) (fun _ h => h) (by kernel_rfl) ?_
                  refine WAE.take (i := 0) rfl (by kernel_rfl) (by kernel_rfl) (by kernel_rfl) rfl rfl rfl (OpV.move rfl) ?_
                  refine WAE.take (i := 2) rfl (by kernel_rfl) (by kernel_rfl) (by kernel_rfl) rfl rfl rfl (OpV.move rfl) ?_
                  refine WAE.take (i := 3) rfl (by kernel_rfl) (by kernel_rfl) (by kernel_rfl) rfl rfl rfl (OpV.move rfl) ?_
                  refine WAE.take (i := 4) rfl (by kernel_rfl) (by kernel_rfl) (by kernel_rfl) rfl rfl rfl (OpV.loadAll rfl (.tail _ (.tail _ (.tail _ (.tail _ (.tail _ (.tail _ (.tail _ (.tail _ (.tail _ (.tail _ (.tail _ (.tail _ (.head _))))))))))))) ag_25) ?_
                  refine WAE.take (i := 6) rfl (by kernel_rfl) (by kernel_rfl) (by kernel_rfl) rfl rfl rfl (OpV.move rfl) ?_
                  refine WAE.all (rs := [1]) (by kernel_rfl) rfl (AllR.cons rfl rfl rfl rfl ?_ AllR.nil)
                  refine OpH.callR (evs.cons rfl (evs.nil)) ca_12 (fun w hs => w_laws_toPlaneS e31_1 (r0_0.ext hs.below)) ?_
                  rintro _ _ ⟨a31_100, n31_100, c31_100, f31_100, rfl, rfl⟩
                  refine ⟨[_], rfl, ?_⟩
                  refine WAE.rebase (H := []) ?_
                  refine WAE.all (rs := [5]) (by kernel_rfl) rfl (AllR.cons rfl rfl rfl rfl ?_ AllR.nil)
                  refine OpH.callR (evs.cons rfl (evs.nil)) ca_13 (fun w hs => w_laws_toColorMap e31_5 (r3_0.ext hs.below) (r3_1.ext hs.below)) ?_
                  rintro _ _ ⟨a31_500, n31_500, c31_500, f31_500, a31_501, n31_501, c31_501, f31_501, rfl, rfl⟩
                  refine ⟨[_, _], rfl, ?_⟩
                  refine WAE.rebase (H := []) ?_
                  refine WAE.all (rs := [7]) (by kernel_rfl) rfl (AllR.cons rfl rfl rfl rfl ?_ AllR.nil)
                  refine OpH.callR (evs.cons rfl (evs.cons rfl (evs.cons rfl (evs.cons rfl (evs.cons rfl (evs.nil)))))) ca_14 (fun w hs => w_impl_ScanDots e31_7 (Ow.rd (hs.mem (.tail _ (.tail _ (.head _))))) (Ow.rd (hs.mem (.head _))) (Ow.rd (hs.mem (.tail _ (.head _))))) ?_
                  rintro _ _ ⟨a31_700, n31_700, c31_700, f31_700, rfl, rfl⟩
                  refine ⟨[_], rfl, ?_⟩
                  refine WAE.rebase (H := []) ?_
                  refine WAE.take (i := 8) rfl (by kernel_rfl) (by kernel_rfl) (by kernel_rfl) rfl rfl rfl (OpV.assign rfl) ?_
                  refine WAE.done (by kernel_rfl) ?_ _
                  refine En.next ?_
                  refine WC.seq ?_
                  refine WC.seq ?_
                  obtain ⟨x32_2, e32_2, h⟩ := bnd h
                  refine WC.region ?_
                  refine Lt.ofWL.step rfl rfl rfl (OpV.move rfl) ?_
                  refine Lt.ofWL.step rfl rfl rfl (OpV.move rfl) ?_
                  refine Lt.ofWL.step rfl rfl rfl (OpV.call (evs.cons rfl (evs.cons rfl (evs.nil))) ca_15 (fun w hs => w_laws_eqIntS e32_2 (Ow.rd (hs.mem (.head _))) (Ow.rd (hs.mem (.tail _ (.tail _ (.tail _ (.tail _ (.tail _ (.tail _ (.tail _ (.tail _ (.tail _ (.tail _ (.tail _ (.tail _ (.head _))))))))))))))))) ?_
                  refine Lt.ofWL.step rfl rfl rfl (OpV.not rfl) ?_
                  refine WL.nil ?_
                  refine En.next ?_
                  refine WC.cond rfl ?_ ?_
                  ·
                    intro hc_9
                    replace h := ifO_t hc_9 h
                    refine WC.seq ?_
                    refine WC.region ?_
                    refine Lt.ofWL.step rfl rfl rfl (OpV.assign rfl) ?_
                    refine WL.nil ?_
                    refine En.next ?_
                    refine WC.ret ?_
                    refine En.then_ret ?_
                    refine En.ret1 rfl (Res.tmp rfl) ?_
                    obtain rfl := Option.some.inj h
                    intro w' hs
                    exact ⟨rfl, hs.below⟩
                  ·
                    intro hc_9
                    replace h := ifO_f hc_9 h
                    refine WC.skip ?_
                    refine En.next ?_
                    refine WC.seq ?_
                    refine WC.region ?_
                    refine Lt.ofWL.step rfl rfl rfl (OpV.assign rfl) ?_
                    refine WL.nil ?_
                    refine En.next ?_
                    refine WC.seq ?_
                    obtain ⟨x35_2, e35_2, h⟩ := bnd h
                    refine WC.region ?_
                    refine Lt.ofWL.step rfl rfl rfl (OpV.move rfl) ?_
                    refine Lt.ofWL.step rfl rfl rfl (OpV.move rfl) ?_
                    refine Lt.ofWL.step rfl rfl rfl (OpV.call (evs.cons rfl (evs.cons rfl (evs.nil))) ca_21 (fun w hs => w_laws_heldIntS e35_2 (Ow.rd (hs.mem (.tail _ (.tail _ (.tail _ (.tail _ (.head _))))))))) ?_
                    refine Lt.ofWL.step rfl rfl rfl (OpV.assign rfl) ?_
                    refine WL.nil ?_
                    refine En.next ?_
                    refine WC.seq ?_
                    refine WC.seq ?_
                    refine WC.region ?_
                    refine Lt.ofWL.step rfl rfl rfl (OpV.move rfl) ?_
                    refine Lt.ofWL.step rfl rfl rfl (OpV.lss rfl rfl) ?_
                    refine WL.nil ?_
                    refine En.next ?_
                    refine WC.cond rfl ?_ ?_
                    ·
                      intro hc_10
                      replace h := ifO_t hc_10 h
                      refine WC.seq ?_
                      refine WC.region ?_
                      refine Lt.ofWL.step rfl rfl rfl (OpV.assign rfl) ?_
                      refine WL.nil ?_
                      refine En.next ?_
                      refine WC.ret ?_
                      refine En.then_ret ?_
                      refine En.ret1 rfl (Res.tmp rfl) ?_
                      obtain rfl := Option.some.inj h
                      intro w' hs
                      exact ⟨rfl, hs.below⟩
                    ·
                      intro hc_10
                      replace h := ifO_f hc_10 h
                      refine WC.skip ?_
                      refine En.next ?_
                      refine WC.seq ?_
                      refine WC.seq ?_
                      refine WC.region ?_
                      refine Lt.ofWL.step rfl rfl rfl (OpV.move rfl) ?_
                      refine Lt.ofWL.step rfl rfl rfl (OpV.move rfl) ?_
                      refine Lt.ofWL.step rfl rfl rfl (OpV.neq rfl rfl) ?_
                      refine WL.nil ?_
                      refine En.next ?_
                      refine WC.cond rfl ?_ ?_
                      ·
                        intro hc_11
                        replace h := ifO_t hc_11 h
                        refine WC.seq ?_
                        refine WC.region ?_
                        refine Lt.ofWL.step rfl rfl rfl (OpV.assign rfl) ?_
                        refine WL.nil ?_
                        refine En.next ?_
                        refine WC.ret ?_
                        refine En.then_ret ?_
                        refine En.ret1 rfl (Res.tmp rfl) ?_
                        obtain rfl := Option.some.inj h
                        intro w' hs
                        exact ⟨rfl, hs.below⟩
                      ·
                        intro hc_11
                        replace h := ifO_f hc_11 h
                        refine WC.skip ?_
                        refine En.next ?_
                        refine WC.seq ?_
                        refine WC.region ?_
                        refine Lt.ofWL.step rfl rfl rfl (OpV.assign rfl) ?_
                        refine WL.nil ?_
                        refine En.next ?_
                        refine WC.ret ?_
                        refine En.ret1 rfl (Res.tmp rfl) ?_
                        obtain rfl := Option.some.inj h
                        intro w' hs
                        exact ⟨rfl, hs.below⟩

end Go.Proofs.YtdbnoiiacpmbpaaGreat
