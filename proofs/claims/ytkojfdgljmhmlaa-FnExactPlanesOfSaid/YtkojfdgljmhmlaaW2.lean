/- Walks: the program computes the pure functions. -/
import Derived.Test.YtkojfdgljmhmlaaW1
namespace Go.Proofs.Ytkojfdgljmhmlaa
open Go.RowKit K
set_option maxRecDepth 100000
set_option maxHeartbeats 4000000

theorem w_impl_AssignedOf {a_p0 : SceneT} {a_p1 : OptionsT} {r : (List Int) × Int} {q0_0 : Option Addr} {n0_0 k0_0 : Nat} (h : impl_AssignedOf a_p0 a_p1 = some r) {w : World} (r0_0 : Rd tSurface w q0_0 n0_0 k0_0 a_p0.Surfaces)   :
    Calls Try.prog 18 #[.agg #[.int .i64 a_p0.W, .int .i64 a_p0.H, .int .i64 a_p0.Back, .slice q0_0 n0_0 k0_0], .agg #[.int .i64 a_p1.Overlays, .bool a_p1.Cursor, .int .i64 a_p1.Layout, .bool a_p1.Partial, .bool a_p1.Sleep, .bool a_p1.Secret]] w (fun en w' => ∃ rv G, en = .returned rv ∧ (∃ (a0_0 : Option Addr) (n0_0 : Nat) (c0_0 : Nat) (f0_0 : List Nat), rv = .tuple #[.slice a0_0 n0_0 c0_0, .int .i64 r.2] ∧ G = [Chunk.own tInt f0_0 a0_0 n0_0 c0_0 r.1]) ∧ St w G w') := by
  obtain rfl := r0_0.1
  unfold impl_AssignedOf at h
  refine enter (vs := [_, _]) Try.func18 rfl rfl rfl rfl ?_
  refine WC.seq ?_
  refine WC.region ?_
  refine WL.heavy rfl rfl rfl (OpH.box rfl rfl ?_)
  intro b0_0
  refine WL.heavy rfl rfl rfl (OpH.box rfl rfl ?_)
  intro b0_1
  refine Lt.ofWL.step rfl rfl rfl (OpV.assign rfl) ?_
  refine Lt.ofWL.step rfl rfl rfl (OpV.assign rfl) ?_
  refine WL.nil ?_
  refine En.next ?_
  refine WC.seq ?_
  refine WC.seq ?_
  obtain ⟨x1_1, e1_1, h⟩ := bnd h
  obtain ⟨q1_7, e1_7, h⟩ := bnd h
  refine WC.region ?_
  refine Lt.ofWL.step rfl rfl rfl (OpV.loadAll rfl (.tail _ (.head _)) ag_26) ?_
  refine Lt.ofWL.step rfl rfl rfl (OpV.call (evs.cons rfl (evs.nil)) ca_70 (fun w hs => w_impl_SceneOk e1_1 (r0_0.ext hs.below))) ?_
  refine Lt.ofWL.step rfl rfl rfl (OpV.not rfl) ?_
  refine Lt.ofWL.step rfl rfl rfl (OpV.move rfl) ?_
  refine Lt.ofWL.orQ 14 18 17 (p := ?pz1) (rest := ?qz1) (B := q1_7) rfl (fun hz => orO_t e1_7 hz) ?Tz1 ?Fz1 ?az1 ?bz1 ?cz1 ?dz1 ?ez1
  case Tz1 =>
    intro hcz1 hkz1
    refine Lt.ofWL.skip rfl rfl rfl ?_
    refine Lt.ofWL.skip rfl rfl rfl ?_
    refine Lt.ofWL.skip rfl rfl rfl ?_
    refine hkz1 _ ?_
    repeat (first | exact Sub.refl _ | refine Sub.skip rfl ?_)
  case Fz1 =>
    intro hcz1 hkz1
    have hqz1 := orO_f e1_7 hcz1
    obtain ⟨x1_5, e1_5, hqz1⟩ := bnd hqz1
    obtain rfl := Option.some.inj hqz1
    refine Lt.ofWL.step rfl rfl rfl (OpV.loadAll rfl (.head _) ag_28) ?_
    refine Lt.ofWL.step rfl rfl rfl (OpV.call (evs.cons rfl (evs.nil)) ca_71 (fun w hs => w_impl_OptionsOk e1_5)) ?_
    refine Lt.ofWL.step rfl rfl rfl (OpV.not rfl) ?_
    refine hkz1 _ ?_ ?_
    exact rfl
    repeat (first | exact Sub.refl _ | refine Sub.skip rfl ?_)
  case az1 => exact rfl
  case bz1 => exact rfl
  case cz1 => exact rfl
  case dz1 => exact rfl
  refine WL.nil ?_
  refine En.next ?_
  refine WC.cond rfl ?_ ?_
  ·
    intro hc_1
    replace h := ifO_t hc_1 h
    refine WC.seq ?_
    refine WC.region ?_
    refine Lt.ofWL.step rfl rfl rfl (OpV.assign rfl) ?_
    refine Lt.ofWL.step rfl rfl rfl (OpV.assign rfl) ?_
    refine WL.nil ?_
    refine En.next ?_
    refine WC.ret ?_
    refine En.then_ret ?_
    refine En.ret2 rfl (Res.tmp rfl) (Res.tmp rfl) ?_
    obtain rfl := Option.some.inj h
    intro w' hs
    have hs := ((hs).ownNil (A := tInt)).sub (.cons_cons _ (.cons _ (.cons _ (.slnil))))
    exact ⟨_, _, rfl, ⟨.none, 0, 0, [], rfl, rfl⟩, hs⟩
  ·
    intro hc_1
    replace h := ifO_f hc_1 h
    refine WC.skip ?_
    refine En.next ?_
    refine WC.seq ?_
    refine WC.region ?_
    refine WL.heavy rfl rfl rfl (OpH.litF (A := tInt) (xs := [(-1), (-1), (-1)]) tInt_flat (evps.cons rfl (evps.cons rfl (evps.cons rfl (evps.nil)))) (bs_32_3_0_1_2 _ _ _) rfl rfl (Nat.le_of_ble_eq_true rfl) ?_)
    intro b3_0
    refine Lt.ofWL.step rfl rfl rfl (OpV.assign rfl) ?_
    refine WL.nil ?_
    refine En.next ?_
    refine WC.seq ?_
    refine WC.region ?_
    refine Lt.ofWL.step rfl rfl rfl (OpV.assign rfl) ?_
    refine WL.nil ?_
    refine En.next ?_
    refine WC.seq ?_
    obtain ⟨x5_1, e5_1, h⟩ := bnd h
    refine WC.region ?_
    refine Lt.ofWL.step rfl rfl rfl (OpV.loadAll rfl (.tail _ (.tail _ (.head _))) ag_26) ?_
    refine Lt.ofWL.step rfl rfl rfl (OpV.call (evs.cons rfl (evs.cons rfl (evs.nil))) ca_20 (fun w hs => w_impl_TopVisible e5_1 (r0_0.ext hs.below))) ?_
    refine Lt.ofWL.step rfl rfl rfl (OpV.assign rfl) ?_
    refine WL.nil ?_
    refine En.next ?_
    refine WC.seq ?_
    refine WC.seq ?_
    obtain ⟨q6_13, e6_13, h⟩ := bnd h
    refine WC.region ?_
    refine Lt.ofWL.step rfl rfl rfl (OpV.fieldAddr rfl fo_28_1) ?_
    refine Lt.ofWL.step rfl rfl rfl (OpV.loadBox rfl pt_4 (.tail _ (.head _)) rfl) ?_
    refine Lt.ofWL.step rfl rfl rfl (OpV.move rfl) ?_
    refine Lt.ofWL.and 24 27 26 (p := ?pz2) (rest := ?qz2) (B := ?Bz2) rfl ?Tz2 ?Fz2 ?az2 ?bz2 ?cz2 ?dz2 ?ez2
    case Tz2 =>
      intro hcz2 hkz2
      refine Lt.ofWL.step rfl rfl rfl (OpV.move rfl) ?_
      refine Lt.ofWL.step rfl rfl rfl (OpV.geq rfl rfl) ?_
      refine hkz2 _ ?_ ?_
      exact rfl
      repeat (first | exact Sub.refl _ | refine Sub.skip rfl ?_)
    case Fz2 =>
      intro hcz2 hkz2
      refine Lt.ofWL.skip rfl rfl rfl ?_
      refine Lt.ofWL.skip rfl rfl rfl ?_
      refine hkz2 _ ?_
      repeat (first | exact Sub.refl _ | refine Sub.skip rfl ?_)
    case az2 => exact rfl
    case bz2 => exact rfl
    case cz2 => exact rfl
    case dz2 => exact rfl
    refine Lt.ofWL.step rfl rfl rfl (OpV.move rfl) ?_
    refine Lt.ofWL.andQ 28 35 34 (p := ?pz3) (rest := ?qz3) (B := q6_13) rfl (fun hz => andO_f e6_13 hz) ?Tz3 ?Fz3 ?az3 ?bz3 ?cz3 ?dz3 ?ez3
    case Tz3 =>
      intro hcz3 hkz3
      have hqz3 := andO_t e6_13 hcz3
      obtain ⟨x6_10, e6_10, hqz3⟩ := bnd hqz3
      obtain ⟨g6_10, o6_10, _, ha6_10, ⟨a6_10_1, c6_10_1, rfl, r6_10_1⟩, hd6_10⟩ := Rd.atIdx r0_0 e6_10
      replace hd6_10 : ∀ (j : Nat) v, ([.int .i64 x6_10.Id, .int .i64 x6_10.X, .int .i64 x6_10.Y, .int .i64 x6_10.W, .int .i64 x6_10.H, .int .i64 x6_10.Alpha, .int .i64 x6_10.Orient, .bool x6_10.Visible, .int .i64 x6_10.Buffer.W, .int .i64 x6_10.Buffer.H, .slice a6_10_1 x6_10.Buffer.Data.length c6_10_1] : List Value)[j]? = some v → w.cell? ⟨g6_10, o6_10 + x5_1.toNat * 11 + j, .none⟩ = some v := hd6_10
      obtain ⟨x6_12, e6_12, hqz3⟩ := bnd hqz3
      obtain rfl := Option.some.inj hqz3
      refine Lt.ofWL.step rfl rfl rfl (OpV.fieldAddr rfl fo_26_3) ?_
      refine Lt.ofWL.step rfl rfl rfl (OpV.loadBox rfl pt_24 (.tail _ (.tail _ (.head _))) rfl) ?_
      refine Lt.ofWL.step rfl rfl rfl (OpV.move rfl) ?_
      refine Lt.ofWL.step rfl rfl rfl (OpV.idxA rfl rfl se_24 ha6_10 ⟨(idx_some e6_10).1, (idx_some e6_10).2.1⟩) ?_
      refine Lt.ofWL.step rfl rfl rfl (OpV.loadN rfl ag_38 rfl (fun w hs => hs.cellsAt hd6_10)) ?_
      refine Lt.ofWL.step rfl rfl rfl (OpV.call (evs.cons rfl (evs.nil)) ca_72 (fun w hs => w_impl_FitsCursor e6_12 (r6_10_1.ext hs.below))) ?_
      refine hkz3 _ ?_ ?_
      exact rfl
      repeat (first | exact Sub.refl _ | refine Sub.skip rfl ?_)
    case Fz3 =>
      intro hcz3 hkz3
      refine Lt.ofWL.skip rfl rfl rfl ?_
      refine Lt.ofWL.skip rfl rfl rfl ?_
      refine Lt.ofWL.skip rfl rfl rfl ?_
      refine Lt.ofWL.skip rfl rfl rfl ?_
      refine Lt.ofWL.skip rfl rfl rfl ?_
      refine Lt.ofWL.skip rfl rfl rfl ?_
      refine hkz3 _ ?_
      repeat (first | exact Sub.refl _ | refine Sub.skip rfl ?_)
    case az3 => exact rfl
    case bz3 => exact rfl
    case cz3 => exact rfl
    case dz3 => exact rfl
    refine WL.nil ?_
    refine En.next ?_
    refine WC.cond rfl ?_ ?_
    ·
      intro hc_2
      replace h := ifO_t hc_2 h
      refine WC.seq ?_
      refine WC.inh fun hin7 => ?_
      have hn7_2 := ownLen hin7 (.head _)
      obtain ⟨x7_3, e7_3, h⟩ := bnd h
      obtain ⟨g7_2, ha7_2⟩ := ownAddrU hin7 (.head _) e7_3
      refine WC.region ?_
      refine Lt.ofWL.step rfl rfl rfl (OpV.move rfl) ?_
      refine Lt.ofWL.step rfl rfl rfl (OpV.move rfl) ?_
      refine Lt.ofWL.step rfl rfl rfl (OpV.idxA rfl rfl se_32 ha7_2 ⟨(upd_some e7_3).1.1, by rw [hn7_2]; exact (upd_some e7_3).1.2⟩) ?_
      refine WL.wkF (fun _ h => St.elFlat tInt_flat x5_1 h) ?_
      refine WL.heavy0 rfl rfl (OpH.setEl (A := tInt) ha7_2 rfl rfl rfl ts_3 e7_3 ?_)
      intro f7_3
      refine WL.nil ?_
      refine En.next ?_
      refine WC.seq ?_
      refine WC.region ?_
      refine Lt.ofWL.step rfl rfl rfl (OpV.move rfl) ?_
      refine Lt.ofWL.step rfl rfl rfl (OpV.addR rfl rfl) ?_
      refine Lt.ofWL.step rfl rfl rfl (OpV.assign rfl) ?_
      refine WL.nil ?_
      refine En.next ?_
      obtain ⟨x9_2, e9_2, h⟩ := bnd h
      refine WC.region ?_
      refine Lt.ofWL.step rfl rfl rfl (OpV.loadAll rfl (.tail _ (.tail _ (.head _))) ag_26) ?_
      refine Lt.ofWL.step rfl rfl rfl (OpV.move rfl) ?_
      refine Lt.ofWL.step rfl rfl rfl (OpV.call (evs.cons rfl (evs.cons rfl (evs.nil))) ca_20 (fun w hs => w_impl_TopVisible e9_2 (r0_0.ext hs.below))) ?_
      refine Lt.ofWL.step rfl rfl rfl (OpV.assign rfl) ?_
      refine WL.nil ?_
      refine En.next ?_
      refine WC.seq ?_
      refine WC.region ?_
      refine Lt.ofWL.step rfl rfl rfl (OpV.assign rfl) ?_
      refine WL.nil ?_
      refine En.next ?_
      refine WC.seq ?_
      refine WC.seq ?_
      refine WC.region ?_
      refine Lt.ofWL.step rfl rfl rfl (OpV.fieldAddr rfl fo_28_0) ?_
      refine Lt.ofWL.step rfl rfl rfl (OpV.loadBox rfl pt_3 (.tail _ (.head _)) rfl) ?_
      refine Lt.ofWL.step rfl rfl rfl (OpV.assign rfl) ?_
      refine WL.nil ?_
      refine En.next ?_
      refine WC.block ?_
      obtain ⟨zy0, ezy0, h⟩ := bnd h
      refine WC.cut (X := ((List Int) × Int) × ((List Nat))) (.exit 0) (fun x => zy0 = x.1) (fun x => match x with | ((v_0e, v1_0e), fv_0e) => [(6, .slice (some ⟨b3_0, 0, .none⟩) 3 3), (7, .int .i64 v1_0e)]) (fun x => match x with | ((v_0e, v1_0e), fv_0e) => [Chunk.own tInt fv_0e (some ⟨b3_0, 0, .none⟩) 3 3 v_0e]) ?_ ?_
      ·
        rintro ⟨⟨v_0e, v1_0e⟩, fv_0e⟩ hx
        replace hx : (v_0e, v1_0e) = zy0 := hx.symm
        subst hx
        show En _ _ _ _ [(6, .slice (some ⟨b3_0, 0, .none⟩) 3 3), (7, .int .i64 v1_0e)] [Chunk.own tInt fv_0e (some ⟨b3_0, 0, .none⟩) 3 3 v_0e]
        refine En.block_exit ?_
        refine En.next ?_
        refine WC.seq ?_
        refine WC.region ?_
        refine Lt.ofWL.step rfl rfl rfl (OpV.move rfl) ?_
        refine Lt.ofWL.step rfl rfl rfl (OpV.move rfl) ?_
        refine Lt.ofWL.step rfl rfl rfl (OpV.assign rfl) ?_
        refine Lt.ofWL.step rfl rfl rfl (OpV.assign rfl) ?_
        refine WL.nil ?_
        refine En.next ?_
        refine WC.ret ?_
        refine En.ret2 rfl (Res.tmp rfl) (Res.tmp rfl) ?_
        obtain rfl := Option.some.inj h
        intro w' hs
        have hs := hs
        exact ⟨_, _, rfl, ⟨(some ⟨b3_0, 0, .none⟩), 3, 3, fv_0e, rfl, rfl⟩, hs⟩
      ·
        intro zK0_0
        refine WC.loopP (G := (List Nat)) (fun s g => match s, g with | (v_0, v1_0, v2_0, v3_0, v4_0), fv_0 => [(2, .pointer (some ⟨b0_0, 0, .none⟩)), (6, .slice (some ⟨b3_0, 0, .none⟩) 3 3), (7, .int .i64 v1_0), (8, .int .i64 v2_0), (9, .bool v3_0), (10, .int .i64 v4_0)]) (fun s g => match s, g with | (v_0, v1_0, v2_0, v3_0, v4_0), fv_0 => [Chunk.box b0_0 26 [.int .i64 a_p0.W, .int .i64 a_p0.H, .int .i64 a_p0.Back, .slice q0_0 a_p0.Surfaces.length k0_0], Chunk.own tInt fv_0 (some ⟨b3_0, 0, .none⟩) 3 3 v_0]) (x7_3, (wr (0 + 1)), x9_2, false, a_p1.Overlays) f7_3 ezy0 (by exact Sub.cons rfl (Sub.cons rfl (Sub.cons rfl (Sub.cons rfl (Sub.cons rfl (Sub.cons rfl (Sub.nil _))))))) (by exact (fun _ h => ((h).perm (List.perm_middle (l₁ := [_, _]))).sub (.cons_cons _ (.cons_cons _ (.cons _ (.slnil)))))) ?_
        rintro zm0 ⟨v_0, v1_0, v2_0, v3_0, v4_0⟩ fv_0 zo0 zf0 zb0 ze0
        have zh0 : impl_AssignedOf_L0 a_p0 v_0 v1_0 v2_0 v3_0 v4_0 = some zo0 := zf0
        unfold impl_AssignedOf_L0 at zh0
        show WC _ _ _ _ _ [(2, .pointer (some ⟨b0_0, 0, .none⟩)), (6, .slice (some ⟨b3_0, 0, .none⟩) 3 3), (7, .int .i64 v1_0), (8, .int .i64 v2_0), (9, .bool v3_0), (10, .int .i64 v4_0)] [Chunk.box b0_0 26 [.int .i64 a_p0.W, .int .i64 a_p0.H, .int .i64 a_p0.Back, .slice q0_0 a_p0.Surfaces.length k0_0], Chunk.own tInt fv_0 (some ⟨b3_0, 0, .none⟩) 3 3 v_0]
        refine WC.seq ?_
        refine WC.seq ?_
        refine WC.region ?_
        refine Lt.ofWL.step rfl rfl rfl (OpV.move rfl) ?_
        refine Lt.ofWL.step rfl rfl rfl (OpV.geq rfl rfl) ?_
        refine WL.nil ?_
        refine En.next ?_
        refine WC.cond rfl ?_ ?_
        ·
          intro hc_3
          replace zh0 := ifO_t hc_3 zh0
          refine WC.skip ?_
          refine En.next ?_
          refine WC.seq ?_
          refine WC.block ?_
          refine WC.seq ?_
          refine WC.seq ?_
          obtain ⟨q14_13, e14_13, zh0⟩ := bnd zh0
          refine WC.region ?_
          refine Lt.ofWL.step rfl rfl rfl (OpV.move rfl) ?_
          refine Lt.ofWL.step rfl rfl rfl (OpV.lss rfl rfl) ?_
          refine Lt.ofWL.step rfl rfl rfl (OpV.move rfl) ?_
          refine Lt.ofWL.orQ 52 63 62 (p := ?pz4) (rest := ?qz4) (B := q14_13) rfl (fun hz => orO_t e14_13 hz) ?Tz4 ?Fz4 ?az4 ?bz4 ?cz4 ?dz4 ?ez4
          case Tz4 =>
            intro hcz4 hkz4
            refine Lt.ofWL.skip rfl rfl rfl ?_
            refine Lt.ofWL.skip rfl rfl rfl ?_
            refine Lt.ofWL.skip rfl rfl rfl ?_
            refine Lt.ofWL.skip rfl rfl rfl ?_
            refine Lt.ofWL.skip rfl rfl rfl ?_
            refine Lt.ofWL.skip rfl rfl rfl ?_
            refine Lt.ofWL.skip rfl rfl rfl ?_
            refine Lt.ofWL.skip rfl rfl rfl ?_
            refine Lt.ofWL.skip rfl rfl rfl ?_
            refine Lt.ofWL.skip rfl rfl rfl ?_
            refine hkz4 _ ?_
            repeat (first | exact Sub.refl _ | refine Sub.skip rfl ?_)
          case Fz4 =>
            intro hcz4 hkz4
            have hqz4 := orO_f e14_13 hcz4
            obtain ⟨x14_6, e14_6, hqz4⟩ := bnd hqz4
            obtain ⟨g14_6, o14_6, _, ha14_6, ⟨a14_6_1, c14_6_1, rfl, r14_6_1⟩, hd14_6⟩ := Rd.atIdx r0_0 e14_6
            replace hd14_6 : ∀ (j : Nat) v, ([.int .i64 x14_6.Id, .int .i64 x14_6.X, .int .i64 x14_6.Y, .int .i64 x14_6.W, .int .i64 x14_6.H, .int .i64 x14_6.Alpha, .int .i64 x14_6.Orient, .bool x14_6.Visible, .int .i64 x14_6.Buffer.W, .int .i64 x14_6.Buffer.H, .slice a14_6_1 x14_6.Buffer.Data.length c14_6_1] : List Value)[j]? = some v → w.cell? ⟨g14_6, o14_6 + v2_0.toNat * 11 + j, .none⟩ = some v := hd14_6
            obtain rfl := Option.some.inj hqz4
            refine Lt.ofWL.step rfl rfl rfl (OpV.fieldAddr rfl fo_26_3) ?_
            refine Lt.ofWL.step rfl rfl rfl (OpV.loadBox rfl pt_24 (.head _) rfl) ?_
            refine Lt.ofWL.step rfl rfl rfl (OpV.move rfl) ?_
            refine Lt.ofWL.step rfl rfl rfl (OpV.idxA rfl rfl se_24 ha14_6 ⟨(idx_some e14_6).1, (idx_some e14_6).2.1⟩) ?_
            refine Lt.ofWL.step rfl rfl rfl (OpV.fieldAddr rfl fo_38_3) ?_
            refine Lt.ofWL.step rfl rfl rfl (OpV.load1 rfl pt_3 (fun w hs => hs.cell (hd14_6 3 _ rfl))) ?_
            refine Lt.ofWL.step rfl rfl rfl (OpV.neq rfl rfl) ?_
            refine Lt.ofWL.step rfl rfl rfl (OpV.move rfl) ?_
            refine Lt.ofWL.and 60 62 61 (p := ?pz5) (rest := ?qz5) (B := ?Bz5) rfl ?Tz5 ?Fz5 ?az5 ?bz5 ?cz5 ?dz5 ?ez5
            case Tz5 =>
              intro hcz5 hkz5
              refine Lt.ofWL.step rfl rfl rfl (OpV.move rfl) ?_
              refine hkz5 _ ?_ ?_
              exact rfl
              repeat (first | exact Sub.refl _ | refine Sub.skip rfl ?_)
            case Fz5 =>
              intro hcz5 hkz5
              refine Lt.ofWL.skip rfl rfl rfl ?_
              refine hkz5 _ ?_
              repeat (first | exact Sub.refl _ | refine Sub.skip rfl ?_)
            case az5 => exact rfl
            case bz5 => exact rfl
            case cz5 => exact rfl
            case dz5 => exact rfl
            refine hkz4 _ ?_ ?_
            exact rfl
            repeat (first | exact Sub.refl _ | refine Sub.skip rfl ?_)
          case az4 => exact rfl
          case bz4 => exact rfl
          case cz4 => exact rfl
          case dz4 => exact rfl
          refine WL.nil ?_
          refine En.next ?_
          refine WC.cond rfl ?_ ?_
          ·
            intro hc_4
            replace zh0 := ifO_t hc_4 zh0
            refine WC.exit ?_
            refine En.then_exit ?_
            refine En.block_exit' rfl ?_
            refine En.then_exit ?_
            refine En.then_exit ?_
            have hx := exitP ze0 zh0
            exact En.wk _ _ (Sub.cons rfl (Sub.cons rfl (Sub.nil _))) (fun _ h => ((h).perm (List.perm_middle (l₁ := [_]))).sub (.cons_cons _ (.cons _ (.slnil)))) (zK0_0 ((v_0, v1_0), fv_0) hx.symm)
          ·
            intro hc_4
            replace zh0 := ifO_f hc_4 zh0
            refine WC.skip ?_
            refine En.next ?_
            refine WC.seq ?_
            obtain ⟨q15_9, e15_9, zh0⟩ := bnd zh0
            refine WC.region ?_
            refine Lt.ofWL.step rfl rfl rfl (OpV.move rfl) ?_
            refine Lt.ofWL.step rfl rfl rfl (OpV.move rfl) ?_
            refine Lt.ofWL.orQ 65 73 72 (p := ?pz6) (rest := ?qz6) (B := q15_9) rfl (fun hz => orO_t e15_9 hz) ?Tz6 ?Fz6 ?az6 ?bz6 ?cz6 ?dz6 ?ez6
            case Tz6 =>
              intro hcz6 hkz6
              refine Lt.ofWL.skip rfl rfl rfl ?_
              refine Lt.ofWL.skip rfl rfl rfl ?_
              refine Lt.ofWL.skip rfl rfl rfl ?_
              refine Lt.ofWL.skip rfl rfl rfl ?_
              refine Lt.ofWL.skip rfl rfl rfl ?_
              refine Lt.ofWL.skip rfl rfl rfl ?_
              refine Lt.ofWL.skip rfl rfl rfl ?_
              refine hkz6 _ ?_
              repeat (first | exact Sub.refl _ | refine Sub.skip rfl ?_)
            case Fz6 =>
              intro hcz6 hkz6
              have hqz6 := orO_f e15_9 hcz6
              obtain ⟨x15_5, e15_5, hqz6⟩ := bnd hqz6
              obtain ⟨g15_5, o15_5, _, ha15_5, ⟨a15_5_1, c15_5_1, rfl, r15_5_1⟩, hd15_5⟩ := Rd.atIdx r0_0 e15_5
              replace hd15_5 : ∀ (j : Nat) v, ([.int .i64 x15_5.Id, .int .i64 x15_5.X, .int .i64 x15_5.Y, .int .i64 x15_5.W, .int .i64 x15_5.H, .int .i64 x15_5.Alpha, .int .i64 x15_5.Orient, .bool x15_5.Visible, .int .i64 x15_5.Buffer.W, .int .i64 x15_5.Buffer.H, .slice a15_5_1 x15_5.Buffer.Data.length c15_5_1] : List Value)[j]? = some v → w.cell? ⟨g15_5, o15_5 + v2_0.toNat * 11 + j, .none⟩ = some v := hd15_5
              obtain rfl := Option.some.inj hqz6
              refine Lt.ofWL.step rfl rfl rfl (OpV.fieldAddr rfl fo_26_3) ?_
              refine Lt.ofWL.step rfl rfl rfl (OpV.loadBox rfl pt_24 (.head _) rfl) ?_
              refine Lt.ofWL.step rfl rfl rfl (OpV.move rfl) ?_
              refine Lt.ofWL.step rfl rfl rfl (OpV.idxA rfl rfl se_24 ha15_5 ⟨(idx_some e15_5).1, (idx_some e15_5).2.1⟩) ?_
              refine Lt.ofWL.step rfl rfl rfl (OpV.fieldAddr rfl fo_38_3) ?_
              refine Lt.ofWL.step rfl rfl rfl (OpV.load1 rfl pt_3 (fun w hs => hs.cell (hd15_5 3 _ rfl))) ?_
              refine Lt.ofWL.step rfl rfl rfl (OpV.neq rfl rfl) ?_
              refine hkz6 _ ?_ ?_
              exact rfl
              repeat (first | exact Sub.refl _ | refine Sub.skip rfl ?_)
            case az6 => exact rfl
            case bz6 => exact rfl
            case cz6 => exact rfl
            case dz6 => exact rfl
            refine Lt.ofWL.step rfl rfl rfl (OpV.assign rfl) ?_
            refine WL.nil ?_
            refine En.next ?_
            refine WC.seq ?_
            refine WC.inh fun hin16 => ?_
            have hn16_4 := ownLen hin16 (.tail _ (.head _))
            obtain ⟨x16_5, e16_5, zh0⟩ := bnd zh0
            obtain ⟨g16_4, ha16_4⟩ := ownAddrU hin16 (.tail _ (.head _)) e16_5
            refine WC.region ?_
            refine Lt.ofWL.step rfl rfl rfl (OpV.move rfl) ?_
            refine Lt.ofWL.step rfl rfl rfl (OpV.move rfl) ?_
            refine Lt.ofWL.step rfl rfl rfl (OpV.subR rfl rfl) ?_
            refine Lt.ofWL.step rfl rfl rfl (OpV.move rfl) ?_
            refine Lt.ofWL.step rfl rfl rfl (OpV.idxA rfl rfl se_32 ha16_4 ⟨(upd_some e16_5).1.1, by rw [hn16_4]; exact (upd_some e16_5).1.2⟩) ?_
            refine WL.wkF (fun _ h => St.elFlat tInt_flat v2_0 h) ?_
            refine WL.wkF (fun _ h => h.perm (List.perm_middle (l₁ := [_, _]))) ?_
            refine WL.wkF (fun _ h => h.perm (List.perm_middle (l₁ := [_]))) ?_
            refine WL.heavy0 rfl rfl (OpH.setEl (A := tInt) ha16_4 rfl rfl rfl ts_3 e16_5 ?_)
            intro f16_5
            refine WL.nil ?_
            refine En.next ?_
            refine WC.seq ?_
            refine WC.region ?_
            refine Lt.ofWL.step rfl rfl rfl (OpV.move rfl) ?_
            refine Lt.ofWL.step rfl rfl rfl (OpV.addR rfl rfl) ?_
            refine Lt.ofWL.step rfl rfl rfl (OpV.assign rfl) ?_
            refine WL.nil ?_
            refine En.next ?_
            obtain ⟨x18_2, e18_2, zh0⟩ := bnd zh0
            refine WC.region ?_
            refine Lt.ofWL.step rfl rfl rfl (OpV.loadAll rfl (.tail _ (.head _)) ag_26) ?_
            refine Lt.ofWL.step rfl rfl rfl (OpV.move rfl) ?_
            refine Lt.ofWL.step rfl rfl rfl (OpV.call (evs.cons rfl (evs.cons rfl (evs.nil))) ca_20 (fun w hs => w_impl_TopVisible e18_2 (r0_0.ext hs.below))) ?_
            refine Lt.ofWL.step rfl rfl rfl (OpV.assign rfl) ?_
            refine WL.nil ?_
            refine En.block_norm ?_
            refine En.next ?_
            refine WC.region ?_
            refine Lt.ofWL.step rfl rfl rfl (OpV.move rfl) ?_
            refine Lt.ofWL.step rfl rfl rfl (OpV.subR rfl rfl) ?_
            refine Lt.ofWL.step rfl rfl rfl (OpV.assign rfl) ?_
            refine WL.nil ?_
            exact En.backP zb0 zh0 f16_5 (Sub.cons rfl (Sub.cons rfl (Sub.cons rfl (Sub.cons rfl (Sub.cons rfl (Sub.cons rfl (Sub.nil _))))))) (fun _ h => (h).perm (List.perm_middle (l₁ := [_])))
        ·
          intro hc_3
          replace zh0 := ifO_f hc_3 zh0
          refine WC.exit ?_
          refine En.then_exit ?_
          refine En.then_exit ?_
          have hx := exitP ze0 zh0
          exact En.wk _ _ (Sub.cons rfl (Sub.cons rfl (Sub.nil _))) (fun _ h => ((h).perm (List.perm_middle (l₁ := [_]))).sub (.cons_cons _ (.cons _ (.slnil)))) (zK0_0 ((v_0, v1_0), fv_0) hx.symm)
    ·
      intro hc_2
      replace h := ifO_f hc_2 h
      refine WC.skip ?_
      refine En.next ?_
      refine WC.seq ?_
      refine WC.region ?_
      refine Lt.ofWL.step rfl rfl rfl (OpV.assign rfl) ?_
      refine WL.nil ?_
      refine En.next ?_
      refine WC.seq ?_
      refine WC.seq ?_
      refine WC.region ?_
      refine Lt.ofWL.step rfl rfl rfl (OpV.fieldAddr rfl fo_28_0) ?_
      refine Lt.ofWL.step rfl rfl rfl (OpV.loadBox rfl pt_3 (.tail _ (.head _)) rfl) ?_
      refine Lt.ofWL.step rfl rfl rfl (OpV.assign rfl) ?_
      refine WL.nil ?_
      refine En.next ?_
      refine WC.block ?_
      obtain ⟨zy1, ezy1, h⟩ := bnd h
      refine WC.cut (X := ((List Int) × Int) × ((List Nat))) (.exit 0) (fun x => zy1 = x.1) (fun x => match x with | ((v_1e, v1_1e), fv_1e) => [(6, .slice (some ⟨b3_0, 0, .none⟩) 3 3), (7, .int .i64 v1_1e)]) (fun x => match x with | ((v_1e, v1_1e), fv_1e) => [Chunk.own tInt fv_1e (some ⟨b3_0, 0, .none⟩) 3 3 v_1e]) ?_ ?_
      ·
        rintro ⟨⟨v_1e, v1_1e⟩, fv_1e⟩ hx
        replace hx : (v_1e, v1_1e) = zy1 := hx.symm
        subst hx
        show En _ _ _ _ [(6, .slice (some ⟨b3_0, 0, .none⟩) 3 3), (7, .int .i64 v1_1e)] [Chunk.own tInt fv_1e (some ⟨b3_0, 0, .none⟩) 3 3 v_1e]
        refine En.block_exit ?_
        refine En.next ?_
        refine WC.seq ?_
        refine WC.region ?_
        refine Lt.ofWL.step rfl rfl rfl (OpV.move rfl) ?_
        refine Lt.ofWL.step rfl rfl rfl (OpV.move rfl) ?_
        refine Lt.ofWL.step rfl rfl rfl (OpV.assign rfl) ?_
        refine Lt.ofWL.step rfl rfl rfl (OpV.assign rfl) ?_
        refine WL.nil ?_
        refine En.next ?_
        refine WC.ret ?_
        refine En.ret2 rfl (Res.tmp rfl) (Res.tmp rfl) ?_
        obtain rfl := Option.some.inj h
        intro w' hs
        have hs := hs
        exact ⟨_, _, rfl, ⟨(some ⟨b3_0, 0, .none⟩), 3, 3, fv_1e, rfl, rfl⟩, hs⟩
      ·
        intro zK1_0
        refine WC.loopP (G := (List Nat)) (fun s g => match s, g with | (v_1, v1_1, v2_1, v3_1, v4_1), fv_1 => [(2, .pointer (some ⟨b0_0, 0, .none⟩)), (6, .slice (some ⟨b3_0, 0, .none⟩) 3 3), (7, .int .i64 v1_1), (8, .int .i64 v2_1), (9, .bool v3_1), (10, .int .i64 v4_1)]) (fun s g => match s, g with | (v_1, v1_1, v2_1, v3_1, v4_1), fv_1 => [Chunk.box b0_0 26 [.int .i64 a_p0.W, .int .i64 a_p0.H, .int .i64 a_p0.Back, .slice q0_0 a_p0.Surfaces.length k0_0], Chunk.own tInt fv_1 (some ⟨b3_0, 0, .none⟩) 3 3 v_1]) ([(-1), (-1), (-1)], 0, x5_1, false, a_p1.Overlays) [b3_0] ezy1 (by exact Sub.cons rfl (Sub.cons rfl (Sub.cons rfl (Sub.cons rfl (Sub.cons rfl (Sub.cons rfl (Sub.nil _))))))) (by exact (fun _ h => ((h).perm (List.perm_middle (l₁ := [_, _]))).sub (.cons_cons _ (.cons_cons _ (.cons _ (.slnil)))))) ?_
        rintro zm1 ⟨v_1, v1_1, v2_1, v3_1, v4_1⟩ fv_1 zo1 zf1 zb1 ze1
        have zh1 : impl_AssignedOf_L1 a_p0 v_1 v1_1 v2_1 v3_1 v4_1 = some zo1 := zf1
        unfold impl_AssignedOf_L1 at zh1
        show WC _ _ _ _ _ [(2, .pointer (some ⟨b0_0, 0, .none⟩)), (6, .slice (some ⟨b3_0, 0, .none⟩) 3 3), (7, .int .i64 v1_1), (8, .int .i64 v2_1), (9, .bool v3_1), (10, .int .i64 v4_1)] [Chunk.box b0_0 26 [.int .i64 a_p0.W, .int .i64 a_p0.H, .int .i64 a_p0.Back, .slice q0_0 a_p0.Surfaces.length k0_0], Chunk.own tInt fv_1 (some ⟨b3_0, 0, .none⟩) 3 3 v_1]
        refine WC.seq ?_
        refine WC.seq ?_
        refine WC.region ?_
        refine Lt.ofWL.step rfl rfl rfl (OpV.move rfl) ?_
        refine Lt.ofWL.step rfl rfl rfl (OpV.geq rfl rfl) ?_
        refine WL.nil ?_
        refine En.next ?_
        refine WC.cond rfl ?_ ?_
        ·
          intro hc_5
          replace zh1 := ifO_t hc_5 zh1
          refine WC.skip ?_
          refine En.next ?_
          refine WC.seq ?_
          refine WC.block ?_
          refine WC.seq ?_
          refine WC.seq ?_
          obtain ⟨q14_13, e14_13, zh1⟩ := bnd zh1
          refine WC.region ?_
          refine Lt.ofWL.step rfl rfl rfl (OpV.move rfl) ?_
          refine Lt.ofWL.step rfl rfl rfl (OpV.lss rfl rfl) ?_
          refine Lt.ofWL.step rfl rfl rfl (OpV.move rfl) ?_
          refine Lt.ofWL.orQ 52 63 62 (p := ?pz7) (rest := ?qz7) (B := q14_13) rfl (fun hz => orO_t e14_13 hz) ?Tz7 ?Fz7 ?az7 ?bz7 ?cz7 ?dz7 ?ez7
          case Tz7 =>
            intro hcz7 hkz7
            refine Lt.ofWL.skip rfl rfl rfl ?_
            refine Lt.ofWL.skip rfl rfl rfl ?_
            refine Lt.ofWL.skip rfl rfl rfl ?_
            refine Lt.ofWL.skip rfl rfl rfl ?_
            refine Lt.ofWL.skip rfl rfl rfl ?_
            refine Lt.ofWL.skip rfl rfl rfl ?_
            refine Lt.ofWL.skip rfl rfl rfl ?_
            refine Lt.ofWL.skip rfl rfl rfl ?_
            refine Lt.ofWL.skip rfl rfl rfl ?_
            refine Lt.ofWL.skip rfl rfl rfl ?_
            refine hkz7 _ ?_
            repeat (first | exact Sub.refl _ | refine Sub.skip rfl ?_)
          case Fz7 =>
            intro hcz7 hkz7
            have hqz7 := orO_f e14_13 hcz7
            obtain ⟨x14_6, e14_6, hqz7⟩ := bnd hqz7
            obtain ⟨g14_6, o14_6, _, ha14_6, ⟨a14_6_1, c14_6_1, rfl, r14_6_1⟩, hd14_6⟩ := Rd.atIdx r0_0 e14_6
            replace hd14_6 : ∀ (j : Nat) v, ([.int .i64 x14_6.Id, .int .i64 x14_6.X, .int .i64 x14_6.Y, .int .i64 x14_6.W, .int .i64 x14_6.H, .int .i64 x14_6.Alpha, .int .i64 x14_6.Orient, .bool x14_6.Visible, .int .i64 x14_6.Buffer.W, .int .i64 x14_6.Buffer.H, .slice a14_6_1 x14_6.Buffer.Data.length c14_6_1] : List Value)[j]? = some v → w.cell? ⟨g14_6, o14_6 + v2_1.toNat * 11 + j, .none⟩ = some v := hd14_6
            obtain rfl := Option.some.inj hqz7
            refine Lt.ofWL.step rfl rfl rfl (OpV.fieldAddr rfl fo_26_3) ?_
            refine Lt.ofWL.step rfl rfl rfl (OpV.loadBox rfl pt_24 (.head _) rfl) ?_
            refine Lt.ofWL.step rfl rfl rfl (OpV.move rfl) ?_
            refine Lt.ofWL.step rfl rfl rfl (OpV.idxA rfl rfl se_24 ha14_6 ⟨(idx_some e14_6).1, (idx_some e14_6).2.1⟩) ?_
            refine Lt.ofWL.step rfl rfl rfl (OpV.fieldAddr rfl fo_38_3) ?_
            refine Lt.ofWL.step rfl rfl rfl (OpV.load1 rfl pt_3 (fun w hs => hs.cell (hd14_6 3 _ rfl))) ?_
            refine Lt.ofWL.step rfl rfl rfl (OpV.neq rfl rfl) ?_
            refine Lt.ofWL.step rfl rfl rfl (OpV.move rfl) ?_
            refine Lt.ofWL.and 60 62 61 (p := ?pz8) (rest := ?qz8) (B := ?Bz8) rfl ?Tz8 ?Fz8 ?az8 ?bz8 ?cz8 ?dz8 ?ez8
            case Tz8 =>
              intro hcz8 hkz8
              refine Lt.ofWL.step rfl rfl rfl (OpV.move rfl) ?_
              refine hkz8 _ ?_ ?_
              exact rfl
              repeat (first | exact Sub.refl _ | refine Sub.skip rfl ?_)
            case Fz8 =>
              intro hcz8 hkz8
              refine Lt.ofWL.skip rfl rfl rfl ?_
              refine hkz8 _ ?_
              repeat (first | exact Sub.refl _ | refine Sub.skip rfl ?_)
            case az8 => exact rfl
            case bz8 => exact rfl
            case cz8 => exact rfl
            case dz8 => exact rfl
            refine hkz7 _ ?_ ?_
            exact rfl
            repeat (first | exact Sub.refl _ | refine Sub.skip rfl ?_)
          case az7 => exact rfl
          case bz7 => exact rfl
          case cz7 => exact rfl
          case dz7 => exact rfl
          refine WL.nil ?_
          refine En.next ?_
          refine WC.cond rfl ?_ ?_
          ·
            intro hc_6
            replace zh1 := ifO_t hc_6 zh1
            refine WC.exit ?_
            refine En.then_exit ?_
            refine En.block_exit' rfl ?_
            refine En.then_exit ?_
            refine En.then_exit ?_
            have hx := exitP ze1 zh1
            exact En.wk _ _ (Sub.cons rfl (Sub.cons rfl (Sub.nil _))) (fun _ h => ((h).perm (List.perm_middle (l₁ := [_]))).sub (.cons_cons _ (.cons _ (.slnil)))) (zK1_0 ((v_1, v1_1), fv_1) hx.symm)
          ·
            intro hc_6
            replace zh1 := ifO_f hc_6 zh1
            refine WC.skip ?_
            refine En.next ?_
            refine WC.seq ?_
            obtain ⟨q15_9, e15_9, zh1⟩ := bnd zh1
            refine WC.region ?_
            refine Lt.ofWL.step rfl rfl rfl (OpV.move rfl) ?_
            refine Lt.ofWL.step rfl rfl rfl (OpV.move rfl) ?_
            refine Lt.ofWL.orQ 65 73 72 (p := ?pz9) (rest := ?qz9) (B := q15_9) rfl (fun hz => orO_t e15_9 hz) ?Tz9 ?Fz9 ?az9 ?bz9 ?cz9 ?dz9 ?ez9
            case Tz9 =>
              intro hcz9 hkz9
              refine Lt.ofWL.skip rfl rfl rfl ?_
              refine Lt.ofWL.skip rfl rfl rfl ?_
              refine Lt.ofWL.skip rfl rfl rfl ?_
              refine Lt.ofWL.skip rfl rfl rfl ?_
              refine Lt.ofWL.skip rfl rfl rfl ?_
              refine Lt.ofWL.skip rfl rfl rfl ?_
              refine Lt.ofWL.skip rfl rfl rfl ?_
              refine hkz9 _ ?_
              repeat (first | exact Sub.refl _ | refine Sub.skip rfl ?_)
            case Fz9 =>
              intro hcz9 hkz9
              have hqz9 := orO_f e15_9 hcz9
              obtain ⟨x15_5, e15_5, hqz9⟩ := bnd hqz9
              obtain ⟨g15_5, o15_5, _, ha15_5, ⟨a15_5_1, c15_5_1, rfl, r15_5_1⟩, hd15_5⟩ := Rd.atIdx r0_0 e15_5
              replace hd15_5 : ∀ (j : Nat) v, ([.int .i64 x15_5.Id, .int .i64 x15_5.X, .int .i64 x15_5.Y, .int .i64 x15_5.W, .int .i64 x15_5.H, .int .i64 x15_5.Alpha, .int .i64 x15_5.Orient, .bool x15_5.Visible, .int .i64 x15_5.Buffer.W, .int .i64 x15_5.Buffer.H, .slice a15_5_1 x15_5.Buffer.Data.length c15_5_1] : List Value)[j]? = some v → w.cell? ⟨g15_5, o15_5 + v2_1.toNat * 11 + j, .none⟩ = some v := hd15_5
              obtain rfl := Option.some.inj hqz9
              refine Lt.ofWL.step rfl rfl rfl (OpV.fieldAddr rfl fo_26_3) ?_
              refine Lt.ofWL.step rfl rfl rfl (OpV.loadBox rfl pt_24 (.head _) rfl) ?_
              refine Lt.ofWL.step rfl rfl rfl (OpV.move rfl) ?_
              refine Lt.ofWL.step rfl rfl rfl (OpV.idxA rfl rfl se_24 ha15_5 ⟨(idx_some e15_5).1, (idx_some e15_5).2.1⟩) ?_
              refine Lt.ofWL.step rfl rfl rfl (OpV.fieldAddr rfl fo_38_3) ?_
              refine Lt.ofWL.step rfl rfl rfl (OpV.load1 rfl pt_3 (fun w hs => hs.cell (hd15_5 3 _ rfl))) ?_
              refine Lt.ofWL.step rfl rfl rfl (OpV.neq rfl rfl) ?_
              refine hkz9 _ ?_ ?_
              exact rfl
              repeat (first | exact Sub.refl _ | refine Sub.skip rfl ?_)
            case az9 => exact rfl
            case bz9 => exact rfl
            case cz9 => exact rfl
            case dz9 => exact rfl
            refine Lt.ofWL.step rfl rfl rfl (OpV.assign rfl) ?_
            refine WL.nil ?_
            refine En.next ?_
            refine WC.seq ?_
            refine WC.inh fun hin16 => ?_
            have hn16_4 := ownLen hin16 (.tail _ (.head _))
            obtain ⟨x16_5, e16_5, zh1⟩ := bnd zh1
            obtain ⟨g16_4, ha16_4⟩ := ownAddrU hin16 (.tail _ (.head _)) e16_5
            refine WC.region ?_
            refine Lt.ofWL.step rfl rfl rfl (OpV.move rfl) ?_
            refine Lt.ofWL.step rfl rfl rfl (OpV.move rfl) ?_
            refine Lt.ofWL.step rfl rfl rfl (OpV.subR rfl rfl) ?_
            refine Lt.ofWL.step rfl rfl rfl (OpV.move rfl) ?_
            refine Lt.ofWL.step rfl rfl rfl (OpV.idxA rfl rfl se_32 ha16_4 ⟨(upd_some e16_5).1.1, by rw [hn16_4]; exact (upd_some e16_5).1.2⟩) ?_
            refine WL.wkF (fun _ h => St.elFlat tInt_flat v2_1 h) ?_
            refine WL.wkF (fun _ h => h.perm (List.perm_middle (l₁ := [_, _]))) ?_
            refine WL.wkF (fun _ h => h.perm (List.perm_middle (l₁ := [_]))) ?_
            refine WL.heavy0 rfl rfl (OpH.setEl (A := tInt) ha16_4 rfl rfl rfl ts_3 e16_5 ?_)
            intro f16_5
            refine WL.nil ?_
            refine En.next ?_
            refine WC.seq ?_
            refine WC.region ?_
            refine Lt.ofWL.step rfl rfl rfl (OpV.move rfl) ?_
            refine Lt.ofWL.step rfl rfl rfl (OpV.addR rfl rfl) ?_
            refine Lt.ofWL.step rfl rfl rfl (OpV.assign rfl) ?_
            refine WL.nil ?_
            refine En.next ?_
            obtain ⟨x18_2, e18_2, zh1⟩ := bnd zh1
            refine WC.region ?_
            refine Lt.ofWL.step rfl rfl rfl (OpV.loadAll rfl (.tail _ (.head _)) ag_26) ?_
            refine Lt.ofWL.step rfl rfl rfl (OpV.move rfl) ?_
            refine Lt.ofWL.step rfl rfl rfl (OpV.call (evs.cons rfl (evs.cons rfl (evs.nil))) ca_20 (fun w hs => w_impl_TopVisible e18_2 (r0_0.ext hs.below))) ?_
            refine Lt.ofWL.step rfl rfl rfl (OpV.assign rfl) ?_
            refine WL.nil ?_
            refine En.block_norm ?_
            refine En.next ?_
            refine WC.region ?_
            refine Lt.ofWL.step rfl rfl rfl (OpV.move rfl) ?_
            refine Lt.ofWL.step rfl rfl rfl (OpV.subR rfl rfl) ?_
            refine Lt.ofWL.step rfl rfl rfl (OpV.assign rfl) ?_
            refine WL.nil ?_
            exact En.backP zb1 zh1 f16_5 (Sub.cons rfl (Sub.cons rfl (Sub.cons rfl (Sub.cons rfl (Sub.cons rfl (Sub.cons rfl (Sub.nil _))))))) (fun _ h => (h).perm (List.perm_middle (l₁ := [_])))
        ·
          intro hc_5
          replace zh1 := ifO_f hc_5 zh1
          refine WC.exit ?_
          refine En.then_exit ?_
          refine En.then_exit ?_
          have hx := exitP ze1 zh1
          exact En.wk _ _ (Sub.cons rfl (Sub.cons rfl (Sub.nil _))) (fun _ h => ((h).perm (List.perm_middle (l₁ := [_]))).sub (.cons_cons _ (.cons _ (.slnil)))) (zK1_0 ((v_1, v1_1), fv_1) hx.symm)

theorem w_laws_eqIntS {a_p0 : List Int} {b_p1 : List Int} {r : Bool} {q0_0 : Option Addr} {n0_0 k0_0 : Nat} {q1_0 : Option Addr} {n1_0 k1_0 : Nat} (h : laws_eqIntS a_p0 b_p1 = some r) {w : World} (r0_0 : Rd tInt w q0_0 n0_0 k0_0 a_p0) (r1_0 : Rd tInt w q1_0 n1_0 k1_0 b_p1)   :
    Calls Try.prog 25 #[.slice q0_0 n0_0 k0_0, .slice q1_0 n1_0 k1_0] w (fun en w' => en = .returned (.bool r) ∧ Ext w w') := by
  obtain rfl := r0_0.1
  obtain rfl := r1_0.1
  unfold laws_eqIntS at h
  refine enter (vs := [_, _]) Try.func25 rfl rfl rfl rfl ?_
  refine WC.seq ?_
  refine WC.region ?_
  refine Lt.ofWL.step rfl rfl rfl (OpV.assign rfl) ?_
  refine WL.nil ?_
  refine En.next ?_
  refine WC.seq ?_
  refine WC.seq ?_
  refine WC.region ?_
  refine Lt.ofWL.step rfl rfl rfl (OpV.move rfl) ?_
  refine Lt.ofWL.step rfl rfl rfl (OpV.len rfl si_32 rfl) ?_
  refine Lt.ofWL.step rfl rfl rfl (OpV.move rfl) ?_
  refine Lt.ofWL.step rfl rfl rfl (OpV.len rfl si_32 rfl) ?_
  refine Lt.ofWL.step rfl rfl rfl (OpV.neq rfl rfl) ?_
  refine WL.nil ?_
  refine En.next ?_
  refine WC.cond rfl ?_ ?_
  ·
    intro hc_1
    replace h := ifO_t hc_1 h
    refine WC.seq ?_
    refine WC.region ?_
    refine Lt.ofWL.step rfl rfl rfl (OpV.assign rfl) ?_
    refine WL.nil ?_
    refine En.next ?_
    refine WC.ret ?_
    refine En.then_ret ?_
    refine En.ret1 rfl (Res.tmp rfl) ?_
    obtain rfl := Option.some.inj h
    intro w' hs
    exact ⟨rfl, hs.below⟩
  ·
    intro hc_1
    replace h := ifO_f hc_1 h
    refine WC.skip ?_
    refine En.next ?_
    refine WC.seq ?_
    refine WC.seq ?_
    refine WC.region ?_
    refine Lt.ofWL.step rfl rfl rfl (OpV.assign rfl) ?_
    refine WL.nil ?_
    refine En.next ?_
    refine WC.block ?_
    obtain ⟨zy0, ezy0, h⟩ := bnd h
    refine WC.cut (X := (Unit) × (Unit)) (.exit 0) (fun x => zy0 = .inl x.1) (fun x => match x with | ((), ()) => []) (fun x => match x with | ((), ()) => []) ?_ ?_
    ·
      rintro ⟨⟨⟩, ⟨⟩⟩ hx
      replace hx : .inl () = zy0 := hx.symm
      subst hx
      replace h := fork_l h
      show En _ _ _ _ [] []
      refine En.block_exit ?_
      refine En.next ?_
      refine WC.seq ?_
      refine WC.region ?_
      refine Lt.ofWL.step rfl rfl rfl (OpV.assign rfl) ?_
      refine WL.nil ?_
      refine En.next ?_
      refine WC.ret ?_
      refine En.ret1 rfl (Res.tmp rfl) ?_
      obtain rfl := Option.some.inj h
      intro w' hs
      exact ⟨rfl, hs.below⟩
    ·
      intro zK0_0
      refine WC.loopP (G := Unit) (fun s g => match s, g with | i_0, () => [(0, .slice q0_0 a_p0.length k0_0), (1, .slice q1_0 b_p1.length k1_0), (5, .int .i64 i_0)]) (fun s g => match s, g with | i_0, () => []) 0 () ezy0 (by exact Sub.cons rfl (Sub.cons rfl (Sub.cons rfl (Sub.nil _)))) (by exact (fun _ h => h)) ?_
      rintro zm0 i_0 ⟨⟩ zo0 zf0 zb0 ze0
      have zh0 : laws_eqIntS_L0 a_p0 b_p1 i_0 = some zo0 := zf0
      unfold laws_eqIntS_L0 at zh0
      show WC _ _ _ _ _ [(0, .slice q0_0 a_p0.length k0_0), (1, .slice q1_0 b_p1.length k1_0), (5, .int .i64 i_0)] []
      refine WC.seq ?_
      refine WC.seq ?_
      refine WC.region ?_
      refine Lt.ofWL.step rfl rfl rfl (OpV.move rfl) ?_
      refine Lt.ofWL.step rfl rfl rfl (OpV.move rfl) ?_
      refine Lt.ofWL.step rfl rfl rfl (OpV.len rfl si_32 rfl) ?_
      refine Lt.ofWL.step rfl rfl rfl (OpV.lss rfl rfl) ?_
      refine WL.nil ?_
      refine En.next ?_
      refine WC.cond rfl ?_ ?_
      ·
        intro hc_2
        replace zh0 := ifO_t hc_2 zh0
        refine WC.skip ?_
        refine En.next ?_
        refine WC.seq ?_
        refine WC.block ?_
        refine WC.seq ?_
        obtain ⟨x6_2, e6_2, zh0⟩ := bnd zh0
        obtain ⟨g6_2, o6_2, _, ha6_2, rfl, hd6_2⟩ := Rd.atIdx r0_0 e6_2
        replace hd6_2 : ∀ (j : Nat) v, ([.int .i64 x6_2] : List Value)[j]? = some v → w.cell? ⟨g6_2, o6_2 + i_0.toNat * 1 + j, .none⟩ = some v := hd6_2
        obtain ⟨x6_6, e6_6, zh0⟩ := bnd zh0
        obtain ⟨g6_6, o6_6, _, ha6_6, rfl, hd6_6⟩ := Rd.atIdx r1_0 e6_6
        replace hd6_6 : ∀ (j : Nat) v, ([.int .i64 x6_6] : List Value)[j]? = some v → w.cell? ⟨g6_6, o6_6 + i_0.toNat * 1 + j, .none⟩ = some v := hd6_6
        refine WC.drawn [(0, ?r6v0), (1, ?r6v1), (5, ?r6v5), (25, ?r6v25)] (by kernel_rfl) (by kernel_rfl) ?dH6 ?dK6
        case dH6 =>
          intro W hW hk
          refine hW.step rfl rfl rfl (OpV.move rfl) ?_
          refine hW.step rfl rfl rfl (OpV.move rfl) ?_
          refine hW.step rfl rfl rfl (OpV.idxA rfl rfl se_32 ha6_2 ⟨(idx_some e6_2).1, (idx_some e6_2).2.1⟩) ?_
          refine hW.step rfl rfl rfl (OpV.load1 rfl pt_3 (fun w hs => hs.cell (hd6_2 0 _ rfl))) ?_
          refine hW.step rfl rfl rfl (OpV.move rfl) ?_
          refine hW.step rfl rfl rfl (OpV.move rfl) ?_
          refine hW.step rfl rfl rfl (OpV.idxA rfl rfl se_32 ha6_6 ⟨(idx_some e6_6).1, (idx_some e6_6).2.1⟩) ?_
          refine hW.step rfl rfl rfl (OpV.load1 rfl pt_3 (fun w hs => hs.cell (hd6_6 0 _ rfl))) ?_
          refine hW.step rfl rfl rfl (OpV.neq rfl rfl) ?_
          refine hk _ ?_
          refine Sub.cons ?_ (Sub.cons ?_ (Sub.cons ?_ (Sub.cons ?_ (Sub.nil _))))
          all_goals exact rfl
        refine En.next ?_
        refine WC.cond rfl ?_ ?_
        ·
          intro hc_3
          replace zh0 := ifO_t hc_3 zh0
          refine WC.seq ?_
          refine WC.region ?_
          refine Lt.ofWL.step rfl rfl rfl (OpV.assign rfl) ?_
          refine WL.nil ?_
          refine En.next ?_
          refine WC.ret ?_
          refine En.block_ret ?_
          refine En.then_ret ?_
          refine En.then_ret ?_
          refine En.block_ret ?_
          refine En.then_ret ?_
          refine En.ret1 rfl (Res.tmp rfl) ?_
          have hx := exitP ze0 zh0
          subst hx
          replace h := fork_r h
          obtain rfl := Option.some.inj h
          intro w' hs
          exact ⟨rfl, hs.below⟩
        ·
          intro hc_3
          replace zh0 := ifO_f hc_3 zh0
          refine WC.skip ?_
          refine En.block_norm ?_
          refine En.next ?_
          refine WC.region ?_
          refine Lt.ofWL.step rfl rfl rfl (OpV.move rfl) ?_
          refine Lt.ofWL.step rfl rfl rfl (OpV.addR rfl rfl) ?_
          refine Lt.ofWL.step rfl rfl rfl (OpV.assign rfl) ?_
          refine WL.nil ?_
          exact En.backP zb0 zh0 () (Sub.cons rfl (Sub.cons rfl (Sub.cons rfl (Sub.nil _)))) (fun _ h => h)
      ·
        intro hc_2
        replace zh0 := ifO_f hc_2 zh0
        refine WC.exit ?_
        refine En.then_exit ?_
        refine En.then_exit ?_
        have hx := exitP ze0 zh0
        exact En.wk _ _ (Sub.nil _) (fun _ h => h) (zK0_0 ((), ()) hx.symm)

theorem w_laws_eqImage {a_p0 : ImageT} {b_p1 : ImageT} {r : Bool} {q0_0 : Option Addr} {n0_0 k0_0 : Nat} {q1_0 : Option Addr} {n1_0 k1_0 : Nat} (h : laws_eqImage a_p0 b_p1 = some r) {w : World} (r0_0 : Rd tInt w q0_0 n0_0 k0_0 a_p0.Data) (r1_0 : Rd tInt w q1_0 n1_0 k1_0 b_p1.Data)   :
    Calls Try.prog 43 #[.agg #[.int .i64 a_p0.W, .int .i64 a_p0.H, .slice q0_0 n0_0 k0_0], .agg #[.int .i64 b_p1.W, .int .i64 b_p1.H, .slice q1_0 n1_0 k1_0]] w (fun en w' => en = .returned (.bool r) ∧ Ext w w') := by
  obtain rfl := r0_0.1
  obtain rfl := r1_0.1
  unfold laws_eqImage at h
  refine enter (vs := [_, _]) Try.func43 rfl rfl rfl rfl ?_
  refine WC.seq ?_
  refine WC.region ?_
  refine WL.heavy rfl rfl rfl (OpH.box rfl rfl ?_)
  intro b0_0
  refine WL.heavy rfl rfl rfl (OpH.box rfl rfl ?_)
  intro b0_1
  refine Lt.ofWL.step rfl rfl rfl (OpV.assign rfl) ?_
  refine WL.nil ?_
  refine En.next ?_
  refine WC.seq ?_
  refine WC.seq ?_
  refine WC.region ?_
  refine Lt.ofWL.step rfl rfl rfl (OpV.fieldAddr rfl fo_36_0) ?_
  refine Lt.ofWL.step rfl rfl rfl (OpV.loadBox rfl pt_3 (.tail _ (.head _)) rfl) ?_
  refine Lt.ofWL.step rfl rfl rfl (OpV.fieldAddr rfl fo_36_0) ?_
  refine Lt.ofWL.step rfl rfl rfl (OpV.loadBox rfl pt_3 (.head _) rfl) ?_
  refine Lt.ofWL.step rfl rfl rfl (OpV.neq rfl rfl) ?_
  refine WL.nil ?_
  refine En.next ?_
  refine WC.cond rfl ?_ ?_
  ·
    intro hc_1
    replace h := ifO_t hc_1 h
    refine WC.seq ?_
    refine WC.region ?_
    refine Lt.ofWL.step rfl rfl rfl (OpV.assign rfl) ?_
    refine WL.nil ?_
    refine En.next ?_
    refine WC.ret ?_
    refine En.then_ret ?_
    refine En.ret1 rfl (Res.tmp rfl) ?_
    obtain rfl := Option.some.inj h
    intro w' hs
    exact ⟨rfl, hs.below⟩
  ·
    intro hc_1
    replace h := ifO_f hc_1 h
    refine WC.skip ?_
    refine En.next ?_
    refine WC.seq ?_
    refine WC.seq ?_
    refine WC.region ?_
    refine Lt.ofWL.step rfl rfl rfl (OpV.fieldAddr rfl fo_36_1) ?_
    refine Lt.ofWL.step rfl rfl rfl (OpV.loadBox rfl pt_3 (.tail _ (.head _)) rfl) ?_
    refine Lt.ofWL.step rfl rfl rfl (OpV.fieldAddr rfl fo_36_1) ?_
    refine Lt.ofWL.step rfl rfl rfl (OpV.loadBox rfl pt_3 (.head _) rfl) ?_
    refine Lt.ofWL.step rfl rfl rfl (OpV.neq rfl rfl) ?_
    refine WL.nil ?_
    refine En.next ?_
    refine WC.cond rfl ?_ ?_
    ·
      intro hc_2
      replace h := ifO_t hc_2 h
      refine WC.seq ?_
      refine WC.region ?_
      refine Lt.ofWL.step rfl rfl rfl (OpV.assign rfl) ?_
      refine WL.nil ?_
      refine En.next ?_
      refine WC.ret ?_
      refine En.then_ret ?_
      refine En.ret1 rfl (Res.tmp rfl) ?_
      obtain rfl := Option.some.inj h
      intro w' hs
      exact ⟨rfl, hs.below⟩
    ·
      intro hc_2
      replace h := ifO_f hc_2 h
      refine WC.skip ?_
      refine En.next ?_
      refine WC.seq ?_
      refine WC.seq ?_
      obtain ⟨x5_4, e5_4, h⟩ := bnd h
      refine WC.region ?_
      refine Lt.ofWL.step rfl rfl rfl (OpV.fieldAddr rfl fo_36_2) ?_
      refine Lt.ofWL.step rfl rfl rfl (OpV.loadBox rfl pt_32 (.tail _ (.head _)) rfl) ?_
      refine Lt.ofWL.step rfl rfl rfl (OpV.fieldAddr rfl fo_36_2) ?_
      refine Lt.ofWL.step rfl rfl rfl (OpV.loadBox rfl pt_32 (.head _) rfl) ?_
      refine Lt.ofWL.step rfl rfl rfl (OpV.call (evs.cons rfl (evs.cons rfl (evs.nil))) ca_25 (fun w hs => w_laws_eqIntS e5_4 (r0_0.ext hs.below) (r1_0.ext hs.below))) ?_
      refine Lt.ofWL.step rfl rfl rfl (OpV.not rfl) ?_
      refine WL.nil ?_
      refine En.next ?_
      refine WC.cond rfl ?_ ?_
      ·
        intro hc_3
        replace h := ifO_t hc_3 h
        refine WC.seq ?_
        refine WC.region ?_
        refine Lt.ofWL.step rfl rfl rfl (OpV.assign rfl) ?_
        refine WL.nil ?_
        refine En.next ?_
        refine WC.ret ?_
        refine En.then_ret ?_
        refine En.ret1 rfl (Res.tmp rfl) ?_
        obtain rfl := Option.some.inj h
        intro w' hs
        exact ⟨rfl, hs.below⟩
      ·
        intro hc_3
        replace h := ifO_f hc_3 h
        refine WC.skip ?_
        refine En.next ?_
        refine WC.seq ?_
        refine WC.region ?_
        refine Lt.ofWL.step rfl rfl rfl (OpV.assign rfl) ?_
        refine WL.nil ?_
        refine En.next ?_
        refine WC.ret ?_
        refine En.ret1 rfl (Res.tmp rfl) ?_
        obtain rfl := Option.some.inj h
        intro w' hs
        exact ⟨rfl, hs.below⟩

theorem w_laws_eqSurface {a_p0 : SurfaceT} {b_p1 : SurfaceT} {r : Bool} {q0_0 : Option Addr} {n0_0 k0_0 : Nat} {q1_0 : Option Addr} {n1_0 k1_0 : Nat} (h : laws_eqSurface a_p0 b_p1 = some r) {w : World} (r0_0 : Rd tInt w q0_0 n0_0 k0_0 a_p0.Buffer.Data) (r1_0 : Rd tInt w q1_0 n1_0 k1_0 b_p1.Buffer.Data)   :
    Calls Try.prog 129 #[.agg #[.int .i64 a_p0.Id, .int .i64 a_p0.X, .int .i64 a_p0.Y, .int .i64 a_p0.W, .int .i64 a_p0.H, .int .i64 a_p0.Alpha, .int .i64 a_p0.Orient, .bool a_p0.Visible, .int .i64 a_p0.Buffer.W, .int .i64 a_p0.Buffer.H, .slice q0_0 n0_0 k0_0], .agg #[.int .i64 b_p1.Id, .int .i64 b_p1.X, .int .i64 b_p1.Y, .int .i64 b_p1.W, .int .i64 b_p1.H, .int .i64 b_p1.Alpha, .int .i64 b_p1.Orient, .bool b_p1.Visible, .int .i64 b_p1.Buffer.W, .int .i64 b_p1.Buffer.H, .slice q1_0 n1_0 k1_0]] w (fun en w' => en = .returned (.bool r) ∧ Ext w w') := by
  obtain rfl := r0_0.1
  obtain rfl := r1_0.1
  unfold laws_eqSurface at h
  refine enter (vs := [_, _]) Try.func129 rfl rfl rfl rfl ?_
  refine WC.seq ?_
  refine WC.region ?_
  refine WL.heavy rfl rfl rfl (OpH.box rfl rfl ?_)
  intro b0_0
  refine WL.heavy rfl rfl rfl (OpH.box rfl rfl ?_)
  intro b0_1
  refine Lt.ofWL.step rfl rfl rfl (OpV.assign rfl) ?_
  refine WL.nil ?_
  refine En.next ?_
  refine WC.seq ?_
  refine WC.seq ?_
  refine WC.region ?_
  refine Lt.ofWL.step rfl rfl rfl (OpV.fieldAddr rfl fo_38_0) ?_
  refine Lt.ofWL.step rfl rfl rfl (OpV.loadBox rfl pt_3 (.tail _ (.head _)) rfl) ?_
  refine Lt.ofWL.step rfl rfl rfl (OpV.fieldAddr rfl fo_38_0) ?_
  refine Lt.ofWL.step rfl rfl rfl (OpV.loadBox rfl pt_3 (.head _) rfl) ?_
  refine Lt.ofWL.step rfl rfl rfl (OpV.neq rfl rfl) ?_
  refine WL.nil ?_
  refine En.next ?_
  refine WC.cond rfl ?_ ?_
  ·
    intro hc_1
    replace h := ifO_t hc_1 h
    refine WC.seq ?_
    refine WC.region ?_
    refine Lt.ofWL.step rfl rfl rfl (OpV.assign rfl) ?_
    refine WL.nil ?_
    refine En.next ?_
    refine WC.ret ?_
    refine En.then_ret ?_
    refine En.ret1 rfl (Res.tmp rfl) ?_
    obtain rfl := Option.some.inj h
    intro w' hs
    exact ⟨rfl, hs.below⟩
  ·
    intro hc_1
    replace h := ifO_f hc_1 h
    refine WC.skip ?_
    refine En.next ?_
    refine WC.seq ?_
    refine WC.seq ?_
    refine WC.region ?_
    refine Lt.ofWL.step rfl rfl rfl (OpV.fieldAddr rfl fo_38_1) ?_
    refine Lt.ofWL.step rfl rfl rfl (OpV.loadBox rfl pt_3 (.tail _ (.head _)) rfl) ?_
    refine Lt.ofWL.step rfl rfl rfl (OpV.fieldAddr rfl fo_38_1) ?_
    refine Lt.ofWL.step rfl rfl rfl (OpV.loadBox rfl pt_3 (.head _) rfl) ?_
    refine Lt.ofWL.step rfl rfl rfl (OpV.neq rfl rfl) ?_
    refine WL.nil ?_
    refine En.next ?_
    refine WC.cond rfl ?_ ?_
    ·
      intro hc_2
      replace h := ifO_t hc_2 h
      refine WC.seq ?_
      refine WC.region ?_
      refine Lt.ofWL.step rfl rfl rfl (OpV.assign rfl) ?_
      refine WL.nil ?_
      refine En.next ?_
      refine WC.ret ?_
      refine En.then_ret ?_
      refine En.ret1 rfl (Res.tmp rfl) ?_
      obtain rfl := Option.some.inj h
      intro w' hs
      exact ⟨rfl, hs.below⟩
    ·
      intro hc_2
      replace h := ifO_f hc_2 h
      refine WC.skip ?_
      refine En.next ?_
      refine WC.seq ?_
      refine WC.seq ?_
      refine WC.region ?_
      refine Lt.ofWL.step rfl rfl rfl (OpV.fieldAddr rfl fo_38_2) ?_
      refine Lt.ofWL.step rfl rfl rfl (OpV.loadBox rfl pt_3 (.tail _ (.head _)) rfl) ?_
      refine Lt.ofWL.step rfl rfl rfl (OpV.fieldAddr rfl fo_38_2) ?_
      refine Lt.ofWL.step rfl rfl rfl (OpV.loadBox rfl pt_3 (.head _) rfl) ?_
      refine Lt.ofWL.step rfl rfl rfl (OpV.neq rfl rfl) ?_
      refine WL.nil ?_
      refine En.next ?_
      refine WC.cond rfl ?_ ?_
      ·
        intro hc_3
        replace h := ifO_t hc_3 h
        refine WC.seq ?_
        refine WC.region ?_
        refine Lt.ofWL.step rfl rfl rfl (OpV.assign rfl) ?_
        refine WL.nil ?_
        refine En.next ?_
        refine WC.ret ?_
        refine En.then_ret ?_
        refine En.ret1 rfl (Res.tmp rfl) ?_
        obtain rfl := Option.some.inj h
        intro w' hs
        exact ⟨rfl, hs.below⟩
      ·
        intro hc_3
        replace h := ifO_f hc_3 h
        refine WC.skip ?_
        refine En.next ?_
        refine WC.seq ?_
        refine WC.seq ?_
        refine WC.region ?_
        refine Lt.ofWL.step rfl rfl rfl (OpV.fieldAddr rfl fo_38_3) ?_
        refine Lt.ofWL.step rfl rfl rfl (OpV.loadBox rfl pt_3 (.tail _ (.head _)) rfl) ?_
        refine Lt.ofWL.step rfl rfl rfl (OpV.fieldAddr rfl fo_38_3) ?_
        refine Lt.ofWL.step rfl rfl rfl (OpV.loadBox rfl pt_3 (.head _) rfl) ?_
        refine Lt.ofWL.step rfl rfl rfl (OpV.neq rfl rfl) ?_
        refine WL.nil ?_
        refine En.next ?_
        refine WC.cond rfl ?_ ?_
        ·
          intro hc_4
          replace h := ifO_t hc_4 h
          refine WC.seq ?_
          refine WC.region ?_
          refine Lt.ofWL.step rfl rfl rfl (OpV.assign rfl) ?_
          refine WL.nil ?_
          refine En.next ?_
          refine WC.ret ?_
          refine En.then_ret ?_
          refine En.ret1 rfl (Res.tmp rfl) ?_
          obtain rfl := Option.some.inj h
          intro w' hs
          exact ⟨rfl, hs.below⟩
        ·
          intro hc_4
          replace h := ifO_f hc_4 h
          refine WC.skip ?_
          refine En.next ?_
          refine WC.seq ?_
          refine WC.seq ?_
          refine WC.region ?_
          refine Lt.ofWL.step rfl rfl rfl (OpV.fieldAddr rfl fo_38_4) ?_
          refine Lt.ofWL.step rfl rfl rfl (OpV.loadBox rfl pt_3 (.tail _ (.head _)) rfl) ?_
          refine Lt.ofWL.step rfl rfl rfl (OpV.fieldAddr rfl fo_38_4) ?_
          refine Lt.ofWL.step rfl rfl rfl (OpV.loadBox rfl pt_3 (.head _) rfl) ?_
          refine Lt.ofWL.step rfl rfl rfl (OpV.neq rfl rfl) ?_
          refine WL.nil ?_
          refine En.next ?_
          refine WC.cond rfl ?_ ?_
          ·
            intro hc_5
            replace h := ifO_t hc_5 h
            refine WC.seq ?_
            refine WC.region ?_
            refine Lt.ofWL.step rfl rfl rfl (OpV.assign rfl) ?_
            refine WL.nil ?_
            refine En.next ?_
            refine WC.ret ?_
            refine En.then_ret ?_
            refine En.ret1 rfl (Res.tmp rfl) ?_
            obtain rfl := Option.some.inj h
            intro w' hs
            exact ⟨rfl, hs.below⟩
          ·
            intro hc_5
            replace h := ifO_f hc_5 h
            refine WC.skip ?_
            refine En.next ?_
            refine WC.seq ?_
            refine WC.seq ?_
            refine WC.region ?_
            refine Lt.ofWL.step rfl rfl rfl (OpV.fieldAddr rfl fo_38_5) ?_
            refine Lt.ofWL.step rfl rfl rfl (OpV.loadBox rfl pt_3 (.tail _ (.head _)) rfl) ?_
            refine Lt.ofWL.step rfl rfl rfl (OpV.fieldAddr rfl fo_38_5) ?_
            refine Lt.ofWL.step rfl rfl rfl (OpV.loadBox rfl pt_3 (.head _) rfl) ?_
            refine Lt.ofWL.step rfl rfl rfl (OpV.neq rfl rfl) ?_
            refine WL.nil ?_
            refine En.next ?_
            refine WC.cond rfl ?_ ?_
            ·
              intro hc_6
              replace h := ifO_t hc_6 h
              refine WC.seq ?_
              refine WC.region ?_
              refine Lt.ofWL.step rfl rfl rfl (OpV.assign rfl) ?_
              refine WL.nil ?_
              refine En.next ?_
              refine WC.ret ?_
              refine En.then_ret ?_
              refine En.ret1 rfl (Res.tmp rfl) ?_
              obtain rfl := Option.some.inj h
              intro w' hs
              exact ⟨rfl, hs.below⟩
            ·
              intro hc_6
              replace h := ifO_f hc_6 h
              refine WC.skip ?_
              refine En.next ?_
              refine WC.seq ?_
              refine WC.seq ?_
              refine WC.region ?_
              refine Lt.ofWL.step rfl rfl rfl (OpV.fieldAddr rfl fo_38_6) ?_
              refine Lt.ofWL.step rfl rfl rfl (OpV.loadBox rfl pt_3 (.tail _ (.head _)) rfl) ?_
              refine Lt.ofWL.step rfl rfl rfl (OpV.fieldAddr rfl fo_38_6) ?_
              refine Lt.ofWL.step rfl rfl rfl (OpV.loadBox rfl pt_3 (.head _) rfl) ?_
              refine Lt.ofWL.step rfl rfl rfl (OpV.neq rfl rfl) ?_
              refine WL.nil ?_
              refine En.next ?_
              refine WC.cond rfl ?_ ?_
              ·
                intro hc_7
                replace h := ifO_t hc_7 h
                refine WC.seq ?_
                refine WC.region ?_
                refine Lt.ofWL.step rfl rfl rfl (OpV.assign rfl) ?_
                refine WL.nil ?_
                refine En.next ?_
                refine WC.ret ?_
                refine En.then_ret ?_
                refine En.ret1 rfl (Res.tmp rfl) ?_
                obtain rfl := Option.some.inj h
                intro w' hs
                exact ⟨rfl, hs.below⟩
              ·
                intro hc_7
                replace h := ifO_f hc_7 h
                refine WC.skip ?_
                refine En.next ?_
                refine WC.seq ?_
                refine WC.seq ?_
                refine WC.region ?_
                refine Lt.ofWL.step rfl rfl rfl (OpV.fieldAddr rfl fo_38_7) ?_
                refine Lt.ofWL.step rfl rfl rfl (OpV.loadBox rfl pt_4 (.tail _ (.head _)) rfl) ?_
                refine Lt.ofWL.step rfl rfl rfl (OpV.fieldAddr rfl fo_38_7) ?_
                refine Lt.ofWL.step rfl rfl rfl (OpV.loadBox rfl pt_4 (.head _) rfl) ?_
                refine Lt.ofWL.step rfl rfl rfl (OpV.bneq rfl rfl ub_4) ?_
                refine WL.nil ?_
                refine En.next ?_
                refine WC.cond rfl ?_ ?_
                ·
                  intro hc_8
                  replace h := ifO_t hc_8 h
                  refine WC.seq ?_
                  refine WC.region ?_
                  refine Lt.ofWL.step rfl rfl rfl (OpV.assign rfl) ?_
                  refine WL.nil ?_
                  refine En.next ?_
                  refine WC.ret ?_
                  refine En.then_ret ?_
                  refine En.ret1 rfl (Res.tmp rfl) ?_
                  obtain rfl := Option.some.inj h
                  intro w' hs
                  exact ⟨rfl, hs.below⟩
                ·
                  intro hc_8
                  replace h := ifO_f hc_8 h
                  refine WC.skip ?_
                  refine En.next ?_
                  refine WC.seq ?_
                  refine WC.seq ?_
                  obtain ⟨x17_4, e17_4, h⟩ := bnd h
                  refine WC.region ?_
                  refine Lt.ofWL.step rfl rfl rfl (OpV.fieldAddr rfl fo_38_8) ?_
                  refine Lt.ofWL.step rfl rfl rfl (OpV.loadPart rfl (.tail _ (.head _)) ag_36 rfl rfl) ?_
                  refine Lt.ofWL.step rfl rfl rfl (OpV.fieldAddr rfl fo_38_8) ?_
                  refine Lt.ofWL.step rfl rfl rfl (OpV.loadPart rfl (.head _) ag_36 rfl rfl) ?_
                  refine Lt.ofWL.step rfl rfl rfl (OpV.call (evs.cons rfl (evs.cons rfl (evs.nil))) ca_43 (fun w hs => w_laws_eqImage e17_4 (r0_0.ext hs.below) (r1_0.ext hs.below))) ?_
                  refine Lt.ofWL.step rfl rfl rfl (OpV.not rfl) ?_
                  refine WL.nil ?_
                  refine En.next ?_
                  refine WC.cond rfl ?_ ?_
                  ·
                    intro hc_9
                    replace h := ifO_t hc_9 h
                    refine WC.seq ?_
                    refine WC.region ?_
                    refine Lt.ofWL.step rfl rfl rfl (OpV.assign rfl) ?_
                    refine WL.nil ?_
                    refine En.next ?_
                    refine WC.ret ?_
                    refine En.then_ret ?_
                    refine En.ret1 rfl (Res.tmp rfl) ?_
                    obtain rfl := Option.some.inj h
                    intro w' hs
                    exact ⟨rfl, hs.below⟩
                  ·
                    intro hc_9
                    replace h := ifO_f hc_9 h
                    refine WC.skip ?_
                    refine En.next ?_
                    refine WC.seq ?_
                    refine WC.region ?_
                    refine Lt.ofWL.step rfl rfl rfl (OpV.assign rfl) ?_
                    refine WL.nil ?_
                    refine En.next ?_
                    refine WC.ret ?_
                    refine En.ret1 rfl (Res.tmp rfl) ?_
                    obtain rfl := Option.some.inj h
                    intro w' hs
                    exact ⟨rfl, hs.below⟩

theorem w_laws_eqSurfaceS {a_p0 : List SurfaceT} {b_p1 : List SurfaceT} {r : Bool} {q0_0 : Option Addr} {n0_0 k0_0 : Nat} {q1_0 : Option Addr} {n1_0 k1_0 : Nat} (h : laws_eqSurfaceS a_p0 b_p1 = some r) {w : World} (r0_0 : Rd tSurface w q0_0 n0_0 k0_0 a_p0) (r1_0 : Rd tSurface w q1_0 n1_0 k1_0 b_p1)   :
    Calls Try.prog 79 #[.slice q0_0 n0_0 k0_0, .slice q1_0 n1_0 k1_0] w (fun en w' => en = .returned (.bool r) ∧ Ext w w') := by
  obtain rfl := r0_0.1
  obtain rfl := r1_0.1
  unfold laws_eqSurfaceS at h
  refine enter (vs := [_, _]) Try.func79 rfl rfl rfl rfl ?_
  refine WC.seq ?_
  refine WC.region ?_
  refine Lt.ofWL.step rfl rfl rfl (OpV.assign rfl) ?_
  refine WL.nil ?_
  refine En.next ?_
  refine WC.seq ?_
  refine WC.seq ?_
  refine WC.region ?_
  refine Lt.ofWL.step rfl rfl rfl (OpV.move rfl) ?_
  refine Lt.ofWL.step rfl rfl rfl (OpV.len rfl si_24 rfl) ?_
  refine Lt.ofWL.step rfl rfl rfl (OpV.move rfl) ?_
  refine Lt.ofWL.step rfl rfl rfl (OpV.len rfl si_24 rfl) ?_
  refine Lt.ofWL.step rfl rfl rfl (OpV.neq rfl rfl) ?_
  refine WL.nil ?_
  refine En.next ?_
  refine WC.cond rfl ?_ ?_
  ·
    intro hc_1
    replace h := ifO_t hc_1 h
    refine WC.seq ?_
    refine WC.region ?_
    refine Lt.ofWL.step rfl rfl rfl (OpV.assign rfl) ?_
    refine WL.nil ?_
    refine En.next ?_
    refine WC.ret ?_
    refine En.then_ret ?_
    refine En.ret1 rfl (Res.tmp rfl) ?_
    obtain rfl := Option.some.inj h
    intro w' hs
    exact ⟨rfl, hs.below⟩
  ·
    intro hc_1
    replace h := ifO_f hc_1 h
    refine WC.skip ?_
    refine En.next ?_
    refine WC.seq ?_
    refine WC.seq ?_
    refine WC.region ?_
    refine Lt.ofWL.step rfl rfl rfl (OpV.assign rfl) ?_
    refine WL.nil ?_
    refine En.next ?_
    refine WC.block ?_
    obtain ⟨zy0, ezy0, h⟩ := bnd h
    refine WC.cut (X := (Unit) × (Unit)) (.exit 0) (fun x => zy0 = .inl x.1) (fun x => match x with | ((), ()) => []) (fun x => match x with | ((), ()) => []) ?_ ?_
    ·
      rintro ⟨⟨⟩, ⟨⟩⟩ hx
      replace hx : .inl () = zy0 := hx.symm
      subst hx
      replace h := fork_l h
      show En _ _ _ _ [] []
      refine En.block_exit ?_
      refine En.next ?_
      refine WC.seq ?_
      refine WC.region ?_
      refine Lt.ofWL.step rfl rfl rfl (OpV.assign rfl) ?_
      refine WL.nil ?_
      refine En.next ?_
      refine WC.ret ?_
      refine En.ret1 rfl (Res.tmp rfl) ?_
      obtain rfl := Option.some.inj h
      intro w' hs
      exact ⟨rfl, hs.below⟩
    ·
      intro zK0_0
      refine WC.loopP (G := Unit) (fun s g => match s, g with | i_0, () => [(0, .slice q0_0 a_p0.length k0_0), (1, .slice q1_0 b_p1.length k1_0), (5, .int .i64 i_0)]) (fun s g => match s, g with | i_0, () => []) 0 () ezy0 (by exact Sub.cons rfl (Sub.cons rfl (Sub.cons rfl (Sub.nil _)))) (by exact (fun _ h => h)) ?_
      rintro zm0 i_0 ⟨⟩ zo0 zf0 zb0 ze0
      have zh0 : laws_eqSurfaceS_L0 a_p0 b_p1 i_0 = some zo0 := zf0
      unfold laws_eqSurfaceS_L0 at zh0
      show WC _ _ _ _ _ [(0, .slice q0_0 a_p0.length k0_0), (1, .slice q1_0 b_p1.length k1_0), (5, .int .i64 i_0)] []
      refine WC.seq ?_
      refine WC.seq ?_
      refine WC.region ?_
      refine Lt.ofWL.step rfl rfl rfl (OpV.move rfl) ?_
      refine Lt.ofWL.step rfl rfl rfl (OpV.move rfl) ?_
      refine Lt.ofWL.step rfl rfl rfl (OpV.len rfl si_24 rfl) ?_
      refine Lt.ofWL.step rfl rfl rfl (OpV.lss rfl rfl) ?_
      refine WL.nil ?_
      refine En.next ?_
      refine WC.cond rfl ?_ ?_
      ·
        intro hc_2
        replace zh0 := ifO_t hc_2 zh0
        refine WC.skip ?_
        refine En.next ?_
        refine WC.seq ?_
        refine WC.block ?_
        refine WC.seq ?_
        obtain ⟨x6_2, e6_2, zh0⟩ := bnd zh0
        obtain ⟨g6_2, o6_2, _, ha6_2, ⟨a6_2_1, c6_2_1, rfl, r6_2_1⟩, hd6_2⟩ := Rd.atIdx r0_0 e6_2
        replace hd6_2 : ∀ (j : Nat) v, ([.int .i64 x6_2.Id, .int .i64 x6_2.X, .int .i64 x6_2.Y, .int .i64 x6_2.W, .int .i64 x6_2.H, .int .i64 x6_2.Alpha, .int .i64 x6_2.Orient, .bool x6_2.Visible, .int .i64 x6_2.Buffer.W, .int .i64 x6_2.Buffer.H, .slice a6_2_1 x6_2.Buffer.Data.length c6_2_1] : List Value)[j]? = some v → w.cell? ⟨g6_2, o6_2 + i_0.toNat * 11 + j, .none⟩ = some v := hd6_2
        obtain ⟨x6_6, e6_6, zh0⟩ := bnd zh0
        obtain ⟨g6_6, o6_6, _, ha6_6, ⟨a6_6_1, c6_6_1, rfl, r6_6_1⟩, hd6_6⟩ := Rd.atIdx r1_0 e6_6
        replace hd6_6 : ∀ (j : Nat) v, ([.int .i64 x6_6.Id, .int .i64 x6_6.X, .int .i64 x6_6.Y, .int .i64 x6_6.W, .int .i64 x6_6.H, .int .i64 x6_6.Alpha, .int .i64 x6_6.Orient, .bool x6_6.Visible, .int .i64 x6_6.Buffer.W, .int .i64 x6_6.Buffer.H, .slice a6_6_1 x6_6.Buffer.Data.length c6_6_1] : List Value)[j]? = some v → w.cell? ⟨g6_6, o6_6 + i_0.toNat * 11 + j, .none⟩ = some v := hd6_6
        obtain ⟨x6_8, e6_8, zh0⟩ := bnd zh0
        refine WC.drawn [(0, ?r6v0), (1, ?r6v1), (5, ?r6v5), (26, ?r6v26)] (by kernel_rfl) (by kernel_rfl) ?dH6 ?dK6
        case dH6 =>
          intro W hW hk
          refine hW.step rfl rfl rfl (OpV.move rfl) ?_
          refine hW.step rfl rfl rfl (OpV.move rfl) ?_
          refine hW.step rfl rfl rfl (OpV.idxA rfl rfl se_24 ha6_2 ⟨(idx_some e6_2).1, (idx_some e6_2).2.1⟩) ?_
          refine hW.step rfl rfl rfl (OpV.loadN rfl ag_38 rfl (fun w hs => hs.cellsAt hd6_2)) ?_
          refine hW.step rfl rfl rfl (OpV.move rfl) ?_
          refine hW.step rfl rfl rfl (OpV.move rfl) ?_
          refine hW.step rfl rfl rfl (OpV.idxA rfl rfl se_24 ha6_6 ⟨(idx_some e6_6).1, (idx_some e6_6).2.1⟩) ?_
          refine hW.step rfl rfl rfl (OpV.loadN rfl ag_38 rfl (fun w hs => hs.cellsAt hd6_6)) ?_
          refine hW.step rfl rfl rfl (OpV.call (evs.cons rfl (evs.cons rfl (evs.nil))) ca_129 (fun w hs => w_laws_eqSurface e6_8 (r6_2_1.ext hs.below) (r6_6_1.ext hs.below))) ?_
          refine hW.step rfl rfl rfl (OpV.not rfl) ?_
          refine hk _ ?_
          refine Sub.cons ?_ (Sub.cons ?_ (Sub.cons ?_ (Sub.cons ?_ (Sub.nil _))))
          all_goals exact rfl
        refine En.next ?_
        refine WC.cond rfl ?_ ?_
        ·
          intro hc_3
          replace zh0 := ifO_t hc_3 zh0
          refine WC.seq ?_
          refine WC.region ?_
          refine Lt.ofWL.step rfl rfl rfl (OpV.assign rfl) ?_
          refine WL.nil ?_
          refine En.next ?_
          refine WC.ret ?_
          refine En.block_ret ?_
          refine En.then_ret ?_
          refine En.then_ret ?_
          refine En.block_ret ?_
          refine En.then_ret ?_
          refine En.ret1 rfl (Res.tmp rfl) ?_
          have hx := exitP ze0 zh0
          subst hx
          replace h := fork_r h
          obtain rfl := Option.some.inj h
          intro w' hs
          exact ⟨rfl, hs.below⟩
        ·
          intro hc_3
          replace zh0 := ifO_f hc_3 zh0
          refine WC.skip ?_
          refine En.block_norm ?_
          refine En.next ?_
          refine WC.region ?_
          refine Lt.ofWL.step rfl rfl rfl (OpV.move rfl) ?_
          refine Lt.ofWL.step rfl rfl rfl (OpV.addR rfl rfl) ?_
          refine Lt.ofWL.step rfl rfl rfl (OpV.assign rfl) ?_
          refine WL.nil ?_
          exact En.backP zb0 zh0 () (Sub.cons rfl (Sub.cons rfl (Sub.cons rfl (Sub.nil _)))) (fun _ h => h)
      ·
        intro hc_2
        replace zh0 := ifO_f hc_2 zh0
        refine WC.exit ?_
        refine En.then_exit ?_
        refine En.then_exit ?_
        have hx := exitP ze0 zh0
        exact En.wk _ _ (Sub.nil _) (fun _ h => h) (zK0_0 ((), ()) hx.symm)

theorem w_laws_eqScene {a_p0 : SceneT} {b_p1 : SceneT} {r : Bool} {q0_0 : Option Addr} {n0_0 k0_0 : Nat} {q1_0 : Option Addr} {n1_0 k1_0 : Nat} (h : laws_eqScene a_p0 b_p1 = some r) {w : World} (r0_0 : Rd tSurface w q0_0 n0_0 k0_0 a_p0.Surfaces) (r1_0 : Rd tSurface w q1_0 n1_0 k1_0 b_p1.Surfaces)   :
    Calls Try.prog 26 #[.agg #[.int .i64 a_p0.W, .int .i64 a_p0.H, .int .i64 a_p0.Back, .slice q0_0 n0_0 k0_0], .agg #[.int .i64 b_p1.W, .int .i64 b_p1.H, .int .i64 b_p1.Back, .slice q1_0 n1_0 k1_0]] w (fun en w' => en = .returned (.bool r) ∧ Ext w w') := by
  obtain rfl := r0_0.1
  obtain rfl := r1_0.1
  unfold laws_eqScene at h
  refine enter (vs := [_, _]) Try.func26 rfl rfl rfl rfl ?_
  refine WC.seq ?_
  refine WC.region ?_
  refine WL.heavy rfl rfl rfl (OpH.box rfl rfl ?_)
  intro b0_0
  refine WL.heavy rfl rfl rfl (OpH.box rfl rfl ?_)
  intro b0_1
  refine Lt.ofWL.step rfl rfl rfl (OpV.assign rfl) ?_
  refine WL.nil ?_
  refine En.next ?_
  refine WC.seq ?_
  refine WC.seq ?_
  refine WC.region ?_
  refine Lt.ofWL.step rfl rfl rfl (OpV.fieldAddr rfl fo_26_0) ?_
  refine Lt.ofWL.step rfl rfl rfl (OpV.loadBox rfl pt_3 (.tail _ (.head _)) rfl) ?_
  refine Lt.ofWL.step rfl rfl rfl (OpV.fieldAddr rfl fo_26_0) ?_
  refine Lt.ofWL.step rfl rfl rfl (OpV.loadBox rfl pt_3 (.head _) rfl) ?_
  refine Lt.ofWL.step rfl rfl rfl (OpV.neq rfl rfl) ?_
  refine WL.nil ?_
  refine En.next ?_
  refine WC.cond rfl ?_ ?_
  ·
    intro hc_1
    replace h := ifO_t hc_1 h
    refine WC.seq ?_
    refine WC.region ?_
    refine Lt.ofWL.step rfl rfl rfl (OpV.assign rfl) ?_
    refine WL.nil ?_
    refine En.next ?_
    refine WC.ret ?_
    refine En.then_ret ?_
    refine En.ret1 rfl (Res.tmp rfl) ?_
    obtain rfl := Option.some.inj h
    intro w' hs
    exact ⟨rfl, hs.below⟩
  ·
    intro hc_1
    replace h := ifO_f hc_1 h
    refine WC.skip ?_
    refine En.next ?_
    refine WC.seq ?_
    refine WC.seq ?_
    refine WC.region ?_
    refine Lt.ofWL.step rfl rfl rfl (OpV.fieldAddr rfl fo_26_1) ?_
    refine Lt.ofWL.step rfl rfl rfl (OpV.loadBox rfl pt_3 (.tail _ (.head _)) rfl) ?_
    refine Lt.ofWL.step rfl rfl rfl (OpV.fieldAddr rfl fo_26_1) ?_
    refine Lt.ofWL.step rfl rfl rfl (OpV.loadBox rfl pt_3 (.head _) rfl) ?_
    refine Lt.ofWL.step rfl rfl rfl (OpV.neq rfl rfl) ?_
    refine WL.nil ?_
    refine En.next ?_
    refine WC.cond rfl ?_ ?_
    ·
      intro hc_2
      replace h := ifO_t hc_2 h
      refine WC.seq ?_
      refine WC.region ?_
      refine Lt.ofWL.step rfl rfl rfl (OpV.assign rfl) ?_
      refine WL.nil ?_
      refine En.next ?_
      refine WC.ret ?_
      refine En.then_ret ?_
      refine En.ret1 rfl (Res.tmp rfl) ?_
      obtain rfl := Option.some.inj h
      intro w' hs
      exact ⟨rfl, hs.below⟩
    ·
      intro hc_2
      replace h := ifO_f hc_2 h
      refine WC.skip ?_
      refine En.next ?_
      refine WC.seq ?_
      refine WC.seq ?_
      refine WC.region ?_
      refine Lt.ofWL.step rfl rfl rfl (OpV.fieldAddr rfl fo_26_2) ?_
      refine Lt.ofWL.step rfl rfl rfl (OpV.loadBox rfl pt_3 (.tail _ (.head _)) rfl) ?_
      refine Lt.ofWL.step rfl rfl rfl (OpV.fieldAddr rfl fo_26_2) ?_
      refine Lt.ofWL.step rfl rfl rfl (OpV.loadBox rfl pt_3 (.head _) rfl) ?_
      refine Lt.ofWL.step rfl rfl rfl (OpV.neq rfl rfl) ?_
      refine WL.nil ?_
      refine En.next ?_
      refine WC.cond rfl ?_ ?_
      ·
        intro hc_3
        replace h := ifO_t hc_3 h
        refine WC.seq ?_
        refine WC.region ?_
        refine Lt.ofWL.step rfl rfl rfl (OpV.assign rfl) ?_
        refine WL.nil ?_
        refine En.next ?_
        refine WC.ret ?_
        refine En.then_ret ?_
        refine En.ret1 rfl (Res.tmp rfl) ?_
        obtain rfl := Option.some.inj h
        intro w' hs
        exact ⟨rfl, hs.below⟩
      ·
        intro hc_3
        replace h := ifO_f hc_3 h
        refine WC.skip ?_
        refine En.next ?_
        refine WC.seq ?_
        refine WC.seq ?_
        obtain ⟨x7_4, e7_4, h⟩ := bnd h
        refine WC.region ?_
        refine Lt.ofWL.step rfl rfl rfl (OpV.fieldAddr rfl fo_26_3) ?_
        refine Lt.ofWL.step rfl rfl rfl (OpV.loadBox rfl pt_24 (.tail _ (.head _)) rfl) ?_
        refine Lt.ofWL.step rfl rfl rfl (OpV.fieldAddr rfl fo_26_3) ?_
        refine Lt.ofWL.step rfl rfl rfl (OpV.loadBox rfl pt_24 (.head _) rfl) ?_
        refine Lt.ofWL.step rfl rfl rfl (OpV.call (evs.cons rfl (evs.cons rfl (evs.nil))) ca_79 (fun w hs => w_laws_eqSurfaceS e7_4 (r0_0.ext hs.below) (r1_0.ext hs.below))) ?_
        refine Lt.ofWL.step rfl rfl rfl (OpV.not rfl) ?_
        refine WL.nil ?_
        refine En.next ?_
        refine WC.cond rfl ?_ ?_
        ·
          intro hc_4
          replace h := ifO_t hc_4 h
          refine WC.seq ?_
          refine WC.region ?_
          refine Lt.ofWL.step rfl rfl rfl (OpV.assign rfl) ?_
          refine WL.nil ?_
          refine En.next ?_
          refine WC.ret ?_
          refine En.then_ret ?_
          refine En.ret1 rfl (Res.tmp rfl) ?_
          obtain rfl := Option.some.inj h
          intro w' hs
          exact ⟨rfl, hs.below⟩
        ·
          intro hc_4
          replace h := ifO_f hc_4 h
          refine WC.skip ?_
          refine En.next ?_
          refine WC.seq ?_
          refine WC.region ?_
          refine Lt.ofWL.step rfl rfl rfl (OpV.assign rfl) ?_
          refine WL.nil ?_
          refine En.next ?_
          refine WC.ret ?_
          refine En.ret1 rfl (Res.tmp rfl) ?_
          obtain rfl := Option.some.inj h
          intro w' hs
          exact ⟨rfl, hs.below⟩

theorem w_laws_markIntS {a_p0 : List Int} {k_p1 : Int} {r : Int × (List Int)} {q0_0 : Option Addr} {n0_0 k0_0 : Nat} {f0_0 : List Nat} (h : laws_markIntS a_p0 k_p1 = some r) {w0 w : World} {C : List Chunk} (hs0 : St w0 (Chunk.own tInt f0_0 q0_0 n0_0 k0_0 a_p0 :: C) w)  :
    Calls Try.prog 28 #[.slice q0_0 n0_0 k0_0, .int .i64 k_p1] w (fun en w' => ∃ rv G, en = .returned rv ∧ (∃ (g0_0 : List Nat), rv = .int .i64 r.1 ∧ G = Chunk.own tInt g0_0 q0_0 n0_0 k0_0 r.2 :: C) ∧ St w0 G w') := by
  unfold laws_markIntS at h
  refine enterF hs0 (vs := [_, _]) Try.func28 rfl rfl rfl rfl ?_
  refine WC.seq ?_
  refine WC.region ?_
  refine Lt.ofWL.step rfl rfl rfl (OpV.assign rfl) ?_
  refine WL.nil ?_
  refine En.next ?_
  refine WC.seq ?_
  refine WC.seq ?_
  refine WC.region ?_
  refine Lt.ofWL.step rfl rfl rfl (OpV.assign rfl) ?_
  refine WL.nil ?_
  refine En.next ?_
  refine WC.block ?_
  obtain ⟨zy0, ezy0, h⟩ := bnd h
  refine WC.cut (X := (Int × (List Int)) × ((List Nat))) (.exit 0) (fun x => zy0 = x.1) (fun x => match x with | ((k_0e, p_0e), fp_0e) => [(1, .int .i64 k_0e)]) (fun x => match x with | ((k_0e, p_0e), fp_0e) => (Chunk.own tInt fp_0e q0_0 n0_0 k0_0 p_0e :: C)) ?_ ?_
  ·
    rintro ⟨⟨k_0e, p_0e⟩, fp_0e⟩ hx
    replace hx : (k_0e, p_0e) = zy0 := hx.symm
    subst hx
    show En _ _ _ _ [(1, .int .i64 k_0e)] (Chunk.own tInt fp_0e q0_0 n0_0 k0_0 p_0e :: C)
    refine En.block_exit ?_
    refine En.next ?_
    refine WC.seq ?_
    refine WC.region ?_
    refine Lt.ofWL.step rfl rfl rfl (OpV.move rfl) ?_
    refine Lt.ofWL.step rfl rfl rfl (OpV.assign rfl) ?_
    refine WL.nil ?_
    refine En.next ?_
    refine WC.ret ?_
    refine En.ret1 rfl (Res.tmp rfl) ?_
    obtain rfl := Option.some.inj h
    intro w' hs
    have hs := hs
    exact ⟨_, _, rfl, ⟨fp_0e, rfl, rfl⟩, hs⟩
  ·
    intro zK0_0
    refine WC.loopP (G := (List Nat)) (fun s g => match s, g with | (a_0, k_0, i_0), fa_0 => [(0, .slice q0_0 n0_0 k0_0), (1, .int .i64 k_0), (5, .int .i64 i_0)]) (fun s g => match s, g with | (a_0, k_0, i_0), fa_0 => (Chunk.own tInt fa_0 q0_0 n0_0 k0_0 a_0 :: C)) (a_p0, k_p1, 0) f0_0 ezy0 (by exact Sub.cons rfl (Sub.cons rfl (Sub.cons rfl (Sub.nil _)))) (by exact (fun _ h => h)) ?_
    rintro zm0 ⟨a_0, k_0, i_0⟩ fa_0 zo0 zf0 zb0 ze0
    have zh0 : laws_markIntS_L0 a_0 k_0 i_0 = some zo0 := zf0
    unfold laws_markIntS_L0 at zh0
    show WC _ _ _ _ _ [(0, .slice q0_0 n0_0 k0_0), (1, .int .i64 k_0), (5, .int .i64 i_0)] (Chunk.own tInt fa_0 q0_0 n0_0 k0_0 a_0 :: C)
    refine WC.seq ?_
    refine WC.seq ?_
    refine WC.region ?_
    refine Lt.ofWL.step rfl rfl rfl (OpV.move rfl) ?_
    refine Lt.ofWL.step rfl rfl rfl (OpV.move rfl) ?_
    refine Lt.ofWL.step rfl rfl rfl (OpV.inhF fun hin => OpV.lenO (xs := a_0) rfl si_32 rfl (ownLen hin (.head _))) ?_
    refine Lt.ofWL.step rfl rfl rfl (OpV.lss rfl rfl) ?_
    refine WL.nil ?_
    refine En.next ?_
    refine WC.cond rfl ?_ ?_
    ·
      intro hc_1
      replace zh0 := ifO_t hc_1 zh0
      refine WC.skip ?_
      refine En.next ?_
      refine WC.seq ?_
      refine WC.block ?_
      refine WC.seq ?_
      refine WC.inh fun hin4 => ?_
      have hn4_3 := ownLen hin4 (.head _)
      obtain ⟨x4_4, e4_4, zh0⟩ := bnd zh0
      obtain ⟨g4_3, ha4_3⟩ := ownAddrU hin4 (.head _) e4_4
      refine WC.region ?_
      refine Lt.ofWL.step rfl rfl rfl (OpV.move rfl) ?_
      refine Lt.ofWL.step rfl rfl rfl (OpV.move rfl) ?_
      refine Lt.ofWL.step rfl rfl rfl (OpV.move rfl) ?_
      refine Lt.ofWL.step rfl rfl rfl (OpV.idxA rfl rfl se_32 ha4_3 ⟨(upd_some e4_4).1.1, by rw [hn4_3]; exact (upd_some e4_4).1.2⟩) ?_
      refine WL.wkF (fun _ h => St.elFlat tInt_flat k_0 h) ?_
      refine WL.heavy0 rfl rfl (OpH.setEl (A := tInt) ha4_3 rfl rfl rfl ts_3 e4_4 ?_)
      intro f4_4
      refine WL.nil ?_
      refine En.next ?_
      refine WC.region ?_
      refine Lt.ofWL.step rfl rfl rfl (OpV.move rfl) ?_
      refine Lt.ofWL.step rfl rfl rfl (OpV.addR rfl rfl) ?_
      refine Lt.ofWL.step rfl rfl rfl (OpV.assign rfl) ?_
      refine WL.nil ?_
      refine En.block_norm ?_
      refine En.next ?_
      refine WC.region ?_
      refine Lt.ofWL.step rfl rfl rfl (OpV.move rfl) ?_
      refine Lt.ofWL.step rfl rfl rfl (OpV.addR rfl rfl) ?_
      refine Lt.ofWL.step rfl rfl rfl (OpV.assign rfl) ?_
      refine WL.nil ?_
      exact En.backP zb0 zh0 f4_4 (Sub.cons rfl (Sub.cons rfl (Sub.cons rfl (Sub.nil _)))) (fun _ h => h)
    ·
      intro hc_1
      replace zh0 := ifO_f hc_1 zh0
      refine WC.exit ?_
      refine En.then_exit ?_
      refine En.then_exit ?_
      have hx := exitP ze0 zh0
      exact En.wk _ _ (Sub.cons rfl (Sub.nil _)) (fun _ h => h) (zK0_0 ((k_0, a_0), fa_0) hx.symm)

theorem w_laws_markSurfaceS {a_p0 : List SurfaceT} {a_p1 : Int} {r : Int × (List SurfaceT)} {q0_0 : Option Addr} {n0_0 k0_0 : Nat} {f0_0 : List Nat} (h : laws_markSurfaceS a_p0 a_p1 = some r) {w0 w : World} {C : List Chunk} (hs0 : St w0 (Chunk.own tSurface f0_0 q0_0 n0_0 k0_0 a_p0 :: C) w)  :
    Calls Try.prog 80 #[.slice q0_0 n0_0 k0_0, .int .i64 a_p1] w (fun en w' => ∃ rv G, en = .returned rv ∧ (∃ (g0_0 : List Nat), rv = .int .i64 r.1 ∧ G = Chunk.own tSurface g0_0 q0_0 n0_0 k0_0 r.2 :: C) ∧ St w0 G w') := by
  unfold laws_markSurfaceS at h
  refine enterF hs0 (vs := [_, _]) Try.func80 rfl rfl rfl rfl ?_
  refine WC.seq ?_
  refine WC.region ?_
  refine Lt.ofWL.step rfl rfl rfl (OpV.assign rfl) ?_
  refine WL.nil ?_
  refine En.next ?_
  refine WC.seq ?_
  refine WC.seq ?_
  refine WC.region ?_
  refine Lt.ofWL.step rfl rfl rfl (OpV.assign rfl) ?_
  refine WL.nil ?_
  refine En.next ?_
  refine WC.block ?_
  obtain ⟨zy0, ezy0, h⟩ := bnd h
  refine WC.cut (X := (Int × (List SurfaceT)) × ((List Nat))) (.exit 0) (fun x => zy0 = x.1) (fun x => match x with | ((v_0e, p_0e), fp_0e) => [(1, .int .i64 v_0e)]) (fun x => match x with | ((v_0e, p_0e), fp_0e) => (Chunk.own tSurface fp_0e q0_0 n0_0 k0_0 p_0e :: C)) ?_ ?_
  ·
    rintro ⟨⟨v_0e, p_0e⟩, fp_0e⟩ hx
    replace hx : (v_0e, p_0e) = zy0 := hx.symm
    subst hx
    show En _ _ _ _ [(1, .int .i64 v_0e)] (Chunk.own tSurface fp_0e q0_0 n0_0 k0_0 p_0e :: C)
    refine En.block_exit ?_
    refine En.next ?_
    refine WC.seq ?_
    refine WC.region ?_
    refine Lt.ofWL.step rfl rfl rfl (OpV.move rfl) ?_
    refine Lt.ofWL.step rfl rfl rfl (OpV.assign rfl) ?_
    refine WL.nil ?_
    refine En.next ?_
    refine WC.ret ?_
    refine En.ret1 rfl (Res.tmp rfl) ?_
    obtain rfl := Option.some.inj h
    intro w' hs
    have hs := hs
    exact ⟨_, _, rfl, ⟨fp_0e, rfl, rfl⟩, hs⟩
  ·
    intro zK0_0
    refine WC.loopP (G := (List Nat)) (fun s g => match s, g with | (v_0, v1_0, v2_0), fv_0 => [(0, .slice q0_0 n0_0 k0_0), (1, .int .i64 v1_0), (5, .int .i64 v2_0)]) (fun s g => match s, g with | (v_0, v1_0, v2_0), fv_0 => (Chunk.own tSurface fv_0 q0_0 n0_0 k0_0 v_0 :: C)) (a_p0, a_p1, 0) f0_0 ezy0 (by exact Sub.cons rfl (Sub.cons rfl (Sub.cons rfl (Sub.nil _)))) (by exact (fun _ h => h)) ?_
    rintro zm0 ⟨v_0, v1_0, v2_0⟩ fv_0 zo0 zf0 zb0 ze0
    have zh0 : laws_markSurfaceS_L0 v_0 v1_0 v2_0 = some zo0 := zf0
    unfold laws_markSurfaceS_L0 at zh0
    show WC _ _ _ _ _ [(0, .slice q0_0 n0_0 k0_0), (1, .int .i64 v1_0), (5, .int .i64 v2_0)] (Chunk.own tSurface fv_0 q0_0 n0_0 k0_0 v_0 :: C)
    refine WC.seq ?_
    refine WC.seq ?_
    refine WC.region ?_
    refine Lt.ofWL.step rfl rfl rfl (OpV.move rfl) ?_
    refine Lt.ofWL.step rfl rfl rfl (OpV.move rfl) ?_
    refine Lt.ofWL.step rfl rfl rfl (OpV.inhF fun hin => OpV.lenO (xs := v_0) rfl si_24 rfl (ownLen hin (.head _))) ?_
    refine Lt.ofWL.step rfl rfl rfl (OpV.lss rfl rfl) ?_
    refine WL.nil ?_
    refine En.next ?_
    refine WC.cond rfl ?_ ?_
    ·
      intro hc_1
      replace zh0 := ifO_t hc_1 zh0
      refine WC.skip ?_
      refine En.next ?_
      refine WC.seq ?_
      refine WC.block ?_
      refine WC.seq ?_
      refine WC.inh fun hin4 => ?_
      obtain ⟨x4_3, e4_3, zh0⟩ := bnd zh0
      obtain ⟨g4_3, ha4_3⟩ := ownAddr hin4 (.head _) e4_3
      have hn4_3 := ownLen hin4 (.head _)
      obtain ⟨x4_5, e4_5, zh0⟩ := bnd zh0
      refine WC.region ?_
      refine Lt.ofWL.step rfl rfl rfl (OpV.move rfl) ?_
      refine Lt.ofWL.step rfl rfl rfl (OpV.move rfl) ?_
      refine Lt.ofWL.step rfl rfl rfl (OpV.move rfl) ?_
      refine Lt.ofWL.step rfl rfl rfl (OpV.idxA rfl rfl se_24 ha4_3 ⟨(idx_some e4_3).1, by rw [hn4_3]; exact (idx_some e4_3).2.1⟩) ?_
      refine Lt.ofWL.step rfl rfl rfl (OpV.fieldAddr rfl fo_38_0) ?_
      refine WL.heavy0 rfl rfl (OpH.setFld (F := []) (A := tSurface) (off := 0) (i := v2_0) (v' := (SurfaceT.mk v1_0 x4_3.X x4_3.Y x4_3.W x4_3.H x4_3.Alpha x4_3.Orient x4_3.Visible x4_3.Buffer)) ha4_3 rfl rfl rfl ts_3 rfl rfl e4_3 (fun _ _ _ ⟨_, _, _, hp, he, h0⟩ => ⟨_, _, _, hp, by rw [he]; rfl, h0⟩) e4_5 ?_)
      refine WL.nil ?_
      refine En.next ?_
      refine WC.seq ?_
      refine WC.region ?_
      refine Lt.ofWL.step rfl rfl rfl (OpV.move rfl) ?_
      refine Lt.ofWL.step rfl rfl rfl (OpV.addR rfl rfl) ?_
      refine Lt.ofWL.step rfl rfl rfl (OpV.assign rfl) ?_
      refine WL.nil ?_
      refine En.next ?_
      refine WC.seq ?_
      refine WC.inh fun hin6 => ?_
      obtain ⟨x6_3, e6_3, zh0⟩ := bnd zh0
      obtain ⟨g6_3, ha6_3⟩ := ownAddr hin6 (.head _) e6_3
      have hn6_3 := ownLen hin6 (.head _)
      obtain ⟨x6_5, e6_5, zh0⟩ := bnd zh0
      refine WC.region ?_
      refine Lt.ofWL.step rfl rfl rfl (OpV.move rfl) ?_
      refine Lt.ofWL.step rfl rfl rfl (OpV.move rfl) ?_
      refine Lt.ofWL.step rfl rfl rfl (OpV.move rfl) ?_
      refine Lt.ofWL.step rfl rfl rfl (OpV.idxA rfl rfl se_24 ha6_3 ⟨(idx_some e6_3).1, by rw [hn6_3]; exact (idx_some e6_3).2.1⟩) ?_
      refine Lt.ofWL.step rfl rfl rfl (OpV.fieldAddr rfl fo_38_1) ?_
      refine WL.heavy0 rfl rfl (OpH.setFld (F := []) (A := tSurface) (off := 1) (i := v2_0) (v' := (SurfaceT.mk x6_3.Id (wr (v1_0 + 1)) x6_3.Y x6_3.W x6_3.H x6_3.Alpha x6_3.Orient x6_3.Visible x6_3.Buffer)) ha6_3 rfl rfl rfl ts_3 rfl rfl e6_3 (fun _ _ _ ⟨_, _, _, hp, he, h0⟩ => ⟨_, _, _, hp, by rw [he]; rfl, h0⟩) e6_5 ?_)
      refine WL.nil ?_
      refine En.next ?_
      refine WC.seq ?_
      refine WC.region ?_
      refine Lt.ofWL.step rfl rfl rfl (OpV.move rfl) ?_
      refine Lt.ofWL.step rfl rfl rfl (OpV.addR rfl rfl) ?_
      refine Lt.ofWL.step rfl rfl rfl (OpV.assign rfl) ?_
      refine WL.nil ?_
      refine En.next ?_
      refine WC.seq ?_
      refine WC.inh fun hin8 => ?_
      obtain ⟨x8_3, e8_3, zh0⟩ := bnd zh0
      obtain ⟨g8_3, ha8_3⟩ := ownAddr hin8 (.head _) e8_3
      have hn8_3 := ownLen hin8 (.head _)
      obtain ⟨x8_5, e8_5, zh0⟩ := bnd zh0
      refine WC.region ?_
      refine Lt.ofWL.step rfl rfl rfl (OpV.move rfl) ?_
      refine Lt.ofWL.step rfl rfl rfl (OpV.move rfl) ?_
      refine Lt.ofWL.step rfl rfl rfl (OpV.move rfl) ?_
      refine Lt.ofWL.step rfl rfl rfl (OpV.idxA rfl rfl se_24 ha8_3 ⟨(idx_some e8_3).1, by rw [hn8_3]; exact (idx_some e8_3).2.1⟩) ?_
      refine Lt.ofWL.step rfl rfl rfl (OpV.fieldAddr rfl fo_38_2) ?_
      refine WL.heavy0 rfl rfl (OpH.setFld (F := []) (A := tSurface) (off := 2) (i := v2_0) (v' := (SurfaceT.mk x8_3.Id x8_3.X (wr ((wr (v1_0 + 1)) + 1)) x8_3.W x8_3.H x8_3.Alpha x8_3.Orient x8_3.Visible x8_3.Buffer)) ha8_3 rfl rfl rfl ts_3 rfl rfl e8_3 (fun _ _ _ ⟨_, _, _, hp, he, h0⟩ => ⟨_, _, _, hp, by rw [he]; rfl, h0⟩) e8_5 ?_)
      refine WL.nil ?_
      refine En.next ?_
      refine WC.seq ?_
      refine WC.region ?_
      refine Lt.ofWL.step rfl rfl rfl (OpV.move rfl) ?_
      refine Lt.ofWL.step rfl rfl rfl (OpV.addR rfl rfl) ?_
      refine Lt.ofWL.step rfl rfl rfl (OpV.assign rfl) ?_
      refine WL.nil ?_
      refine En.next ?_
      refine WC.seq ?_
      refine WC.inh fun hin10 => ?_
      obtain ⟨x10_3, e10_3, zh0⟩ := bnd zh0
      obtain ⟨g10_3, ha10_3⟩ := ownAddr hin10 (.head _) e10_3
      have hn10_3 := ownLen hin10 (.head _)
      obtain ⟨x10_5, e10_5, zh0⟩ := bnd zh0
      refine WC.region ?_
      refine Lt.ofWL.step rfl rfl rfl (OpV.move rfl) ?_
      refine Lt.ofWL.step rfl rfl rfl (OpV.move rfl) ?_
      refine Lt.ofWL.step rfl rfl rfl (OpV.move rfl) ?_
      refine Lt.ofWL.step rfl rfl rfl (OpV.idxA rfl rfl se_24 ha10_3 ⟨(idx_some e10_3).1, by rw [hn10_3]; exact (idx_some e10_3).2.1⟩) ?_
      refine Lt.ofWL.step rfl rfl rfl (OpV.fieldAddr rfl fo_38_3) ?_
      refine WL.heavy0 rfl rfl (OpH.setFld (F := []) (A := tSurface) (off := 3) (i := v2_0) (v' := (SurfaceT.mk x10_3.Id x10_3.X x10_3.Y (wr ((wr ((wr (v1_0 + 1)) + 1)) + 1)) x10_3.H x10_3.Alpha x10_3.Orient x10_3.Visible x10_3.Buffer)) ha10_3 rfl rfl rfl ts_3 rfl rfl e10_3 (fun _ _ _ ⟨_, _, _, hp, he, h0⟩ => ⟨_, _, _, hp, by rw [he]; rfl, h0⟩) e10_5 ?_)
      refine WL.nil ?_
      refine En.next ?_
      refine WC.seq ?_
      refine WC.region ?_
      refine Lt.ofWL.step rfl rfl rfl (OpV.move rfl) ?_
      refine Lt.ofWL.step rfl rfl rfl (OpV.addR rfl rfl) ?_
      refine Lt.ofWL.step rfl rfl rfl (OpV.assign rfl) ?_
      refine WL.nil ?_
      refine En.next ?_
      refine WC.seq ?_
      refine WC.inh fun hin12 => ?_
      obtain ⟨x12_3, e12_3, zh0⟩ := bnd zh0
      obtain ⟨g12_3, ha12_3⟩ := ownAddr hin12 (.head _) e12_3
      have hn12_3 := ownLen hin12 (.head _)
      obtain ⟨x12_5, e12_5, zh0⟩ := bnd zh0
      refine WC.region ?_
      refine Lt.ofWL.step rfl rfl rfl (OpV.move rfl) ?_
      refine Lt.ofWL.step rfl rfl rfl (OpV.move rfl) ?_
      refine Lt.ofWL.step rfl rfl rfl (OpV.move rfl) ?_
      refine Lt.ofWL.step rfl rfl rfl (OpV.idxA rfl rfl se_24 ha12_3 ⟨(idx_some e12_3).1, by rw [hn12_3]; exact (idx_some e12_3).2.1⟩) ?_
      refine Lt.ofWL.step rfl rfl rfl (OpV.fieldAddr rfl fo_38_4) ?_
      refine WL.heavy0 rfl rfl (OpH.setFld (F := []) (A := tSurface) (off := 4) (i := v2_0) (v' := (SurfaceT.mk x12_3.Id x12_3.X x12_3.Y x12_3.W (wr ((wr ((wr ((wr (v1_0 + 1)) + 1)) + 1)) + 1)) x12_3.Alpha x12_3.Orient x12_3.Visible x12_3.Buffer)) ha12_3 rfl rfl rfl ts_3 rfl rfl e12_3 (fun _ _ _ ⟨_, _, _, hp, he, h0⟩ => ⟨_, _, _, hp, by rw [he]; rfl, h0⟩) e12_5 ?_)
      refine WL.nil ?_
      refine En.next ?_
      refine WC.seq ?_
      refine WC.region ?_
      refine Lt.ofWL.step rfl rfl rfl (OpV.move rfl) ?_
      refine Lt.ofWL.step rfl rfl rfl (OpV.addR rfl rfl) ?_
      refine Lt.ofWL.step rfl rfl rfl (OpV.assign rfl) ?_
      refine WL.nil ?_
      refine En.next ?_
      refine WC.seq ?_
      refine WC.inh fun hin14 => ?_
      obtain ⟨x14_3, e14_3, zh0⟩ := bnd zh0
      obtain ⟨g14_3, ha14_3⟩ := ownAddr hin14 (.head _) e14_3
      have hn14_3 := ownLen hin14 (.head _)
      obtain ⟨x14_5, e14_5, zh0⟩ := bnd zh0
      refine WC.region ?_
      refine Lt.ofWL.step rfl rfl rfl (OpV.move rfl) ?_
      refine Lt.ofWL.step rfl rfl rfl (OpV.move rfl) ?_
      refine Lt.ofWL.step rfl rfl rfl (OpV.move rfl) ?_
      refine Lt.ofWL.step rfl rfl rfl (OpV.idxA rfl rfl se_24 ha14_3 ⟨(idx_some e14_3).1, by rw [hn14_3]; exact (idx_some e14_3).2.1⟩) ?_
      refine Lt.ofWL.step rfl rfl rfl (OpV.fieldAddr rfl fo_38_5) ?_
      refine WL.heavy0 rfl rfl (OpH.setFld (F := []) (A := tSurface) (off := 5) (i := v2_0) (v' := (SurfaceT.mk x14_3.Id x14_3.X x14_3.Y x14_3.W x14_3.H (wr ((wr ((wr ((wr ((wr (v1_0 + 1)) + 1)) + 1)) + 1)) + 1)) x14_3.Orient x14_3.Visible x14_3.Buffer)) ha14_3 rfl rfl rfl ts_3 rfl rfl e14_3 (fun _ _ _ ⟨_, _, _, hp, he, h0⟩ => ⟨_, _, _, hp, by rw [he]; rfl, h0⟩) e14_5 ?_)
      refine WL.nil ?_
      refine En.next ?_
      refine WC.seq ?_
      refine WC.region ?_
      refine Lt.ofWL.step rfl rfl rfl (OpV.move rfl) ?_
      refine Lt.ofWL.step rfl rfl rfl (OpV.addR rfl rfl) ?_
      refine Lt.ofWL.step rfl rfl rfl (OpV.assign rfl) ?_
      refine WL.nil ?_
      refine En.next ?_
      refine WC.seq ?_
      refine WC.inh fun hin16 => ?_
      obtain ⟨x16_3, e16_3, zh0⟩ := bnd zh0
      obtain ⟨g16_3, ha16_3⟩ := ownAddr hin16 (.head _) e16_3
      have hn16_3 := ownLen hin16 (.head _)
      obtain ⟨x16_5, e16_5, zh0⟩ := bnd zh0
      refine WC.region ?_
      refine Lt.ofWL.step rfl rfl rfl (OpV.move rfl) ?_
      refine Lt.ofWL.step rfl rfl rfl (OpV.move rfl) ?_
      refine Lt.ofWL.step rfl rfl rfl (OpV.move rfl) ?_
      refine Lt.ofWL.step rfl rfl rfl (OpV.idxA rfl rfl se_24 ha16_3 ⟨(idx_some e16_3).1, by rw [hn16_3]; exact (idx_some e16_3).2.1⟩) ?_
      refine Lt.ofWL.step rfl rfl rfl (OpV.fieldAddr rfl fo_38_6) ?_
      refine WL.heavy0 rfl rfl (OpH.setFld (F := []) (A := tSurface) (off := 6) (i := v2_0) (v' := (SurfaceT.mk x16_3.Id x16_3.X x16_3.Y x16_3.W x16_3.H x16_3.Alpha (wr ((wr ((wr ((wr ((wr ((wr (v1_0 + 1)) + 1)) + 1)) + 1)) + 1)) + 1)) x16_3.Visible x16_3.Buffer)) ha16_3 rfl rfl rfl ts_3 rfl rfl e16_3 (fun _ _ _ ⟨_, _, _, hp, he, h0⟩ => ⟨_, _, _, hp, by rw [he]; rfl, h0⟩) e16_5 ?_)
      refine WL.nil ?_
      refine En.next ?_
      refine WC.seq ?_
      refine WC.region ?_
      refine Lt.ofWL.step rfl rfl rfl (OpV.move rfl) ?_
      refine Lt.ofWL.step rfl rfl rfl (OpV.addR rfl rfl) ?_
      refine Lt.ofWL.step rfl rfl rfl (OpV.assign rfl) ?_
      refine WL.nil ?_
      refine En.next ?_
      refine WC.seq ?_
      refine WC.inh fun hin18 => ?_
      obtain ⟨x18_5, e18_5, zh0⟩ := bnd zh0
      obtain ⟨g18_5, ha18_5⟩ := ownAddr hin18 (.head _) e18_5
      have hn18_5 := ownLen hin18 (.head _)
      obtain ⟨x18_7, e18_7, zh0⟩ := bnd zh0
      refine WC.region ?_
      refine Lt.ofWL.step rfl rfl rfl (OpV.move rfl) ?_
      refine Lt.ofWL.step rfl rfl rfl (OpV.move rfl) ?_
      refine Lt.ofWL.step rfl rfl rfl (OpV.move rfl) ?_
      refine Lt.ofWL.step rfl rfl rfl (OpV.remR rfl rfl rfl) ?_
      refine Lt.ofWL.step rfl rfl rfl (OpV.eql rfl rfl) ?_
      refine Lt.ofWL.step rfl rfl rfl (OpV.idxA rfl rfl se_24 ha18_5 ⟨(idx_some e18_5).1, by rw [hn18_5]; exact (idx_some e18_5).2.1⟩) ?_
      refine Lt.ofWL.step rfl rfl rfl (OpV.fieldAddr rfl fo_38_7) ?_
      refine WL.heavy0 rfl rfl (OpH.setFld (F := []) (A := tSurface) (off := 7) (i := v2_0) (v' := (SurfaceT.mk x18_5.Id x18_5.X x18_5.Y x18_5.W x18_5.H x18_5.Alpha x18_5.Orient (decide ((Int.tmod (wr ((wr ((wr ((wr ((wr ((wr ((wr (v1_0 + 1)) + 1)) + 1)) + 1)) + 1)) + 1)) + 1)) 3) = 0)) x18_5.Buffer)) ha18_5 rfl rfl rfl ts_4 rfl rfl e18_5 (fun _ _ _ ⟨_, _, _, hp, he, h0⟩ => ⟨_, _, _, hp, by rw [he]; rfl, h0⟩) e18_7 ?_)
      refine WL.nil ?_
      refine En.next ?_
      refine WC.seq ?_
      refine WC.region ?_
      refine Lt.ofWL.step rfl rfl rfl (OpV.move rfl) ?_
      refine Lt.ofWL.step rfl rfl rfl (OpV.addR rfl rfl) ?_
      refine Lt.ofWL.step rfl rfl rfl (OpV.assign rfl) ?_
      refine WL.nil ?_
      refine En.next ?_
      refine WC.seq ?_
      refine WC.inh fun hin20 => ?_
      obtain ⟨x20_3, e20_3, zh0⟩ := bnd zh0
      obtain ⟨g20_3, ha20_3⟩ := ownAddr hin20 (.head _) e20_3
      have hn20_3 := ownLen hin20 (.head _)
      obtain ⟨x20_6, e20_6, zh0⟩ := bnd zh0
      refine WC.region ?_
      refine Lt.ofWL.step rfl rfl rfl (OpV.move rfl) ?_
      refine Lt.ofWL.step rfl rfl rfl (OpV.move rfl) ?_
      refine Lt.ofWL.step rfl rfl rfl (OpV.move rfl) ?_
      refine Lt.ofWL.step rfl rfl rfl (OpV.idxA rfl rfl se_24 ha20_3 ⟨(idx_some e20_3).1, by rw [hn20_3]; exact (idx_some e20_3).2.1⟩) ?_
      refine Lt.ofWL.step rfl rfl rfl (OpV.fieldAddr rfl fo_38_8) ?_
      refine Lt.ofWL.step rfl rfl rfl (OpV.fieldAddr rfl fo_36_0) ?_
      refine WL.heavy0 rfl rfl (OpH.setFld (F := []) (A := tSurface) (off := 8) (i := v2_0) (v' := (SurfaceT.mk x20_3.Id x20_3.X x20_3.Y x20_3.W x20_3.H x20_3.Alpha x20_3.Orient x20_3.Visible (ImageT.mk (wr ((wr ((wr ((wr ((wr ((wr ((wr ((wr (v1_0 + 1)) + 1)) + 1)) + 1)) + 1)) + 1)) + 1)) + 1)) x20_3.Buffer.H x20_3.Buffer.Data))) ha20_3 rfl rfl rfl ts_3 rfl rfl e20_3 (fun _ _ _ ⟨_, _, _, hp, he, h0⟩ => ⟨_, _, _, hp, by rw [he]; rfl, h0⟩) e20_6 ?_)
      refine WL.nil ?_
      refine En.next ?_
      refine WC.seq ?_
      refine WC.region ?_
      refine Lt.ofWL.step rfl rfl rfl (OpV.move rfl) ?_
      refine Lt.ofWL.step rfl rfl rfl (OpV.addR rfl rfl) ?_
      refine Lt.ofWL.step rfl rfl rfl (OpV.assign rfl) ?_
      refine WL.nil ?_
      refine En.next ?_
      refine WC.seq ?_
      refine WC.inh fun hin22 => ?_
      obtain ⟨x22_3, e22_3, zh0⟩ := bnd zh0
      obtain ⟨g22_3, ha22_3⟩ := ownAddr hin22 (.head _) e22_3
      have hn22_3 := ownLen hin22 (.head _)
      obtain ⟨x22_6, e22_6, zh0⟩ := bnd zh0
      refine WC.region ?_
      refine Lt.ofWL.step rfl rfl rfl (OpV.move rfl) ?_
      refine Lt.ofWL.step rfl rfl rfl (OpV.move rfl) ?_
      refine Lt.ofWL.step rfl rfl rfl (OpV.move rfl) ?_
      refine Lt.ofWL.step rfl rfl rfl (OpV.idxA rfl rfl se_24 ha22_3 ⟨(idx_some e22_3).1, by rw [hn22_3]; exact (idx_some e22_3).2.1⟩) ?_
      refine Lt.ofWL.step rfl rfl rfl (OpV.fieldAddr rfl fo_38_8) ?_
      refine Lt.ofWL.step rfl rfl rfl (OpV.fieldAddr rfl fo_36_1) ?_
      refine WL.heavy0 rfl rfl (OpH.setFld (F := []) (A := tSurface) (off := 9) (i := v2_0) (v' := (SurfaceT.mk x22_3.Id x22_3.X x22_3.Y x22_3.W x22_3.H x22_3.Alpha x22_3.Orient x22_3.Visible (ImageT.mk x22_3.Buffer.W (wr ((wr ((wr ((wr ((wr ((wr ((wr ((wr ((wr (v1_0 + 1)) + 1)) + 1)) + 1)) + 1)) + 1)) + 1)) + 1)) + 1)) x22_3.Buffer.Data))) ha22_3 rfl rfl rfl ts_3 rfl rfl e22_3 (fun _ _ _ ⟨_, _, _, hp, he, h0⟩ => ⟨_, _, _, hp, by rw [he]; rfl, h0⟩) e22_6 ?_)
      refine WL.nil ?_
      refine En.next ?_
      refine WC.seq ?_
      refine WC.region ?_
      refine Lt.ofWL.step rfl rfl rfl (OpV.move rfl) ?_
      refine Lt.ofWL.step rfl rfl rfl (OpV.addR rfl rfl) ?_
      refine Lt.ofWL.step rfl rfl rfl (OpV.assign rfl) ?_
      refine WL.nil ?_
      refine En.next ?_
      refine WC.inh fun hin24 => ?_
      obtain ⟨x24_2, e24_2, zh0⟩ := bnd zh0
      obtain ⟨g24_2, ha24_2⟩ := ownAddr hin24 (.head _) e24_2
      have hn24_2 := ownLen hin24 (.head _)
      obtain ⟨⟨x24_7a, x24_7b⟩, e24_7, zh0⟩ := bnd zh0
      obtain ⟨x24_u, e24_u, zh0⟩ := bnd zh0
      refine WC.exF (fun w h => St.focus (F := []) e24_2 h) ?_
      rintro ⟨css24_2, fps24_2, cs24_2, fz24_2⟩ ⟨hcs24_2, hk24_2⟩
      refine WC.exF (X := (Option Addr) × Nat × (List Nat)) (Pre := fun x => match x with | (a24_2_0, c24_2_0, f24_2_0) => cs24_2 = [.int .i64 x24_2.Id, .int .i64 x24_2.X, .int .i64 x24_2.Y, .int .i64 x24_2.W, .int .i64 x24_2.H, .int .i64 x24_2.Alpha, .int .i64 x24_2.Orient, .bool x24_2.Visible, .int .i64 x24_2.Buffer.W, .int .i64 x24_2.Buffer.H, .slice a24_2_0 x24_2.Buffer.Data.length c24_2_0]) (F' := fun x => match x with | (a24_2_0, c24_2_0, f24_2_0) => (Chunk.own tInt f24_2_0 a24_2_0 x24_2.Buffer.Data.length c24_2_0 x24_2.Buffer.Data :: Chunk.row tSurface.T tSurface.k q0_0 x22_6.length k0_0 css24_2.flatten :: Chunk.inX tSurface css24_2 fps24_2 x22_6 v2_0.toNat :: C)) (fun w h => let ⟨a24_2_0, c24_2_0, f24_2_0, e, hs⟩ := tSurface_open (F := []) h; ⟨(a24_2_0, c24_2_0, f24_2_0), e, hs⟩) ?_
      rintro ⟨a24_2_0, c24_2_0, f24_2_0⟩ hz24_2
      replace hz24_2 : cs24_2 = [.int .i64 x24_2.Id, .int .i64 x24_2.X, .int .i64 x24_2.Y, .int .i64 x24_2.W, .int .i64 x24_2.H, .int .i64 x24_2.Alpha, .int .i64 x24_2.Orient, .bool x24_2.Visible, .int .i64 x24_2.Buffer.W, .int .i64 x24_2.Buffer.H, .slice a24_2_0 x24_2.Buffer.Data.length c24_2_0] := hz24_2
      subst hz24_2
      show WC _ _ _ _ _ _ (Chunk.own tInt f24_2_0 a24_2_0 x24_2.Buffer.Data.length c24_2_0 x24_2.Buffer.Data :: Chunk.row tSurface.T tSurface.k q0_0 x22_6.length k0_0 css24_2.flatten :: Chunk.inX tSurface css24_2 fps24_2 x22_6 v2_0.toNat :: C)
      refine WC.region ?_
      refine Lt.ofWL.step rfl rfl rfl (OpV.move rfl) ?_
      refine Lt.ofWL.step rfl rfl rfl (OpV.move rfl) ?_
      refine Lt.ofWL.step rfl rfl rfl (OpV.idxA rfl rfl se_24 ha24_2 ⟨(idx_some e24_2).1, by rw [hn24_2]; exact (idx_some e24_2).2.1⟩) ?_
      refine Lt.ofWL.step rfl rfl rfl (OpV.fieldAddr rfl fo_38_8) ?_
      refine Lt.ofWL.step rfl rfl rfl (OpV.fieldAddr rfl fo_36_2) ?_
      refine Lt.ofWL.step rfl rfl rfl (OpV.load1 rfl pt_32 (fun w hs => focCell (j := 10) (hs.mem (.tail _ (.head _))) hk24_2 hcs24_2 ha24_2 rfl)) ?_
      refine Lt.ofWL.step rfl rfl rfl (OpV.move rfl) ?_
      refine WL.heavy rfl rfl rfl (OpH.callX (evs.cons rfl (evs.cons rfl (evs.nil))) ca_28 (fun w hs => w_laws_markIntS e24_7 hs) ?_)
      rintro _ _ ⟨g24_700, rfl, rfl⟩
      refine Lt.ofWL.step rfl rfl rfl (OpV.assign rfl) ?_
      refine WL.nil ?_
      refine En.exF (fun w h => St.unfocus (F := []) hcs24_2 hn24_2 e24_u (tSurface_mk x24_2.Id x24_2.X x24_2.Y x24_2.W x24_2.H x24_2.Alpha x24_2.Orient x24_2.Visible (ImageT.mk x24_2.Buffer.W x24_2.Buffer.H x24_7b) h)) ?_
      rintro fp24_u _
      refine En.block_norm ?_
      refine En.next ?_
      refine WC.region ?_
      refine Lt.ofWL.step rfl rfl rfl (OpV.move rfl) ?_
      refine Lt.ofWL.step rfl rfl rfl (OpV.addR rfl rfl) ?_
      refine Lt.ofWL.step rfl rfl rfl (OpV.assign rfl) ?_
      refine WL.nil ?_
      exact En.backP zb0 zh0 fp24_u (Sub.cons rfl (Sub.cons rfl (Sub.cons rfl (Sub.nil _)))) (fun _ h => h)
    ·
      intro hc_1
      replace zh0 := ifO_f hc_1 zh0
      refine WC.exit ?_
      refine En.then_exit ?_
      refine En.then_exit ?_
      have hx := exitP ze0 zh0
      exact En.wk _ _ (Sub.cons rfl (Sub.nil _)) (fun _ h => h) (zK0_0 ((v1_0, v_0), fv_0) hx.symm)

theorem w_laws_markScene {a_p0 : SceneT} {k_p1 : Int} {r : Int × (List SurfaceT)} {q0_0 : Option Addr} {n0_0 k0_0 : Nat} {f0_0 : List Nat} (h : laws_markScene a_p0 k_p1 = some r) {w0 w : World} {C : List Chunk} (hs0 : St w0 (Chunk.own tSurface f0_0 q0_0 n0_0 k0_0 a_p0.Surfaces :: C) w)  :
    Calls Try.prog 27 #[.agg #[.int .i64 a_p0.W, .int .i64 a_p0.H, .int .i64 a_p0.Back, .slice q0_0 n0_0 k0_0], .int .i64 k_p1] w (fun en w' => ∃ rv G, en = .returned rv ∧ (∃ (g0_0 : List Nat), rv = .int .i64 r.1 ∧ G = Chunk.own tSurface g0_0 q0_0 n0_0 k0_0 r.2 :: C) ∧ St w0 G w') := by
  unfold laws_markScene at h
  refine enterF hs0 (vs := [_, _]) Try.func27 rfl rfl rfl rfl ?_
  refine WC.seq ?_
  refine WC.region ?_
  refine WL.heavy rfl rfl rfl (OpH.box rfl rfl ?_)
  intro b0_0
  refine Lt.ofWL.step rfl rfl rfl (OpV.assign rfl) ?_
  refine WL.nil ?_
  refine En.next ?_
  refine WC.seq ?_
  obtain ⟨⟨x1_3a, x1_3b⟩, e1_3, h⟩ := bnd h
  refine WC.region ?_
  refine Lt.ofWL.step rfl rfl rfl (OpV.fieldAddr rfl fo_26_3) ?_
  refine Lt.ofWL.step rfl rfl rfl (OpV.loadBox rfl pt_24 (.head _) rfl) ?_
  refine Lt.ofWL.step rfl rfl rfl (OpV.move rfl) ?_
  refine WL.wkF (fun _ h => h.perm (List.perm_middle (l₁ := [_]))) ?_
  refine WL.heavy rfl rfl rfl (OpH.callX (evs.cons rfl (evs.cons rfl (evs.nil))) ca_80 (fun w hs => w_laws_markSurfaceS e1_3 hs) ?_)
  rintro _ _ ⟨g1_300, rfl, rfl⟩
  refine Lt.ofWL.step rfl rfl rfl (OpV.assign rfl) ?_
  refine WL.nil ?_
  refine En.next ?_
  refine WC.seq ?_
  refine WC.region ?_
  refine Lt.ofWL.step rfl rfl rfl (OpV.move rfl) ?_
  refine Lt.ofWL.step rfl rfl rfl (OpV.assign rfl) ?_
  refine WL.nil ?_
  refine En.next ?_
  refine WC.ret ?_
  refine En.ret1 rfl (Res.tmp rfl) ?_
  obtain rfl := Option.some.inj h
  intro w' hs
  have hs := (hs).sub (.cons_cons _ (.cons _ (List.Sublist.refl _)))
  exact ⟨_, _, rfl, ⟨g1_300, rfl, rfl⟩, hs⟩

theorem w_laws_heldIntS {a_p0 : List Int} {k_p1 : Int} {r : Int} {q0_0 : Option Addr} {n0_0 k0_0 : Nat} (h : laws_heldIntS a_p0 k_p1 = some r) {w : World} (r0_0 : Rd tInt w q0_0 n0_0 k0_0 a_p0)   :
    Calls Try.prog 29 #[.slice q0_0 n0_0 k0_0, .int .i64 k_p1] w (fun en w' => en = .returned (.int .i64 r) ∧ Ext w w') := by
  obtain rfl := r0_0.1
  unfold laws_heldIntS at h
  refine enter (vs := [_, _]) Try.func29 rfl rfl rfl rfl ?_
  refine WC.seq ?_
  refine WC.region ?_
  refine Lt.ofWL.step rfl rfl rfl (OpV.assign rfl) ?_
  refine WL.nil ?_
  refine En.next ?_
  refine WC.seq ?_
  refine WC.seq ?_
  refine WC.region ?_
  refine Lt.ofWL.step rfl rfl rfl (OpV.assign rfl) ?_
  refine WL.nil ?_
  refine En.next ?_
  refine WC.block ?_
  obtain ⟨zy0, ezy0, h⟩ := bnd h
  refine WC.cut (X := (Int) × (Unit)) (.exit 0) (fun x => zy0 = .inl x.1) (fun x => match x with | (k_0e, ()) => [(1, .int .i64 k_0e)]) (fun x => match x with | (k_0e, ()) => []) ?_ ?_
  ·
    rintro ⟨k_0e, ⟨⟩⟩ hx
    replace hx : .inl k_0e = zy0 := hx.symm
    subst hx
    replace h := fork_l h
    show En _ _ _ _ [(1, .int .i64 k_0e)] []
    refine En.block_exit ?_
    refine En.next ?_
    refine WC.seq ?_
    refine WC.region ?_
    refine Lt.ofWL.step rfl rfl rfl (OpV.move rfl) ?_
    refine Lt.ofWL.step rfl rfl rfl (OpV.assign rfl) ?_
    refine WL.nil ?_
    refine En.next ?_
    refine WC.ret ?_
    refine En.ret1 rfl (Res.tmp rfl) ?_
    obtain rfl := Option.some.inj h
    intro w' hs
    exact ⟨rfl, hs.below⟩
  ·
    intro zK0_0
    refine WC.loopP (G := Unit) (fun s g => match s, g with | (k_0, i_0), () => [(0, .slice q0_0 a_p0.length k0_0), (1, .int .i64 k_0), (5, .int .i64 i_0)]) (fun s g => match s, g with | (k_0, i_0), () => []) (k_p1, 0) () ezy0 (by exact Sub.cons rfl (Sub.cons rfl (Sub.cons rfl (Sub.nil _)))) (by exact (fun _ h => h)) ?_
    rintro zm0 ⟨k_0, i_0⟩ ⟨⟩ zo0 zf0 zb0 ze0
    have zh0 : laws_heldIntS_L0 a_p0 k_0 i_0 = some zo0 := zf0
    unfold laws_heldIntS_L0 at zh0
    show WC _ _ _ _ _ [(0, .slice q0_0 a_p0.length k0_0), (1, .int .i64 k_0), (5, .int .i64 i_0)] []
    refine WC.seq ?_
    refine WC.seq ?_
    refine WC.region ?_
    refine Lt.ofWL.step rfl rfl rfl (OpV.move rfl) ?_
    refine Lt.ofWL.step rfl rfl rfl (OpV.move rfl) ?_
    refine Lt.ofWL.step rfl rfl rfl (OpV.len rfl si_32 rfl) ?_
    refine Lt.ofWL.step rfl rfl rfl (OpV.lss rfl rfl) ?_
    refine WL.nil ?_
    refine En.next ?_
    refine WC.cond rfl ?_ ?_
    ·
      intro hc_1
      replace zh0 := ifO_t hc_1 zh0
      refine WC.skip ?_
      refine En.next ?_
      refine WC.seq ?_
      refine WC.block ?_
      refine WC.seq ?_
      refine WC.seq ?_
      obtain ⟨x4_2, e4_2, zh0⟩ := bnd zh0
      obtain ⟨g4_2, o4_2, _, ha4_2, rfl, hd4_2⟩ := Rd.atIdx r0_0 e4_2
      replace hd4_2 : ∀ (j : Nat) v, ([.int .i64 x4_2] : List Value)[j]? = some v → w.cell? ⟨g4_2, o4_2 + i_0.toNat * 1 + j, .none⟩ = some v := hd4_2
      refine WC.region ?_
      refine Lt.ofWL.step rfl rfl rfl (OpV.move rfl) ?_
      refine Lt.ofWL.step rfl rfl rfl (OpV.move rfl) ?_
      refine Lt.ofWL.step rfl rfl rfl (OpV.idxA rfl rfl se_32 ha4_2 ⟨(idx_some e4_2).1, (idx_some e4_2).2.1⟩) ?_
      refine Lt.ofWL.step rfl rfl rfl (OpV.load1 rfl pt_3 (fun w hs => hs.cell (hd4_2 0 _ rfl))) ?_
      refine Lt.ofWL.step rfl rfl rfl (OpV.move rfl) ?_
      refine Lt.ofWL.step rfl rfl rfl (OpV.neq rfl rfl) ?_
      refine WL.nil ?_
      refine En.next ?_
      refine WC.cond rfl ?_ ?_
      ·
        intro hc_2
        replace zh0 := ifO_t hc_2 zh0
        refine WC.seq ?_
        refine WC.region ?_
        refine Lt.ofWL.step rfl rfl rfl (OpV.assign rfl) ?_
        refine WL.nil ?_
        refine En.next ?_
        refine WC.ret ?_
        refine En.then_ret ?_
        refine En.block_ret ?_
        refine En.then_ret ?_
        refine En.then_ret ?_
        refine En.block_ret ?_
        refine En.then_ret ?_
        refine En.ret1 rfl (Res.tmp rfl) ?_
        have hx := exitP ze0 zh0
        subst hx
        replace h := fork_r h
        obtain rfl := Option.some.inj h
        intro w' hs
        exact ⟨rfl, hs.below⟩
      ·
        intro hc_2
        replace zh0 := ifO_f hc_2 zh0
        refine WC.skip ?_
        refine En.next ?_
        refine WC.region ?_
        refine Lt.ofWL.step rfl rfl rfl (OpV.move rfl) ?_
        refine Lt.ofWL.step rfl rfl rfl (OpV.addR rfl rfl) ?_
        refine Lt.ofWL.step rfl rfl rfl (OpV.assign rfl) ?_
        refine WL.nil ?_
        refine En.block_norm ?_
        refine En.next ?_
        refine WC.region ?_
        refine Lt.ofWL.step rfl rfl rfl (OpV.move rfl) ?_
        refine Lt.ofWL.step rfl rfl rfl (OpV.addR rfl rfl) ?_
        refine Lt.ofWL.step rfl rfl rfl (OpV.assign rfl) ?_
        refine WL.nil ?_
        exact En.backP zb0 zh0 () (Sub.cons rfl (Sub.cons rfl (Sub.cons rfl (Sub.nil _)))) (fun _ h => h)
    ·
      intro hc_1
      replace zh0 := ifO_f hc_1 zh0
      refine WC.exit ?_
      refine En.then_exit ?_
      refine En.then_exit ?_
      have hx := exitP ze0 zh0
      exact En.wk _ _ (Sub.cons rfl (Sub.nil _)) (fun _ h => h) (zK0_0 (k_0, ()) hx.symm)

theorem w_laws_FnExactAssignedOf {a_p0 : SceneT} {a_p1 : OptionsT} {r : Bool} {q0_0 : Option Addr} {n0_0 k0_0 : Nat} (h : laws_FnExactAssignedOf a_p0 a_p1 = some r) {w : World} (r0_0 : Rd tSurface w q0_0 n0_0 k0_0 a_p0.Surfaces)   :
    Calls Try.prog 4 #[.agg #[.int .i64 a_p0.W, .int .i64 a_p0.H, .int .i64 a_p0.Back, .slice q0_0 n0_0 k0_0], .agg #[.int .i64 a_p1.Overlays, .bool a_p1.Cursor, .int .i64 a_p1.Layout, .bool a_p1.Partial, .bool a_p1.Sleep, .bool a_p1.Secret]] w (fun en w' => en = .returned (.bool r) ∧ Ext w w') := by
  obtain rfl := r0_0.1
  unfold laws_FnExactAssignedOf at h
  refine enter (vs := [_, _]) Try.func4 rfl rfl rfl rfl ?_
  refine WC.seq ?_
  refine WC.region ?_
  refine WL.heavy rfl rfl rfl (OpH.box rfl rfl ?_)
  intro b0_0
  refine WL.heavy rfl rfl rfl (OpH.box rfl rfl ?_)
  intro b0_1
  refine Lt.ofWL.step rfl rfl rfl (OpV.assign rfl) ?_
  refine WL.nil ?_
  refine En.next ?_
  refine WC.seq ?_
  refine WC.region ?_
  refine Lt.ofWL.step rfl rfl rfl (OpV.assign rfl) ?_
  refine WL.nil ?_
  refine En.next ?_
  refine WC.seq ?_
  obtain ⟨x2_2, e2_2, h⟩ := bnd h
  refine WC.region ?_
  refine Lt.ofWL.step rfl rfl rfl (OpV.loadAll rfl (.tail _ (.head _)) ag_43) ?_
  refine Lt.ofWL.step rfl rfl rfl (OpV.move rfl) ?_
  refine Lt.ofWL.step rfl rfl rfl (OpV.call (evs.cons rfl (evs.cons rfl (evs.nil))) ca_21 (fun w hs => w_laws_szScene e2_2 (r0_0.ext hs.below))) ?_
  refine Lt.ofWL.step rfl rfl rfl (OpV.assign rfl) ?_
  refine WL.nil ?_
  refine En.next ?_
  refine WC.seq ?_
  refine WC.seq ?_
  refine WC.region ?_
  refine Lt.ofWL.step rfl rfl rfl (OpV.move rfl) ?_
  refine Lt.ofWL.step rfl rfl rfl (OpV.lss rfl rfl) ?_
  refine WL.nil ?_
  refine En.next ?_
  refine WC.cond rfl ?_ ?_
  ·
    intro hc_1
    replace h := ifO_t hc_1 h
    refine WC.seq ?_
    refine WC.region ?_
    refine Lt.ofWL.step rfl rfl rfl (OpV.assign rfl) ?_
    refine WL.nil ?_
    refine En.next ?_
    refine WC.ret ?_
    refine En.then_ret ?_
    refine En.ret1 rfl (Res.tmp rfl) ?_
    obtain rfl := Option.some.inj h
    intro w' hs
    exact ⟨rfl, hs.below⟩
  ·
    intro hc_1
    replace h := ifO_f hc_1 h
    refine WC.skip ?_
    refine En.next ?_
    refine WC.seq ?_
    obtain ⟨x5_1, e5_1, h⟩ := bnd h
    obtain ⟨x5_3, e5_3, h⟩ := bnd h
    obtain ⟨⟨x5_4a, x5_4b⟩, e5_4, h⟩ := bnd h
    refine WC.drawnH [] ([_, _]) (fun _ h => h) (by kernel_rfl) ?_
    refine WAE.take (i := 0) rfl (by kernel_rfl) (by kernel_rfl) (by kernel_rfl) rfl rfl rfl (OpV.loadAll rfl (.tail _ (.head _)) ag_43) ?_
    refine WAE.take (i := 2) rfl (by kernel_rfl) (by kernel_rfl) (by kernel_rfl) rfl rfl rfl (OpV.loadAll rfl (.head _) ag_44) ?_
    refine WAE.all (rs := [1]) (by kernel_rfl) rfl (AllR.cons rfl rfl rfl rfl ?_ AllR.nil)
    refine OpH.callR (evs.cons rfl (evs.nil)) ca_23 (fun w hs => w_laws_toScene e5_1 (r0_0.ext hs.below)) ?_
    rintro _ _ ⟨a5_100, n5_100, c5_100, f5_100, rfl, rfl⟩
    refine ⟨[_], rfl, ?_⟩
    refine WAE.rebase (H := []) ?_
    refine WAE.take (i := 3) rfl (by kernel_rfl) (by kernel_rfl) (by kernel_rfl) rfl rfl rfl (OpV.call (evs.cons rfl (evs.nil)) ca_24 (fun w hs => w_laws_toOptions e5_3)) ?_
    refine WAE.all (rs := [4]) (by kernel_rfl) rfl (AllR.cons rfl rfl rfl rfl ?_ AllR.nil)
    refine OpH.callR (evs.cons rfl (evs.cons rfl (evs.nil))) ca_22 (fun w hs => w_spec_AssignedOf e5_4 (Ow.rd (hs.mem (.head _)))) ?_
    rintro _ _ ⟨a5_400, n5_400, c5_400, f5_400, rfl, rfl⟩
    refine ⟨[_], rfl, ?_⟩
    refine WAE.rebase (H := []) ?_
    refine WAE.take (i := 5) rfl (by kernel_rfl) (by kernel_rfl) (by kernel_rfl) rfl rfl rfl (OpV.move rfl) ?_
    refine WAE.take (i := 6) rfl (by kernel_rfl) (by kernel_rfl) (by kernel_rfl) rfl rfl rfl (OpV.extract rfl rfl) ?_
    refine WAE.take (i := 7) rfl (by kernel_rfl) (by kernel_rfl) (by kernel_rfl) rfl rfl rfl (OpV.extract rfl rfl) ?_
    refine WAE.take (i := 8) rfl (by kernel_rfl) (by kernel_rfl) (by kernel_rfl) rfl rfl rfl (OpV.assign rfl) ?_
    refine WAE.take (i := 9) rfl (by kernel_rfl) (by kernel_rfl) (by kernel_rfl) rfl rfl rfl (OpV.assign rfl) ?_
    refine WAE.done (by kernel_rfl) ?_ _
    refine En.next ?_
    refine WC.seq ?_
    obtain ⟨x6_1, e6_1, h⟩ := bnd h
    refine WC.region ?_
    refine Lt.ofWL.step rfl rfl rfl (OpV.loadAll rfl (.tail _ (.tail _ (.tail _ (.head _)))) ag_43) ?_
    refine WL.heavy rfl rfl rfl (OpH.callR (evs.cons rfl (evs.nil)) ca_23 (fun w hs => w_laws_toScene e6_1 (r0_0.ext hs.below)) ?_)
    rintro _ _ ⟨a6_100, n6_100, c6_100, f6_100, rfl, rfl⟩
    refine WL.heavy rfl rfl rfl (OpH.alloc zc_26 ?_)
    intro b6_2
    refine WL.heavy0 rfl rfl (OpH.storeTo (A := []) [_, _, _, _] rfl rfl rfl ts_26 rfl rfl rfl ?_)
    refine WL.nil ?_
    refine En.next ?_
    refine WC.seq ?_
    obtain ⟨x7_2, e7_2, h⟩ := bnd h
    obtain ⟨⟨x7_3a, x7_3b⟩, e7_3, h⟩ := bnd h
    refine WC.drawnH [] ([_, _, _, _, _, _]) (fun _ h => h) (by kernel_rfl) ?_
    refine WAE.take (i := 0) rfl (by kernel_rfl) (by kernel_rfl) (by kernel_rfl) rfl rfl rfl (OpV.loadAll rfl (.head _) ag_26) ?_
    refine WAE.take (i := 1) rfl (by kernel_rfl) (by kernel_rfl) (by kernel_rfl) rfl rfl rfl (OpV.loadAll rfl (.tail _ (.tail _ (.tail _ (.tail _ (.head _))))) ag_44) ?_
    refine WAE.take (i := 2) rfl (by kernel_rfl) (by kernel_rfl) (by kernel_rfl) rfl rfl rfl (OpV.call (evs.cons rfl (evs.nil)) ca_24 (fun w hs => w_laws_toOptions e7_2)) ?_
    refine WAE.all (rs := [3]) (by kernel_rfl) rfl (AllR.cons rfl rfl rfl rfl ?_ AllR.nil)
    refine OpH.callR (evs.cons rfl (evs.cons rfl (evs.nil))) ca_18 (fun w hs => w_impl_AssignedOf e7_3 (Ow.rd (hs.mem (.tail _ (.head _))))) ?_
    rintro _ _ ⟨a7_300, n7_300, c7_300, f7_300, rfl, rfl⟩
    refine ⟨[_], rfl, ?_⟩
    refine WAE.rebase (H := []) ?_
    refine WAE.take (i := 4) rfl (by kernel_rfl) (by kernel_rfl) (by kernel_rfl) rfl rfl rfl (OpV.move rfl) ?_
    refine WAE.take (i := 5) rfl (by kernel_rfl) (by kernel_rfl) (by kernel_rfl) rfl rfl rfl (OpV.extract rfl rfl) ?_
    refine WAE.take (i := 6) rfl (by kernel_rfl) (by kernel_rfl) (by kernel_rfl) rfl rfl rfl (OpV.extract rfl rfl) ?_
    refine WAE.take (i := 7) rfl (by kernel_rfl) (by kernel_rfl) (by kernel_rfl) rfl rfl rfl (OpV.assign rfl) ?_
    refine WAE.take (i := 8) rfl (by kernel_rfl) (by kernel_rfl) (by kernel_rfl) rfl rfl rfl (OpV.assign rfl) ?_
    refine WAE.done (by kernel_rfl) ?_ _
    refine En.next ?_
    refine WC.seq ?_
    refine WC.seq ?_
    obtain ⟨x8_2, e8_2, h⟩ := bnd h
    refine WC.region ?_
    refine Lt.ofWL.step rfl rfl rfl (OpV.move rfl) ?_
    refine Lt.ofWL.step rfl rfl rfl (OpV.move rfl) ?_
    refine Lt.ofWL.step rfl rfl rfl (OpV.call (evs.cons rfl (evs.cons rfl (evs.nil))) ca_25 (fun w hs => w_laws_eqIntS e8_2 (Ow.rd (hs.mem (.head _))) (Ow.rd (hs.mem (.tail _ (.tail _ (.tail _ (.head _)))))))) ?_
    refine Lt.ofWL.step rfl rfl rfl (OpV.not rfl) ?_
    refine Lt.ofWL.step rfl rfl rfl (OpV.move rfl) ?_
    refine Lt.ofWL.or 42 46 45 (p := ?pz1) (rest := ?qz1) (B := ?Bz1) rfl ?Tz1 ?Fz1 ?az1 ?bz1 ?cz1 ?dz1 ?ez1
    case Tz1 =>
      intro hcz1 hkz1
      refine Lt.ofWL.skip rfl rfl rfl ?_
      refine Lt.ofWL.skip rfl rfl rfl ?_
      refine Lt.ofWL.skip rfl rfl rfl ?_
      refine hkz1 _ ?_
      repeat (first | exact Sub.refl _ | refine Sub.skip rfl ?_)
    case Fz1 =>
      intro hcz1 hkz1
      refine Lt.ofWL.step rfl rfl rfl (OpV.move rfl) ?_
      refine Lt.ofWL.step rfl rfl rfl (OpV.move rfl) ?_
      refine Lt.ofWL.step rfl rfl rfl (OpV.neq rfl rfl) ?_
      refine hkz1 _ ?_ ?_
      exact rfl
      repeat (first | exact Sub.refl _ | refine Sub.skip rfl ?_)
    case az1 => exact rfl
    case bz1 => exact rfl
    case cz1 => exact rfl
    case dz1 => exact rfl
    refine WL.nil ?_
    refine En.next ?_
    refine WC.cond rfl ?_ ?_
    ·
      intro hc_2
      replace h := ifO_t hc_2 h
      refine WC.seq ?_
      refine WC.region ?_
      refine Lt.ofWL.step rfl rfl rfl (OpV.assign rfl) ?_
      refine WL.nil ?_
      refine En.next ?_
      refine WC.ret ?_
      refine En.then_ret ?_
      refine En.ret1 rfl (Res.tmp rfl) ?_
      obtain rfl := Option.some.inj h
      intro w' hs
      exact ⟨rfl, hs.below⟩
    ·
      intro hc_2
      replace h := ifO_f hc_2 h
      refine WC.skip ?_
      refine En.next ?_
      refine WC.seq ?_
      refine WC.seq ?_
      obtain ⟨x10_2, e10_2, h⟩ := bnd h
      obtain ⟨x10_3, e10_3, h⟩ := bnd h
      refine WC.drawnH [] ([_, _, _, _, _, _, _]) (fun _ h => h) (by kernel_rfl) ?_
      refine WAE.take (i := 0) rfl (by kernel_rfl) (by kernel_rfl) (by kernel_rfl) rfl rfl rfl (OpV.loadAll rfl (.tail _ (.head _)) ag_26) ?_
      refine WAE.take (i := 1) rfl (by kernel_rfl) (by kernel_rfl) (by kernel_rfl) rfl rfl rfl (OpV.loadAll rfl (.tail _ (.tail _ (.tail _ (.tail _ (.tail _ (.tail _ (.head _))))))) ag_43) ?_
      refine WAE.all (rs := [2]) (by kernel_rfl) rfl (AllR.cons rfl rfl rfl rfl ?_ AllR.nil)
      refine OpH.callR (evs.cons rfl (evs.nil)) ca_23 (fun w hs => w_laws_toScene e10_2 (r0_0.ext hs.below)) ?_
      rintro _ _ ⟨a10_200, n10_200, c10_200, f10_200, rfl, rfl⟩
      refine ⟨[_], rfl, ?_⟩
      refine WAE.rebase (H := []) ?_
      refine WAE.take (i := 3) rfl (by kernel_rfl) (by kernel_rfl) (by kernel_rfl) rfl rfl rfl (OpV.call (evs.cons rfl (evs.cons rfl (evs.nil))) ca_26 (fun w hs => w_laws_eqScene e10_3 (Ow.rd (hs.mem (.tail _ (.tail _ (.tail _ (.head _)))))) (Ow.rd (hs.mem (.head _))))) ?_
      refine WAE.take (i := 4) rfl (by kernel_rfl) (by kernel_rfl) (by kernel_rfl) rfl rfl rfl (OpV.not rfl) ?_
      refine WAE.done (by kernel_rfl) ?_ _
      refine En.next ?_
      refine WC.cond rfl ?_ ?_
      ·
        intro hc_3
        replace h := ifO_t hc_3 h
        refine WC.seq ?_
        refine WC.region ?_
        refine Lt.ofWL.step rfl rfl rfl (OpV.assign rfl) ?_
        refine WL.nil ?_
        refine En.next ?_
        refine WC.ret ?_
        refine En.then_ret ?_
        refine En.ret1 rfl (Res.tmp rfl) ?_
        obtain rfl := Option.some.inj h
        intro w' hs
        exact ⟨rfl, hs.below⟩
      ·
        intro hc_3
        replace h := ifO_f hc_3 h
        refine WC.skip ?_
        refine En.next ?_
        refine WC.seq ?_
        refine WC.region ?_
        refine Lt.ofWL.step rfl rfl rfl (OpV.assign rfl) ?_
        refine WL.nil ?_
        refine En.next ?_
        refine WC.seq ?_
        obtain ⟨⟨x13_2a, x13_2b⟩, e13_2, h⟩ := bnd h
        refine WC.region ?_
        refine Lt.ofWL.step rfl rfl rfl (OpV.loadAll rfl (.tail _ (.tail _ (.head _))) ag_26) ?_
        refine Lt.ofWL.step rfl rfl rfl (OpV.move rfl) ?_
        refine WL.wkF (fun _ h => h.perm (List.perm_middle (l₁ := [_, _, _]))) ?_
        refine WL.heavy rfl rfl rfl (OpH.callX (evs.cons rfl (evs.cons rfl (evs.nil))) ca_27 (fun w hs => w_laws_markScene e13_2 hs) ?_)
        rintro _ _ ⟨g13_200, rfl, rfl⟩
        refine Lt.ofWL.step rfl rfl rfl (OpV.assign rfl) ?_
        refine WL.nil ?_
        refine En.next ?_
        refine WC.seq ?_
        refine WC.seq ?_
        obtain ⟨q14_7, e14_7, h⟩ := bnd h
        refine WC.region ?_
        refine Lt.ofWL.step rfl rfl rfl (OpV.move rfl) ?_
        refine Lt.ofWL.step rfl rfl rfl (OpV.lss rfl rfl) ?_
        refine Lt.ofWL.step rfl rfl rfl (OpV.move rfl) ?_
        refine Lt.ofWL.orQ 57 62 61 (p := ?pz2) (rest := ?qz2) (B := q14_7) rfl (fun hz => orO_t e14_7 hz) ?Tz2 ?Fz2 ?az2 ?bz2 ?cz2 ?dz2 ?ez2
        case Tz2 =>
          intro hcz2 hkz2
          refine Lt.ofWL.skip rfl rfl rfl ?_
          refine Lt.ofWL.skip rfl rfl rfl ?_
          refine Lt.ofWL.skip rfl rfl rfl ?_
          refine Lt.ofWL.skip rfl rfl rfl ?_
          refine hkz2 _ ?_
          repeat (first | exact Sub.refl _ | refine Sub.skip rfl ?_)
        case Fz2 =>
          intro hcz2 hkz2
          have hqz2 := orO_f e14_7 hcz2
          obtain ⟨x14_5, e14_5, hqz2⟩ := bnd hqz2
          obtain rfl := Option.some.inj hqz2
          refine Lt.ofWL.step rfl rfl rfl (OpV.move rfl) ?_
          refine Lt.ofWL.step rfl rfl rfl (OpV.move rfl) ?_
          refine Lt.ofWL.step rfl rfl rfl (OpV.call (evs.cons rfl (evs.cons rfl (evs.nil))) ca_25 (fun w hs => w_laws_eqIntS e14_5 (Ow.rd (hs.mem (.tail _ (.tail _ (.head _))))) (Ow.rd (hs.mem (.tail _ (.tail _ (.tail _ (.tail _ (.head _))))))))) ?_
          refine Lt.ofWL.step rfl rfl rfl (OpV.not rfl) ?_
          refine hkz2 _ ?_ ?_
          exact rfl
          repeat (first | exact Sub.refl _ | refine Sub.skip rfl ?_)
        case az2 => exact rfl
        case bz2 => exact rfl
        case cz2 => exact rfl
        case dz2 => exact rfl
        refine Lt.ofWL.step rfl rfl rfl (OpV.move rfl) ?_
        refine Lt.ofWL.or 63 67 66 (p := ?pz3) (rest := ?qz3) (B := ?Bz3) rfl ?Tz3 ?Fz3 ?az3 ?bz3 ?cz3 ?dz3 ?ez3
        case Tz3 =>
          intro hcz3 hkz3
          refine Lt.ofWL.skip rfl rfl rfl ?_
          refine Lt.ofWL.skip rfl rfl rfl ?_
          refine Lt.ofWL.skip rfl rfl rfl ?_
          refine hkz3 _ ?_
          repeat (first | exact Sub.refl _ | refine Sub.skip rfl ?_)
        case Fz3 =>
          intro hcz3 hkz3
          refine Lt.ofWL.step rfl rfl rfl (OpV.move rfl) ?_
          refine Lt.ofWL.step rfl rfl rfl (OpV.move rfl) ?_
          refine Lt.ofWL.step rfl rfl rfl (OpV.neq rfl rfl) ?_
          refine hkz3 _ ?_ ?_
          exact rfl
          repeat (first | exact Sub.refl _ | refine Sub.skip rfl ?_)
        case az3 => exact rfl
        case bz3 => exact rfl
        case cz3 => exact rfl
        case dz3 => exact rfl
        refine WL.nil ?_
        refine En.next ?_
        refine WC.cond rfl ?_ ?_
        ·
          intro hc_4
          replace h := ifO_t hc_4 h
          refine WC.seq ?_
          refine WC.region ?_
          refine Lt.ofWL.step rfl rfl rfl (OpV.assign rfl) ?_
          refine WL.nil ?_
          refine En.next ?_
          refine WC.ret ?_
          refine En.then_ret ?_
          refine En.ret1 rfl (Res.tmp rfl) ?_
          obtain rfl := Option.some.inj h
          intro w' hs
          exact ⟨rfl, hs.below⟩
        ·
          intro hc_4
          replace h := ifO_f hc_4 h
          refine WC.skip ?_
          refine En.next ?_
          refine WC.seq ?_
          refine WC.region ?_
          refine Lt.ofWL.step rfl rfl rfl (OpV.assign rfl) ?_
          refine WL.nil ?_
          refine En.next ?_
          refine WC.seq ?_
          obtain ⟨⟨x17_2a, x17_2b⟩, e17_2, h⟩ := bnd h
          refine WC.region ?_
          refine Lt.ofWL.step rfl rfl rfl (OpV.move rfl) ?_
          refine Lt.ofWL.step rfl rfl rfl (OpV.move rfl) ?_
          refine WL.wkF (fun _ h => h.perm (List.perm_middle (l₁ := [_, _]))) ?_
          refine WL.heavy rfl rfl rfl (OpH.callX (evs.cons rfl (evs.cons rfl (evs.nil))) ca_28 (fun w hs => w_laws_markIntS e17_2 hs) ?_)
          rintro _ _ ⟨g17_200, rfl, rfl⟩
          refine Lt.ofWL.step rfl rfl rfl (OpV.assign rfl) ?_
          refine WL.nil ?_
          refine En.next ?_
          refine WC.seq ?_
          refine WC.region ?_
          refine Lt.ofWL.step rfl rfl rfl (OpV.assign rfl) ?_
          refine WL.nil ?_
          refine En.next ?_
          refine WC.seq ?_
          obtain ⟨x19_2, e19_2, h⟩ := bnd h
          refine WC.region ?_
          refine Lt.ofWL.step rfl rfl rfl (OpV.move rfl) ?_
          refine Lt.ofWL.step rfl rfl rfl (OpV.move rfl) ?_
          refine Lt.ofWL.step rfl rfl rfl (OpV.call (evs.cons rfl (evs.cons rfl (evs.nil))) ca_29 (fun w hs => w_laws_heldIntS e19_2 (Ow.rd (hs.mem (.head _))))) ?_
          refine Lt.ofWL.step rfl rfl rfl (OpV.assign rfl) ?_
          refine WL.nil ?_
          refine En.next ?_
          refine WC.seq ?_
          refine WC.seq ?_
          refine WC.region ?_
          refine Lt.ofWL.step rfl rfl rfl (OpV.move rfl) ?_
          refine Lt.ofWL.step rfl rfl rfl (OpV.lss rfl rfl) ?_
          refine WL.nil ?_
          refine En.next ?_
          refine WC.cond rfl ?_ ?_
          ·
            intro hc_5
            replace h := ifO_t hc_5 h
            refine WC.seq ?_
            refine WC.region ?_
            refine Lt.ofWL.step rfl rfl rfl (OpV.assign rfl) ?_
            refine WL.nil ?_
            refine En.next ?_
            refine WC.ret ?_
            refine En.then_ret ?_
            refine En.ret1 rfl (Res.tmp rfl) ?_
            obtain rfl := Option.some.inj h
            intro w' hs
            exact ⟨rfl, hs.below⟩
          ·
            intro hc_5
            replace h := ifO_f hc_5 h
            refine WC.skip ?_
            refine En.next ?_
            refine WC.seq ?_
            refine WC.seq ?_
            refine WC.region ?_
            refine Lt.ofWL.step rfl rfl rfl (OpV.move rfl) ?_
            refine Lt.ofWL.step rfl rfl rfl (OpV.move rfl) ?_
            refine Lt.ofWL.step rfl rfl rfl (OpV.neq rfl rfl) ?_
            refine WL.nil ?_
            refine En.next ?_
            refine WC.cond rfl ?_ ?_
            ·
              intro hc_6
              replace h := ifO_t hc_6 h
              refine WC.seq ?_
              refine WC.region ?_
              refine Lt.ofWL.step rfl rfl rfl (OpV.assign rfl) ?_
              refine WL.nil ?_
              refine En.next ?_
              refine WC.ret ?_
              refine En.then_ret ?_
              refine En.ret1 rfl (Res.tmp rfl) ?_
              obtain rfl := Option.some.inj h
              intro w' hs
              exact ⟨rfl, hs.below⟩
            ·
              intro hc_6
              replace h := ifO_f hc_6 h
              refine WC.skip ?_
              refine En.next ?_
              refine WC.seq ?_
              obtain ⟨x24_1, e24_1, h⟩ := bnd h
              obtain ⟨x24_3, e24_3, h⟩ := bnd h
              obtain ⟨⟨x24_4a, x24_4b⟩, e24_4, h⟩ := bnd h
              refine WC.drawnH [] ([_, _, _, _, _, _, _, _]) (fun _ h => h) (by kernel_rfl) ?_
              refine WAE.take (i := 0) rfl (by kernel_rfl) (by kernel_rfl) (by kernel_rfl) rfl rfl rfl (OpV.loadAll rfl (.tail _ (.tail _ (.tail _ (.tail _ (.tail _ (.tail _ (.tail _ (.head _)))))))) ag_43) ?_
              refine WAE.take (i := 2) rfl (by kernel_rfl) (by kernel_rfl) (by kernel_rfl) rfl rfl rfl (OpV.loadAll rfl (.tail _ (.tail _ (.tail _ (.tail _ (.tail _ (.tail _ (.head _))))))) ag_44) ?_
              refine WAE.all (rs := [1]) (by kernel_rfl) rfl (AllR.cons rfl rfl rfl rfl ?_ AllR.nil)
              refine OpH.callR (evs.cons rfl (evs.nil)) ca_23 (fun w hs => w_laws_toScene e24_1 (r0_0.ext hs.below)) ?_
              rintro _ _ ⟨a24_100, n24_100, c24_100, f24_100, rfl, rfl⟩
              refine ⟨[_], rfl, ?_⟩
              refine WAE.rebase (H := []) ?_
              refine WAE.take (i := 3) rfl (by kernel_rfl) (by kernel_rfl) (by kernel_rfl) rfl rfl rfl (OpV.call (evs.cons rfl (evs.nil)) ca_24 (fun w hs => w_laws_toOptions e24_3)) ?_
              refine WAE.all (rs := [4]) (by kernel_rfl) rfl (AllR.cons rfl rfl rfl rfl ?_ AllR.nil)
              refine OpH.callR (evs.cons rfl (evs.cons rfl (evs.nil))) ca_18 (fun w hs => w_impl_AssignedOf e24_4 (Ow.rd (hs.mem (.head _)))) ?_
              rintro _ _ ⟨a24_400, n24_400, c24_400, f24_400, rfl, rfl⟩
              refine ⟨[_], rfl, ?_⟩
              refine WAE.rebase (H := []) ?_
              refine WAE.take (i := 5) rfl (by kernel_rfl) (by kernel_rfl) (by kernel_rfl) rfl rfl rfl (OpV.move rfl) ?_
              refine WAE.take (i := 6) rfl (by kernel_rfl) (by kernel_rfl) (by kernel_rfl) rfl rfl rfl (OpV.extract rfl rfl) ?_
              refine WAE.take (i := 7) rfl (by kernel_rfl) (by kernel_rfl) (by kernel_rfl) rfl rfl rfl (OpV.extract rfl rfl) ?_
              refine WAE.take (i := 8) rfl (by kernel_rfl) (by kernel_rfl) (by kernel_rfl) rfl rfl rfl (OpV.assign rfl) ?_
              refine WAE.take (i := 9) rfl (by kernel_rfl) (by kernel_rfl) (by kernel_rfl) rfl rfl rfl (OpV.assign rfl) ?_
              refine WAE.done (by kernel_rfl) ?_ _
              refine En.next ?_
              refine WC.seq ?_
              refine WC.seq ?_
              obtain ⟨x25_2, e25_2, h⟩ := bnd h
              refine WC.region ?_
              refine Lt.ofWL.step rfl rfl rfl (OpV.move rfl) ?_
              refine Lt.ofWL.step rfl rfl rfl (OpV.move rfl) ?_
              refine Lt.ofWL.step rfl rfl rfl (OpV.call (evs.cons rfl (evs.cons rfl (evs.nil))) ca_25 (fun w hs => w_laws_eqIntS e25_2 (Ow.rd (hs.mem (.head _))) (Ow.rd (hs.mem (.tail _ (.tail _ (.tail _ (.tail _ (.tail _ (.tail _ (.head _))))))))))) ?_
              refine Lt.ofWL.step rfl rfl rfl (OpV.not rfl) ?_
              refine Lt.ofWL.step rfl rfl rfl (OpV.move rfl) ?_
              refine Lt.ofWL.or 91 95 94 (p := ?pz4) (rest := ?qz4) (B := ?Bz4) rfl ?Tz4 ?Fz4 ?az4 ?bz4 ?cz4 ?dz4 ?ez4
              case Tz4 =>
                intro hcz4 hkz4
                refine Lt.ofWL.skip rfl rfl rfl ?_
                refine Lt.ofWL.skip rfl rfl rfl ?_
                refine Lt.ofWL.skip rfl rfl rfl ?_
                refine hkz4 _ ?_
                repeat (first | exact Sub.refl _ | refine Sub.skip rfl ?_)
              case Fz4 =>
                intro hcz4 hkz4
                refine Lt.ofWL.step rfl rfl rfl (OpV.move rfl) ?_
                refine Lt.ofWL.step rfl rfl rfl (OpV.move rfl) ?_
                refine Lt.ofWL.step rfl rfl rfl (OpV.neq rfl rfl) ?_
                refine hkz4 _ ?_ ?_
                exact rfl
                repeat (first | exact Sub.refl _ | refine Sub.skip rfl ?_)
              case az4 => exact rfl
              case bz4 => exact rfl
              case cz4 => exact rfl
              case dz4 => exact rfl
              refine WL.nil ?_
              refine En.next ?_
              refine WC.cond rfl ?_ ?_
              ·
                intro hc_7
                replace h := ifO_t hc_7 h
                refine WC.seq ?_
                refine WC.region ?_
                refine Lt.ofWL.step rfl rfl rfl (OpV.assign rfl) ?_
                refine WL.nil ?_
                refine En.next ?_
                refine WC.ret ?_
                refine En.then_ret ?_
                refine En.ret1 rfl (Res.tmp rfl) ?_
                obtain rfl := Option.some.inj h
                intro w' hs
                exact ⟨rfl, hs.below⟩
              ·
                intro hc_7
                replace h := ifO_f hc_7 h
                refine WC.skip ?_
                refine En.next ?_
                refine WC.seq ?_
                refine WC.region ?_
                refine Lt.ofWL.step rfl rfl rfl (OpV.assign rfl) ?_
                refine WL.nil ?_
                refine En.next ?_
                refine WC.seq ?_
                obtain ⟨x28_2, e28_2, h⟩ := bnd h
                refine WC.region ?_
                refine Lt.ofWL.step rfl rfl rfl (OpV.move rfl) ?_
                refine Lt.ofWL.step rfl rfl rfl (OpV.move rfl) ?_
                refine Lt.ofWL.step rfl rfl rfl (OpV.call (evs.cons rfl (evs.cons rfl (evs.nil))) ca_29 (fun w hs => w_laws_heldIntS e28_2 (Ow.rd (hs.mem (.tail _ (.tail _ (.head _))))))) ?_
                refine Lt.ofWL.step rfl rfl rfl (OpV.assign rfl) ?_
                refine WL.nil ?_
                refine En.next ?_
                refine WC.seq ?_
                refine WC.seq ?_
                refine WC.region ?_
                refine Lt.ofWL.step rfl rfl rfl (OpV.move rfl) ?_
                refine Lt.ofWL.step rfl rfl rfl (OpV.lss rfl rfl) ?_
                refine WL.nil ?_
                refine En.next ?_
                refine WC.cond rfl ?_ ?_
                ·
                  intro hc_8
                  replace h := ifO_t hc_8 h
                  refine WC.seq ?_
                  refine WC.region ?_
                  refine Lt.ofWL.step rfl rfl rfl (OpV.assign rfl) ?_
                  refine WL.nil ?_
                  refine En.next ?_
                  refine WC.ret ?_
                  refine En.then_ret ?_
                  refine En.ret1 rfl (Res.tmp rfl) ?_
                  obtain rfl := Option.some.inj h
                  intro w' hs
                  exact ⟨rfl, hs.below⟩
                ·
                  intro hc_8
                  replace h := ifO_f hc_8 h
                  refine WC.skip ?_
                  refine En.next ?_
                  refine WC.seq ?_
                  refine WC.seq ?_
                  refine WC.region ?_
                  refine Lt.ofWL.step rfl rfl rfl (OpV.move rfl) ?_
                  refine Lt.ofWL.step rfl rfl rfl (OpV.move rfl) ?_
                  refine Lt.ofWL.step rfl rfl rfl (OpV.neq rfl rfl) ?_
                  refine WL.nil ?_
                  refine En.next ?_
                  refine WC.cond rfl ?_ ?_
                  ·
                    intro hc_9
                    replace h := ifO_t hc_9 h
                    refine WC.seq ?_
                    refine WC.region ?_
                    refine Lt.ofWL.step rfl rfl rfl (OpV.assign rfl) ?_
                    refine WL.nil ?_
                    refine En.next ?_
                    refine WC.ret ?_
                    refine En.then_ret ?_
                    refine En.ret1 rfl (Res.tmp rfl) ?_
                    obtain rfl := Option.some.inj h
                    intro w' hs
                    exact ⟨rfl, hs.below⟩
                  ·
                    intro hc_9
                    replace h := ifO_f hc_9 h
                    refine WC.skip ?_
                    refine En.next ?_
                    refine WC.seq ?_
                    refine WC.region ?_
                    refine Lt.ofWL.step rfl rfl rfl (OpV.assign rfl) ?_
                    refine WL.nil ?_
                    refine En.next ?_
                    refine WC.ret ?_
                    refine En.ret1 rfl (Res.tmp rfl) ?_
                    obtain rfl := Option.some.inj h
                    intro w' hs
                    exact ⟨rfl, hs.below⟩

theorem w_spec_l05Copy {i_p0 : ImageT} {r : ImageT} {q0_0 : Option Addr} {n0_0 k0_0 : Nat} (h : spec_l05Copy i_p0 = some r) {w : World} (r0_0 : Rd tInt w q0_0 n0_0 k0_0 i_p0.Data)   :
    Calls Try.prog 130 #[.agg #[.int .i64 i_p0.W, .int .i64 i_p0.H, .slice q0_0 n0_0 k0_0]] w (fun en w' => ∃ rv G, en = .returned rv ∧ (∃ (a0_0 : Option Addr) (n0_0 : Nat) (c0_0 : Nat) (f0_0 : List Nat), rv = .agg #[.int .i64 r.W, .int .i64 r.H, .slice a0_0 n0_0 c0_0] ∧ G = [Chunk.own tInt f0_0 a0_0 n0_0 c0_0 r.Data]) ∧ St w G w') := by
  obtain rfl := r0_0.1
  unfold spec_l05Copy at h
  refine enter (vs := [_]) Try.func130 rfl rfl rfl rfl ?_
  refine WC.seq ?_
  refine WC.region ?_
  refine WL.heavy rfl rfl rfl (OpH.box rfl rfl ?_)
  intro b0_0
  refine WL.heavy rfl rfl rfl (OpH.alloc zc_36 ?_)
  intro b0_1
  refine WL.nil ?_
  refine En.next ?_
  refine WC.seq ?_
  obtain ⟨x1_7, e1_7, h⟩ := bnd h
  refine WC.drawnH [_] ([_]) (fun _ h => h) (by kernel_rfl) ?_
  refine WAE.take (i := 0) rfl (by kernel_rfl) (by kernel_rfl) (by kernel_rfl) rfl rfl rfl (OpV.fieldAddr rfl fo_36_0) ?_
  refine WAE.take (i := 1) rfl (by kernel_rfl) (by kernel_rfl) (by kernel_rfl) rfl rfl rfl (OpV.loadBox rfl pt_3 (.head _) rfl) ?_
  refine WAE.take (i := 2) rfl (by kernel_rfl) (by kernel_rfl) (by kernel_rfl) rfl rfl rfl (OpV.fieldAddr rfl fo_36_1) ?_
  refine WAE.take (i := 3) rfl (by kernel_rfl) (by kernel_rfl) (by kernel_rfl) rfl rfl rfl (OpV.loadBox rfl pt_3 (.head _) rfl) ?_
  refine WAE.take (i := 5) rfl (by kernel_rfl) (by kernel_rfl) (by kernel_rfl) rfl rfl rfl (OpV.fieldAddr rfl fo_36_2) ?_
  refine WAE.take (i := 6) rfl (by kernel_rfl) (by kernel_rfl) (by kernel_rfl) rfl rfl rfl (OpV.loadBox rfl pt_32 (.head _) rfl) ?_
  refine WAE.all (rs := [4]) (by kernel_rfl) rfl (AllR.cons rfl rfl rfl rfl ?_ AllR.nil)
  refine OpH.lit0 (A := tInt) (evps.nil) bs_32_0_ ?_
  intro b1_4
  refine ⟨[_, _], rfl, ?_⟩
  refine WAE.all (rs := [7]) (by kernel_rfl) rfl (AllR.cons rfl rfl rfl rfl ?_ AllR.nil)
  refine OpH.appS (F := []) (A := tInt) tInt_flat rfl rfl rfl mi_32 rfl (by decide) (fun w hs => (r0_0.ext hs.below)) e1_7 ?_
  intro f1_7 a1_7 c1_7
  refine ⟨[_, _], rfl, ?_⟩
  refine WAE.take (i := 8) rfl (by kernel_rfl) (by kernel_rfl) (by kernel_rfl) rfl rfl rfl (OpV.build (evps.cons rfl (evps.cons rfl (evps.cons rfl (evps.nil)))) (bd_36_0_1_2 _ _ _ _ _)) ?_
  refine WAE.all (rs := [9]) (by kernel_rfl) rfl (AllR.cons0 rfl rfl rfl ?_ AllR.nil)
  refine OpH.storeTo (A := [_]) [_, _, _] rfl rfl rfl ts_36 rfl rfl rfl ?_
  refine ⟨[_, _], rfl, ?_⟩
  refine WAE.rebase (H := []) ?_
  refine WAE.done (by kernel_rfl) ?_ _
  refine En.next ?_
  refine WC.ret ?_
  refine En.ret1 rfl (Res.cell rfl (.tail _ (.head _)) ag_36) ?_
  obtain rfl := Option.some.inj h
  intro w' hs
  have hs := (hs).sub (.cons_cons _ (.cons _ (.cons _ (.slnil))))
  exact ⟨_, _, rfl, ⟨a1_7, x1_7.length, c1_7, f1_7, rfl, rfl⟩, hs⟩

theorem w_spec_l10CopySurface {s_p0 : SurfaceT} {r : SurfaceT} {q0_0 : Option Addr} {n0_0 k0_0 : Nat} (h : spec_l10CopySurface s_p0 = some r) {w : World} (r0_0 : Rd tInt w q0_0 n0_0 k0_0 s_p0.Buffer.Data)   :
    Calls Try.prog 81 #[.agg #[.int .i64 s_p0.Id, .int .i64 s_p0.X, .int .i64 s_p0.Y, .int .i64 s_p0.W, .int .i64 s_p0.H, .int .i64 s_p0.Alpha, .int .i64 s_p0.Orient, .bool s_p0.Visible, .int .i64 s_p0.Buffer.W, .int .i64 s_p0.Buffer.H, .slice q0_0 n0_0 k0_0]] w (fun en w' => ∃ rv G, en = .returned rv ∧ (∃ (a0_0 : Option Addr) (n0_0 : Nat) (c0_0 : Nat) (f0_0 : List Nat), rv = .agg #[.int .i64 r.Id, .int .i64 r.X, .int .i64 r.Y, .int .i64 r.W, .int .i64 r.H, .int .i64 r.Alpha, .int .i64 r.Orient, .bool r.Visible, .int .i64 r.Buffer.W, .int .i64 r.Buffer.H, .slice a0_0 n0_0 c0_0] ∧ G = [Chunk.own tInt f0_0 a0_0 n0_0 c0_0 r.Buffer.Data]) ∧ St w G w') := by
  obtain rfl := r0_0.1
  unfold spec_l10CopySurface at h
  refine enter (vs := [_]) Try.func81 rfl rfl rfl rfl ?_
  refine WC.seq ?_
  refine WC.region ?_
  refine WL.heavy rfl rfl rfl (OpH.box rfl rfl ?_)
  intro b0_0
  refine WL.heavy rfl rfl rfl (OpH.alloc zc_38 ?_)
  intro b0_1
  refine WL.nil ?_
  refine En.next ?_
  refine WC.seq ?_
  obtain ⟨x1_2, e1_2, h⟩ := bnd h
  refine WC.region ?_
  refine Lt.ofWL.step rfl rfl rfl (OpV.fieldAddr rfl fo_38_8) ?_
  refine Lt.ofWL.step rfl rfl rfl (OpV.loadPart rfl (.tail _ (.head _)) ag_36 rfl rfl) ?_
  refine WL.heavy rfl rfl rfl (OpH.callR (evs.cons rfl (evs.nil)) ca_130 (fun w hs => w_spec_l05Copy e1_2 (r0_0.ext hs.below)) ?_)
  rintro _ _ ⟨a1_200, n1_200, c1_200, f1_200, rfl, rfl⟩
  refine Lt.ofWL.step rfl rfl rfl (OpV.fieldAddr rfl fo_38_8) ?_
  refine WL.heavy0 rfl rfl (OpH.storeTo (A := [_, _]) [_, _, _, _, _, _, _, _, _, _, _] rfl rfl rfl ts_36 rfl rfl rfl ?_)
  refine WL.nil ?_
  refine En.next ?_
  refine WC.seq ?_
  refine WC.region ?_
  refine Lt.ofWL.step rfl rfl rfl (OpV.loadAll rfl (.tail _ (.tail _ (.head _))) ag_38) ?_
  refine WL.heavy0 rfl rfl (OpH.storeTo (A := [_]) [_, _, _, _, _, _, _, _, _, _, _] rfl rfl rfl ts_38 rfl rfl rfl ?_)
  refine WL.nil ?_
  refine En.next ?_
  refine WC.ret ?_
  refine En.ret1 rfl (Res.cell rfl (.tail _ (.head _)) ag_38) ?_
  obtain rfl := Option.some.inj h
  intro w' hs
  have hs := (hs).sub (.cons_cons _ (.cons _ (.cons _ (.slnil))))
  exact ⟨_, _, rfl, ⟨a1_200, n1_200, c1_200, f1_200, rfl, rfl⟩, hs⟩

theorem w_spec_RestOf {s_p0 : SceneT} {o_p1 : OptionsT} {r : SceneT} {q0_0 : Option Addr} {n0_0 k0_0 : Nat} (h : spec_RestOf s_p0 o_p1 = some r) {w : World} (r0_0 : Rd tSurface w q0_0 n0_0 k0_0 s_p0.Surfaces)   :
    Calls Try.prog 30 #[.agg #[.int .i64 s_p0.W, .int .i64 s_p0.H, .int .i64 s_p0.Back, .slice q0_0 n0_0 k0_0], .agg #[.int .i64 o_p1.Overlays, .bool o_p1.Cursor, .int .i64 o_p1.Layout, .bool o_p1.Partial, .bool o_p1.Sleep, .bool o_p1.Secret]] w (fun en w' => ∃ rv G, en = .returned rv ∧ (∃ (a0_0 : Option Addr) (n0_0 : Nat) (c0_0 : Nat) (f0_0 : List Nat), rv = .agg #[.int .i64 r.W, .int .i64 r.H, .int .i64 r.Back, .slice a0_0 n0_0 c0_0] ∧ G = [Chunk.own tSurface f0_0 a0_0 n0_0 c0_0 r.Surfaces]) ∧ St w G w') := by
  obtain rfl := r0_0.1
  unfold spec_RestOf at h
  refine enter (vs := [_, _]) Try.func30 rfl rfl rfl rfl ?_
  refine WC.seq ?_
  refine WC.region ?_
  refine WL.heavy rfl rfl rfl (OpH.box rfl rfl ?_)
  intro b0_0
  refine WL.heavy rfl rfl rfl (OpH.box rfl rfl ?_)
  intro b0_1
  refine WL.heavy rfl rfl rfl (OpH.alloc zc_26 ?_)
  intro b0_2
  refine WL.nil ?_
  refine En.next ?_
  refine WC.seq ?_
  obtain ⟨⟨x1_2a, x1_2b⟩, e1_2, h⟩ := bnd h
  refine WC.region ?_
  refine Lt.ofWL.step rfl rfl rfl (OpV.loadAll rfl (.tail _ (.tail _ (.head _))) ag_26) ?_
  refine Lt.ofWL.step rfl rfl rfl (OpV.loadAll rfl (.tail _ (.head _)) ag_28) ?_
  refine WL.heavy rfl rfl rfl (OpH.callR (evs.cons rfl (evs.cons rfl (evs.nil))) ca_22 (fun w hs => w_spec_AssignedOf e1_2 (r0_0.ext hs.below)) ?_)
  rintro _ _ ⟨a1_200, n1_200, c1_200, f1_200, rfl, rfl⟩
  refine Lt.ofWL.step rfl rfl rfl (OpV.move rfl) ?_
  refine Lt.ofWL.step rfl rfl rfl (OpV.extract rfl rfl) ?_
  refine Lt.ofWL.step rfl rfl rfl (OpV.extract rfl rfl) ?_
  refine Lt.ofWL.step rfl rfl rfl (OpV.assign rfl) ?_
  refine Lt.ofWL.step rfl rfl rfl (OpV.assign rfl) ?_
  refine WL.nil ?_
  refine En.next ?_
  refine WC.seq ?_
  refine WC.seq ?_
  refine WC.region ?_
  refine Lt.ofWL.step rfl rfl rfl (OpV.move rfl) ?_
  refine Lt.ofWL.step rfl rfl rfl (OpV.inhF fun hin => OpV.lenO (xs := x1_2a) rfl si_32 rfl (ownLen hin (.head _))) ?_
  refine Lt.ofWL.step rfl rfl rfl (OpV.eql rfl rfl) ?_
  refine WL.nil ?_
  refine En.next ?_
  refine WC.cond rfl ?_ ?_
  ·
    intro hc_1
    replace h := ifO_t hc_1 h
    refine WC.seq ?_
    refine WC.region ?_
    refine Lt.ofWL.step rfl rfl rfl (OpV.build (evps.nil) bd_26_) ?_
    refine WL.heavy0 rfl rfl (OpH.storeTo (A := [_]) [_, _, _, _] rfl rfl rfl ts_26 rfl rfl rfl ?_)
    refine WL.nil ?_
    refine En.next ?_
    refine WC.ret ?_
    refine En.then_ret ?_
    refine En.ret1 rfl (Res.cell rfl (.tail _ (.head _)) ag_26) ?_
    obtain rfl := Option.some.inj h
    intro w' hs
    have hs := ((hs).ownNil (A := tSurface)).sub (.cons_cons _ (.cons _ (.cons _ (.cons _ (.cons _ (.slnil))))))
    exact ⟨_, _, rfl, ⟨.none, 0, 0, [], rfl, rfl⟩, hs⟩
  ·
    intro hc_1
    replace h := ifO_f hc_1 h
    refine WC.skip ?_
    refine En.next ?_
    refine WC.seq ?_
    refine WC.region ?_
    refine Lt.ofWL.step rfl rfl rfl (OpV.fieldAddr rfl fo_26_0) ?_
    refine Lt.ofWL.step rfl rfl rfl (OpV.loadBox rfl pt_3 (.tail _ (.tail _ (.tail _ (.head _)))) rfl) ?_
    refine Lt.ofWL.step rfl rfl rfl (OpV.fieldAddr rfl fo_26_1) ?_
    refine Lt.ofWL.step rfl rfl rfl (OpV.loadBox rfl pt_3 (.tail _ (.tail _ (.tail _ (.head _)))) rfl) ?_
    refine Lt.ofWL.step rfl rfl rfl (OpV.fieldAddr rfl fo_26_2) ?_
    refine Lt.ofWL.step rfl rfl rfl (OpV.loadBox rfl pt_3 (.tail _ (.tail _ (.tail _ (.head _)))) rfl) ?_
    refine Lt.ofWL.step rfl rfl rfl (OpV.build (evps.cons rfl (evps.cons rfl (evps.cons rfl (evps.nil)))) (bd_26_0_1_2 _ _ _)) ?_
    refine WL.heavy rfl rfl rfl (OpH.alloc zc_26 ?_)
    intro b4_7
    refine WL.heavy0 rfl rfl (OpH.storeTo (A := []) [_, _, _, _] rfl rfl rfl ts_26 rfl rfl rfl ?_)
    refine WL.nil ?_
    refine En.next ?_
    refine WC.seq ?_
    refine WC.seq ?_
    refine WC.region ?_
    refine Lt.ofWL.step rfl rfl rfl (OpV.assign rfl) ?_
    refine WL.nil ?_
    refine En.next ?_
    refine WC.block ?_
    obtain ⟨zy0, ezy0, h⟩ := bnd h
    refine WC.cut (X := ((List SurfaceT)) × ((Option Addr) × Nat × Nat × (List Nat))) (.exit 0) (fun x => zy0 = x.1) (fun x => match x with | (out_0e, (aout_0e, nout_0e, cout_0e, fout_0e)) => [(4, .pointer (some ⟨b0_2, 0, .none⟩)), (7, .pointer (some ⟨b4_7, 0, .none⟩))]) (fun x => match x with | (out_0e, (aout_0e, nout_0e, cout_0e, fout_0e)) => [Chunk.box b0_2 26 [.int .i64 0, .int .i64 0, .int .i64 0, .slice .none 0 0], Chunk.box b4_7 26 [.int .i64 s_p0.W, .int .i64 s_p0.H, .int .i64 s_p0.Back, .slice aout_0e nout_0e cout_0e], Chunk.own tSurface fout_0e aout_0e nout_0e cout_0e out_0e]) ?_ ?_
    ·
      rintro ⟨out_0e, ⟨aout_0e, nout_0e, cout_0e, fout_0e⟩⟩ hx
      replace hx : out_0e = zy0 := hx.symm
      subst hx
      show En _ _ _ _ [(4, .pointer (some ⟨b0_2, 0, .none⟩)), (7, .pointer (some ⟨b4_7, 0, .none⟩))] [Chunk.box b0_2 26 [.int .i64 0, .int .i64 0, .int .i64 0, .slice .none 0 0], Chunk.box b4_7 26 [.int .i64 s_p0.W, .int .i64 s_p0.H, .int .i64 s_p0.Back, .slice aout_0e nout_0e cout_0e], Chunk.own tSurface fout_0e aout_0e nout_0e cout_0e out_0e]
      refine En.block_exit ?_
      refine En.next ?_
      refine WC.seq ?_
      refine WC.region ?_
      refine Lt.ofWL.step rfl rfl rfl (OpV.loadAll rfl (.tail _ (.head _)) ag_26) ?_
      refine WL.heavy0 rfl rfl (OpH.storeTo (A := []) [_, _, _, _] rfl rfl rfl ts_26 rfl rfl rfl ?_)
      refine WL.nil ?_
      refine En.next ?_
      refine WC.ret ?_
      refine En.ret1 rfl (Res.cell rfl (.head _) ag_26) ?_
      obtain rfl := Option.some.inj h
      intro w' hs
      have hs := ((hs).perm (List.perm_middle (l₁ := [_, _]))).sub (.cons_cons _ (.cons _ (.cons _ (.slnil))))
      exact ⟨_, _, rfl, ⟨aout_0e, nout_0e, cout_0e, fout_0e, rfl, rfl⟩, hs⟩
    ·
      intro zK0_0
      refine WC.loopP (G := (Option Addr) × Nat × Nat × (List Nat)) (fun s g => match s, g with | (out_0, k_0), (aout_0, nout_0, cout_0, fout_0) => [(2, .pointer (some ⟨b0_0, 0, .none⟩)), (4, .pointer (some ⟨b0_2, 0, .none⟩)), (5, .slice a1_200 n1_200 c1_200), (7, .pointer (some ⟨b4_7, 0, .none⟩)), (8, .int .i64 k_0)]) (fun s g => match s, g with | (out_0, k_0), (aout_0, nout_0, cout_0, fout_0) => [Chunk.box b0_0 26 [.int .i64 s_p0.W, .int .i64 s_p0.H, .int .i64 s_p0.Back, .slice q0_0 s_p0.Surfaces.length k0_0], Chunk.box b0_2 26 [.int .i64 0, .int .i64 0, .int .i64 0, .slice .none 0 0], Chunk.own tInt f1_200 a1_200 n1_200 c1_200 x1_2a, Chunk.box b4_7 26 [.int .i64 s_p0.W, .int .i64 s_p0.H, .int .i64 s_p0.Back, .slice aout_0 nout_0 cout_0], Chunk.own tSurface fout_0 aout_0 nout_0 cout_0 out_0]) ([], 0) (.none, 0, 0, []) ezy0 (by exact Sub.cons rfl (Sub.cons rfl (Sub.cons rfl (Sub.cons rfl (Sub.cons rfl (Sub.nil _)))))) (by exact (fun _ h => ((((((h).ownNil (A := tSurface)).perm (List.perm_middle (l₁ := [_]))).perm (List.perm_middle (l₁ := [_, _]))).perm (List.perm_middle (l₁ := [_, _, _]))).perm (List.perm_middle (l₁ := [_, _, _, _, _]))).sub (.cons_cons _ (.cons_cons _ (.cons_cons _ (.cons_cons _ (.cons_cons _ (.cons _ (.slnil))))))))) ?_
      rintro zm0 ⟨out_0, k_0⟩ ⟨aout_0, nout_0, cout_0, fout_0⟩ zo0 zf0 zb0 ze0
      have zh0 : spec_RestOf_L0 s_p0 x1_2a out_0 k_0 = some zo0 := zf0
      unfold spec_RestOf_L0 at zh0
      show WC _ _ _ _ _ [(2, .pointer (some ⟨b0_0, 0, .none⟩)), (4, .pointer (some ⟨b0_2, 0, .none⟩)), (5, .slice a1_200 n1_200 c1_200), (7, .pointer (some ⟨b4_7, 0, .none⟩)), (8, .int .i64 k_0)] [Chunk.box b0_0 26 [.int .i64 s_p0.W, .int .i64 s_p0.H, .int .i64 s_p0.Back, .slice q0_0 s_p0.Surfaces.length k0_0], Chunk.box b0_2 26 [.int .i64 0, .int .i64 0, .int .i64 0, .slice .none 0 0], Chunk.own tInt f1_200 a1_200 n1_200 c1_200 x1_2a, Chunk.box b4_7 26 [.int .i64 s_p0.W, .int .i64 s_p0.H, .int .i64 s_p0.Back, .slice aout_0 nout_0 cout_0], Chunk.own tSurface fout_0 aout_0 nout_0 cout_0 out_0]
      refine WC.seq ?_
      refine WC.seq ?_
      refine WC.region ?_
      refine Lt.ofWL.step rfl rfl rfl (OpV.move rfl) ?_
      refine Lt.ofWL.step rfl rfl rfl (OpV.fieldAddr rfl fo_26_3) ?_
      refine Lt.ofWL.step rfl rfl rfl (OpV.loadBox rfl pt_24 (.head _) rfl) ?_
      refine Lt.ofWL.step rfl rfl rfl (OpV.len rfl si_24 rfl) ?_
      refine Lt.ofWL.step rfl rfl rfl (OpV.lss rfl rfl) ?_
      refine WL.nil ?_
      refine En.next ?_
      refine WC.cond rfl ?_ ?_
      ·
        intro hc_2
        replace zh0 := ifO_t hc_2 zh0
        refine WC.skip ?_
        refine En.next ?_
        refine WC.seq ?_
        obtain ⟨zy1, ej1, zh0⟩ := bnd zh0
        refine WC.cut (X := ((List SurfaceT)) × ((Option Addr) × Nat × Nat × (List Nat))) .normal (fun x => zy1 = x.1) (fun x => match x with | (out_1j, (aout_1j, nout_1j, cout_1j, fout_1j)) => [(2, .pointer (some ⟨b0_0, 0, .none⟩)), (4, .pointer (some ⟨b0_2, 0, .none⟩)), (5, .slice a1_200 n1_200 c1_200), (7, .pointer (some ⟨b4_7, 0, .none⟩)), (8, .int .i64 k_0)]) (fun x => match x with | (out_1j, (aout_1j, nout_1j, cout_1j, fout_1j)) => [Chunk.box b0_0 26 [.int .i64 s_p0.W, .int .i64 s_p0.H, .int .i64 s_p0.Back, .slice q0_0 s_p0.Surfaces.length k0_0], Chunk.box b0_2 26 [.int .i64 0, .int .i64 0, .int .i64 0, .slice .none 0 0], Chunk.own tInt f1_200 a1_200 n1_200 c1_200 x1_2a, Chunk.box b4_7 26 [.int .i64 s_p0.W, .int .i64 s_p0.H, .int .i64 s_p0.Back, .slice aout_1j nout_1j cout_1j], Chunk.own tSurface fout_1j aout_1j nout_1j cout_1j out_1j]) ?_ ?_
        ·
          rintro ⟨out_1j, ⟨aout_1j, nout_1j, cout_1j, fout_1j⟩⟩ hx
          replace hx : out_1j = zy1 := hx.symm
          subst hx
          show En _ _ _ _ [(2, .pointer (some ⟨b0_0, 0, .none⟩)), (4, .pointer (some ⟨b0_2, 0, .none⟩)), (5, .slice a1_200 n1_200 c1_200), (7, .pointer (some ⟨b4_7, 0, .none⟩)), (8, .int .i64 k_0)] [Chunk.box b0_0 26 [.int .i64 s_p0.W, .int .i64 s_p0.H, .int .i64 s_p0.Back, .slice q0_0 s_p0.Surfaces.length k0_0], Chunk.box b0_2 26 [.int .i64 0, .int .i64 0, .int .i64 0, .slice .none 0 0], Chunk.own tInt f1_200 a1_200 n1_200 c1_200 x1_2a, Chunk.box b4_7 26 [.int .i64 s_p0.W, .int .i64 s_p0.H, .int .i64 s_p0.Back, .slice aout_1j nout_1j cout_1j], Chunk.own tSurface fout_1j aout_1j nout_1j cout_1j out_1j]
          refine En.next ?_
          refine WC.region ?_
          refine Lt.ofWL.step rfl rfl rfl (OpV.move rfl) ?_
          refine Lt.ofWL.step rfl rfl rfl (OpV.addR rfl rfl) ?_
          refine Lt.ofWL.step rfl rfl rfl (OpV.assign rfl) ?_
          refine WL.nil ?_
          exact En.backP zb0 zh0 (aout_1j, nout_1j, cout_1j, fout_1j) (Sub.cons rfl (Sub.cons rfl (Sub.cons rfl (Sub.cons rfl (Sub.cons rfl (Sub.nil _)))))) (fun _ h => h)
        ·
          intro zK1
          refine WC.block ?_
          refine WC.seq ?_
          refine WC.inh fun hin8 => ?_
          obtain ⟨x8_2, e8_2, ej1⟩ := bnd ej1
          obtain ⟨g8_2, ha8_2⟩ := ownAddr hin8 (.tail _ (.tail _ (.head _))) e8_2
          have hn8_2 := ownLen hin8 (.tail _ (.tail _ (.head _)))
          obtain ⟨q8_11, e8_11, ej1⟩ := bnd ej1
          obtain ⟨q8_18, e8_18, ej1⟩ := bnd ej1
          refine WC.region ?_
          refine Lt.ofWL.step rfl rfl rfl (OpV.move rfl) ?_
          refine Lt.ofWL.step rfl rfl rfl (OpV.move rfl) ?_
          refine Lt.ofWL.step rfl rfl rfl (OpV.idxA rfl rfl se_32 ha8_2 ⟨(idx_some e8_2).1, by rw [hn8_2]; exact (idx_some e8_2).2.1⟩) ?_
          refine Lt.ofWL.step rfl rfl rfl (OpV.load1 rfl pt_3 (fun w hs => Rd.cell1 tInt_flat (Ow.rd (hs.mem (.tail _ (.tail _ (.head _))))) e8_2 ha8_2 rfl)) ?_
          refine Lt.ofWL.step rfl rfl rfl (OpV.neq rfl rfl) ?_
          refine Lt.ofWL.step rfl rfl rfl (OpV.move rfl) ?_
          refine Lt.ofWL.andQ 38 44 43 (p := ?pz1) (rest := ?qz1) (B := q8_11) rfl (fun hz => andO_f e8_11 hz) ?Tz1 ?Fz1 ?az1 ?bz1 ?cz1 ?dz1 ?ez1
          case Tz1 =>
            intro hcz1 hkz1
            have hqz1 := andO_t e8_11 hcz1
            obtain ⟨x8_8, e8_8, hqz1⟩ := bnd hqz1
            obtain ⟨g8_8, ha8_8⟩ := ownAddr hin8 (.tail _ (.tail _ (.head _))) e8_8
            have hn8_8 := ownLen hin8 (.tail _ (.tail _ (.head _)))
            obtain rfl := Option.some.inj hqz1
            refine Lt.ofWL.step rfl rfl rfl (OpV.move rfl) ?_
            refine Lt.ofWL.step rfl rfl rfl (OpV.move rfl) ?_
            refine Lt.ofWL.step rfl rfl rfl (OpV.idxA rfl rfl se_32 ha8_8 ⟨(idx_some e8_8).1, by rw [hn8_8]; exact (idx_some e8_8).2.1⟩) ?_
            refine Lt.ofWL.step rfl rfl rfl (OpV.load1 rfl pt_3 (fun w hs => Rd.cell1 tInt_flat (Ow.rd (hs.mem (.tail _ (.tail _ (.head _))))) e8_8 ha8_8 rfl)) ?_
            refine Lt.ofWL.step rfl rfl rfl (OpV.neq rfl rfl) ?_
            refine hkz1 _ ?_ ?_
            exact rfl
            repeat (first | exact Sub.refl _ | refine Sub.skip rfl ?_)
          case Fz1 =>
            intro hcz1 hkz1
            refine Lt.ofWL.skip rfl rfl rfl ?_
            refine Lt.ofWL.skip rfl rfl rfl ?_
            refine Lt.ofWL.skip rfl rfl rfl ?_
            refine Lt.ofWL.skip rfl rfl rfl ?_
            refine Lt.ofWL.skip rfl rfl rfl ?_
            refine hkz1 _ ?_
            repeat (first | exact Sub.refl _ | refine Sub.skip rfl ?_)
          case az1 => exact rfl
          case bz1 => exact rfl
          case cz1 => exact rfl
          case dz1 => exact rfl
          refine Lt.ofWL.step rfl rfl rfl (OpV.move rfl) ?_
          refine Lt.ofWL.andQ 45 51 50 (p := ?pz2) (rest := ?qz2) (B := q8_18) rfl (fun hz => andO_f e8_18 hz) ?Tz2 ?Fz2 ?az2 ?bz2 ?cz2 ?dz2 ?ez2
          case Tz2 =>
            intro hcz2 hkz2
            have hqz2 := andO_t e8_18 hcz2
            obtain ⟨x8_15, e8_15, hqz2⟩ := bnd hqz2
            obtain ⟨g8_15, ha8_15⟩ := ownAddr hin8 (.tail _ (.tail _ (.head _))) e8_15
            have hn8_15 := ownLen hin8 (.tail _ (.tail _ (.head _)))
            obtain rfl := Option.some.inj hqz2
            refine Lt.ofWL.step rfl rfl rfl (OpV.move rfl) ?_
            refine Lt.ofWL.step rfl rfl rfl (OpV.move rfl) ?_
            refine Lt.ofWL.step rfl rfl rfl (OpV.idxA rfl rfl se_32 ha8_15 ⟨(idx_some e8_15).1, by rw [hn8_15]; exact (idx_some e8_15).2.1⟩) ?_
            refine Lt.ofWL.step rfl rfl rfl (OpV.load1 rfl pt_3 (fun w hs => Rd.cell1 tInt_flat (Ow.rd (hs.mem (.tail _ (.tail _ (.head _))))) e8_15 ha8_15 rfl)) ?_
            refine Lt.ofWL.step rfl rfl rfl (OpV.neq rfl rfl) ?_
            refine hkz2 _ ?_ ?_
            exact rfl
            repeat (first | exact Sub.refl _ | refine Sub.skip rfl ?_)
          case Fz2 =>
            intro hcz2 hkz2
            refine Lt.ofWL.skip rfl rfl rfl ?_
            refine Lt.ofWL.skip rfl rfl rfl ?_
            refine Lt.ofWL.skip rfl rfl rfl ?_
            refine Lt.ofWL.skip rfl rfl rfl ?_
            refine Lt.ofWL.skip rfl rfl rfl ?_
            refine hkz2 _ ?_
            repeat (first | exact Sub.refl _ | refine Sub.skip rfl ?_)
          case az2 => exact rfl
          case bz2 => exact rfl
          case cz2 => exact rfl
          case dz2 => exact rfl
          refine WL.nil ?_
          refine En.next ?_
          refine WC.cond rfl ?_ ?_
          ·
            intro hc_3
            replace ej1 := ifO_t hc_3 ej1
            obtain ⟨x9_5, e9_5, ej1⟩ := bnd ej1
            obtain ⟨g9_5, o9_5, _, ha9_5, ⟨a9_5_1, c9_5_1, rfl, r9_5_1⟩, hd9_5⟩ := Rd.atIdx r0_0 e9_5
            replace hd9_5 : ∀ (j : Nat) v, ([.int .i64 x9_5.Id, .int .i64 x9_5.X, .int .i64 x9_5.Y, .int .i64 x9_5.W, .int .i64 x9_5.H, .int .i64 x9_5.Alpha, .int .i64 x9_5.Orient, .bool x9_5.Visible, .int .i64 x9_5.Buffer.W, .int .i64 x9_5.Buffer.H, .slice a9_5_1 x9_5.Buffer.Data.length c9_5_1] : List Value)[j]? = some v → w.cell? ⟨g9_5, o9_5 + k_0.toNat * 11 + j, .none⟩ = some v := hd9_5
            obtain ⟨x9_7, e9_7, ej1⟩ := bnd ej1
            obtain ⟨x9_9, e9_9, ej1⟩ := bnd ej1
            refine WC.wkF (fun _ h => h.perm (List.perm_middle (l₁ := [_, _, _, _]))) ?_
            refine WC.wkF (fun _ h => h.perm (List.perm_middle (l₁ := [_, _, _, _]))) ?_
            refine WC.drawnH [_, _] ([_, _, _]) (fun _ h => h) (by kernel_rfl) ?_
            refine WAE.take (i := 0) rfl (by kernel_rfl) (by kernel_rfl) (by kernel_rfl) rfl rfl rfl (OpV.fieldAddr rfl fo_26_3) ?_
            refine WAE.take (i := 2) rfl (by kernel_rfl) (by kernel_rfl) (by kernel_rfl) rfl rfl rfl (OpV.fieldAddr rfl fo_26_3) ?_
            refine WAE.take (i := 3) rfl (by kernel_rfl) (by kernel_rfl) (by kernel_rfl) rfl rfl rfl (OpV.loadBox rfl pt_24 (.head _) rfl) ?_
            refine WAE.take (i := 4) rfl (by kernel_rfl) (by kernel_rfl) (by kernel_rfl) rfl rfl rfl (OpV.move rfl) ?_
            refine WAE.take (i := 5) rfl (by kernel_rfl) (by kernel_rfl) (by kernel_rfl) rfl rfl rfl (OpV.idxA rfl rfl se_24 ha9_5 ⟨(idx_some e9_5).1, (idx_some e9_5).2.1⟩) ?_
            refine WAE.take (i := 6) rfl (by kernel_rfl) (by kernel_rfl) (by kernel_rfl) rfl rfl rfl (OpV.loadN rfl ag_38 rfl (fun w hs => hs.cellsAt hd9_5)) ?_
            refine WAE.all (rs := [1, 7]) (by kernel_rfl) rfl (AllR.cons rfl rfl rfl rfl ?_ (AllR.cons rfl rfl rfl rfl ?_ AllR.nil))
            ·
              refine OpH.light (OpV.loadBox rfl pt_24 (.head _) rfl) ?_
              refine ⟨[_, _], rfl, ?_⟩
              refine WAE.all (rs := [7]) (by kernel_rfl) rfl (AllR.cons rfl rfl rfl rfl ?_ AllR.nil)
              refine OpH.callR (evs.cons rfl (evs.nil)) ca_81 (fun w hs => w_spec_l10CopySurface e9_7 (r9_5_1.ext hs.below)) ?_
              rintro _ _ ⟨a9_700, n9_700, c9_700, f9_700, rfl, rfl⟩
              refine ⟨[_, _, _], rfl, ?_⟩
              refine WAE.all (rs := [8]) (by kernel_rfl) rfl (AllR.cons rfl rfl rfl rfl ?_ AllR.nil)
              refine OpH.buildSlice (evps.cons rfl (evps.nil)) (bs_24_1_0 _ _ _ _ _ _ _ _ _ _ _ _ _) ?_
              intro b9_8
              refine ⟨[_, _, _, _], rfl, ?_⟩
              refine WAE.all (rs := [9]) (by kernel_rfl) rfl (AllR.cons rfl rfl rfl rfl ?_ AllR.nil)
              refine OpH.wkF (fun _ h => h.perm (List.perm_middle (l₁ := [_]))) ?_
              refine OpH.wkF (fun _ h => tSurface_mk x9_7.Id x9_7.X x9_7.Y x9_7.W x9_7.H x9_7.Alpha x9_7.Orient x9_7.Visible x9_7.Buffer h) ?_
              refine OpH.wkF (fun _ h => h.perm (List.perm_middle (l₁ := [_, _, _]))) ?_
              refine OpH.wkF (fun _ h => h.perm (List.perm_middle (l₁ := [_]))) ?_
              refine OpH.push (A := tSurface) rfl rfl rfl mi_24 rfl (by decide) (.head _) e9_9 ?_
              intro f9_9 a9_9 c9_9
              refine ⟨[_, _, _], rfl, ?_⟩
              refine WAE.take (i := 10) rfl (by kernel_rfl) (by kernel_rfl) (by kernel_rfl) rfl rfl rfl (OpV.fieldAddr rfl fo_26_3) ?_
              refine WAE.all (rs := [11]) (by kernel_rfl) rfl (AllR.cons0 rfl rfl rfl ?_ AllR.nil)
              refine OpH.storeTo (A := [_, _]) [_, _, _, _] rfl rfl rfl ts_24 rfl rfl rfl ?_
              refine ⟨[_, _, _], rfl, ?_⟩
              refine WAE.rebase (H := []) ?_
              refine WAE.done (by kernel_rfl) ?_ _
              refine En.block_norm ?_
              exact En.wk _ _ (Sub.cons rfl (Sub.cons rfl (Sub.cons rfl (Sub.cons rfl (Sub.cons rfl (Sub.nil _)))))) (fun _ h => (((((h).perm (List.perm_middle (l₁ := [_, _]))).perm (List.perm_middle (l₁ := [_, _, _, _, _]))).perm (List.perm_middle (l₁ := [_, _, _, _, _]))).perm (List.perm_middle (l₁ := [_, _, _, _, _]))).sub (.cons_cons _ (.cons_cons _ (.cons_cons _ (.cons_cons _ (.cons_cons _ (.cons _ (.slnil)))))))) (zK1 (x9_9, (a9_9, x9_9.length, c9_9, f9_9)) (Option.some.inj ej1).symm)
            ·
              refine OpH.callR (evs.cons rfl (evs.nil)) ca_81 (fun w hs => w_spec_l10CopySurface e9_7 (r9_5_1.ext hs.below)) ?_
              rintro _ _ ⟨a9_700, n9_700, c9_700, f9_700, rfl, rfl⟩
              refine ⟨[_, _, _], rfl, ?_⟩
              refine WAE.all (rs := [1, 8]) (by kernel_rfl) rfl (AllR.cons rfl rfl rfl rfl ?_ (AllR.cons rfl rfl rfl rfl ?_ AllR.nil))
              ·
                refine OpH.light (OpV.loadBox rfl pt_24 (.tail _ (.head _)) rfl) ?_
                refine ⟨[_, _, _], rfl, ?_⟩
                refine WAE.all (rs := [8]) (by kernel_rfl) rfl (AllR.cons rfl rfl rfl rfl ?_ AllR.nil)
                refine OpH.buildSlice (evps.cons rfl (evps.nil)) (bs_24_1_0 _ _ _ _ _ _ _ _ _ _ _ _ _) ?_
                intro b9_8
                refine ⟨[_, _, _, _], rfl, ?_⟩
                refine WAE.all (rs := [9]) (by kernel_rfl) rfl (AllR.cons rfl rfl rfl rfl ?_ AllR.nil)
                refine OpH.wkF (fun _ h => h.perm (List.perm_middle (l₁ := [_]))) ?_
                refine OpH.wkF (fun _ h => tSurface_mk x9_7.Id x9_7.X x9_7.Y x9_7.W x9_7.H x9_7.Alpha x9_7.Orient x9_7.Visible x9_7.Buffer h) ?_
                refine OpH.wkF (fun _ h => h.perm (List.perm_middle (l₁ := [_, _, _]))) ?_
                refine OpH.wkF (fun _ h => h.perm (List.perm_middle (l₁ := [_]))) ?_
                refine OpH.push (A := tSurface) rfl rfl rfl mi_24 rfl (by decide) (.head _) e9_9 ?_
                intro f9_9 a9_9 c9_9
                refine ⟨[_, _, _], rfl, ?_⟩
                refine WAE.take (i := 10) rfl (by kernel_rfl) (by kernel_rfl) (by kernel_rfl) rfl rfl rfl (OpV.fieldAddr rfl fo_26_3) ?_
                refine WAE.all (rs := [11]) (by kernel_rfl) rfl (AllR.cons0 rfl rfl rfl ?_ AllR.nil)
                refine OpH.storeTo (A := [_, _]) [_, _, _, _] rfl rfl rfl ts_24 rfl rfl rfl ?_
                refine ⟨[_, _, _], rfl, ?_⟩
                refine WAE.rebase (H := []) ?_
                refine WAE.done (by kernel_rfl) ?_ _
                refine En.block_norm ?_
                exact En.wk _ _ (Sub.cons rfl (Sub.cons rfl (Sub.cons rfl (Sub.cons rfl (Sub.cons rfl (Sub.nil _)))))) (fun _ h => (((((h).perm (List.perm_middle (l₁ := [_, _]))).perm (List.perm_middle (l₁ := [_, _, _, _, _]))).perm (List.perm_middle (l₁ := [_, _, _, _, _]))).perm (List.perm_middle (l₁ := [_, _, _, _, _]))).sub (.cons_cons _ (.cons_cons _ (.cons_cons _ (.cons_cons _ (.cons_cons _ (.cons _ (.slnil)))))))) (zK1 (x9_9, (a9_9, x9_9.length, c9_9, f9_9)) (Option.some.inj ej1).symm)
              ·
                refine OpH.buildSlice (evps.cons rfl (evps.nil)) (bs_24_1_0 _ _ _ _ _ _ _ _ _ _ _ _ _) ?_
                intro b9_8
                refine ⟨[_, _, _, _], rfl, ?_⟩
                refine WAE.all (rs := [1]) (by kernel_rfl) rfl (AllR.cons rfl rfl rfl rfl ?_ AllR.nil)
                refine OpH.light (OpV.loadBox rfl pt_24 (.tail _ (.tail _ (.head _))) rfl) ?_
                refine ⟨[_, _, _, _], rfl, ?_⟩
                refine WAE.all (rs := [9]) (by kernel_rfl) rfl (AllR.cons rfl rfl rfl rfl ?_ AllR.nil)
                refine OpH.wkF (fun _ h => h.perm (List.perm_middle (l₁ := [_]))) ?_
                refine OpH.wkF (fun _ h => tSurface_mk x9_7.Id x9_7.X x9_7.Y x9_7.W x9_7.H x9_7.Alpha x9_7.Orient x9_7.Visible x9_7.Buffer h) ?_
                refine OpH.wkF (fun _ h => h.perm (List.perm_middle (l₁ := [_, _, _]))) ?_
                refine OpH.wkF (fun _ h => h.perm (List.perm_middle (l₁ := [_]))) ?_
                refine OpH.push (A := tSurface) rfl rfl rfl mi_24 rfl (by decide) (.head _) e9_9 ?_
                intro f9_9 a9_9 c9_9
                refine ⟨[_, _, _], rfl, ?_⟩
                refine WAE.take (i := 10) rfl (by kernel_rfl) (by kernel_rfl) (by kernel_rfl) rfl rfl rfl (OpV.fieldAddr rfl fo_26_3) ?_
                refine WAE.all (rs := [11]) (by kernel_rfl) rfl (AllR.cons0 rfl rfl rfl ?_ AllR.nil)
                refine OpH.storeTo (A := [_, _]) [_, _, _, _] rfl rfl rfl ts_24 rfl rfl rfl ?_
                refine ⟨[_, _, _], rfl, ?_⟩
                refine WAE.rebase (H := []) ?_
                refine WAE.done (by kernel_rfl) ?_ _
                refine En.block_norm ?_
                exact En.wk _ _ (Sub.cons rfl (Sub.cons rfl (Sub.cons rfl (Sub.cons rfl (Sub.cons rfl (Sub.nil _)))))) (fun _ h => (((((h).perm (List.perm_middle (l₁ := [_, _]))).perm (List.perm_middle (l₁ := [_, _, _, _, _]))).perm (List.perm_middle (l₁ := [_, _, _, _, _]))).perm (List.perm_middle (l₁ := [_, _, _, _, _]))).sub (.cons_cons _ (.cons_cons _ (.cons_cons _ (.cons_cons _ (.cons_cons _ (.cons _ (.slnil)))))))) (zK1 (x9_9, (a9_9, x9_9.length, c9_9, f9_9)) (Option.some.inj ej1).symm)
          ·
            intro hc_3
            replace ej1 := ifO_f hc_3 ej1
            refine WC.skip ?_
            refine En.block_norm ?_
            exact En.wk _ _ (Sub.cons rfl (Sub.cons rfl (Sub.cons rfl (Sub.cons rfl (Sub.cons rfl (Sub.nil _)))))) (fun _ h => h) (zK1 (out_0, (aout_0, nout_0, cout_0, fout_0)) (Option.some.inj ej1).symm)
      ·
        intro hc_2
        replace zh0 := ifO_f hc_2 zh0
        refine WC.exit ?_
        refine En.then_exit ?_
        refine En.then_exit ?_
        have hx := exitP ze0 zh0
        exact En.wk _ _ (Sub.cons rfl (Sub.cons rfl (Sub.nil _))) (fun _ h => ((((h).perm (List.perm_middle (l₁ := [_, _, _, _]))).perm (List.perm_middle (l₁ := [_, _, _, _]))).perm (List.perm_middle (l₁ := [_, _, _]))).sub (.cons_cons _ (.cons_cons _ (.cons_cons _ (.cons _ (.cons _ (.slnil))))))) (zK0_0 (out_0, (aout_0, nout_0, cout_0, fout_0)) hx.symm)

theorem w_slices_Index_S_int_int {s_p0 : List Int} {v_p1 : Int} {r : Int} {q0_0 : Option Addr} {n0_0 k0_0 : Nat} (h : slices_Index_S_int_int s_p0 v_p1 = some r) {w : World} (r0_0 : Rd tInt w q0_0 n0_0 k0_0 s_p0)   :
    Calls Try.prog 131 #[.slice q0_0 n0_0 k0_0, .int .i64 v_p1] w (fun en w' => en = .returned (.int .i64 r) ∧ Ext w w') := by
  obtain rfl := r0_0.1
  unfold slices_Index_S_int_int at h
  refine enter (vs := [_, _]) Try.func131 rfl rfl rfl rfl ?_
  refine WC.seq ?_
  refine WC.region ?_
  refine Lt.ofWL.step rfl rfl rfl (OpV.assign rfl) ?_
  refine WL.nil ?_
  refine En.next ?_
  refine WC.seq ?_
  refine WC.seq ?_
  refine WC.region ?_
  refine Lt.ofWL.step rfl rfl rfl (OpV.move rfl) ?_
  refine Lt.ofWL.step rfl rfl rfl (OpV.len rfl si_32 rfl) ?_
  refine Lt.ofWL.step rfl rfl rfl (OpV.move rfl) ?_
  refine WL.nil ?_
  refine En.next ?_
  refine WC.block ?_
  obtain ⟨zy0, ezy0, h⟩ := bnd h
  refine WC.cut (X := (Unit) × (Unit)) (.exit 0) (fun x => zy0 = .inl x.1) (fun x => match x with | ((), ()) => []) (fun x => match x with | ((), ()) => []) ?_ ?_
  ·
    rintro ⟨⟨⟩, ⟨⟩⟩ hx
    replace hx : .inl () = zy0 := hx.symm
    subst hx
    replace h := fork_l h
    show En _ _ _ _ [] []
    refine En.block_exit ?_
    refine En.next ?_
    refine WC.seq ?_
    refine WC.region ?_
    refine Lt.ofWL.step rfl rfl rfl (OpV.assign rfl) ?_
    refine WL.nil ?_
    refine En.next ?_
    refine WC.ret ?_
    refine En.ret1 rfl (Res.tmp rfl) ?_
    obtain rfl := Option.some.inj h
    intro w' hs
    exact ⟨rfl, hs.below⟩
  ·
    intro zK0_0
    refine WC.loopP (G := Unit) (fun s g => match s, g with | v_0, () => [(0, .slice q0_0 s_p0.length k0_0), (1, .int .i64 v_p1), (7, .int .i64 (s_p0.length : Int)), (8, .int .i64 v_0)]) (fun s g => match s, g with | v_0, () => []) 0 () ezy0 (by exact Sub.cons rfl (Sub.cons rfl (Sub.cons rfl (Sub.cons rfl (Sub.nil _))))) (by exact (fun _ h => h)) ?_
    rintro zm0 v_0 ⟨⟩ zo0 zf0 zb0 ze0
    have zh0 : slices_Index_S_int_int_L0 s_p0 v_p1 v_0 = some zo0 := zf0
    unfold slices_Index_S_int_int_L0 at zh0
    show WC _ _ _ _ _ [(0, .slice q0_0 s_p0.length k0_0), (1, .int .i64 v_p1), (7, .int .i64 (s_p0.length : Int)), (8, .int .i64 v_0)] []
    refine WC.seq ?_
    refine WC.region ?_
    refine Lt.ofWL.step rfl rfl rfl (OpV.lss rfl rfl) ?_
    refine WL.nil ?_
    refine En.next ?_
    refine WC.seq ?_
    refine WC.cond rfl ?_ ?_
    ·
      intro hc_1
      replace zh0 := ifO_t hc_1 zh0
      refine WC.skip ?_
      refine En.next ?_
      refine WC.seq ?_
      refine WC.block ?_
      refine WC.seq ?_
      refine WC.region ?_
      refine Lt.ofWL.step rfl rfl rfl (OpV.move rfl) ?_
      refine Lt.ofWL.step rfl rfl rfl (OpV.assign rfl) ?_
      refine WL.nil ?_
      refine En.next ?_
      refine WC.seq ?_
      obtain ⟨x4_3, e4_3, zh0⟩ := bnd zh0
      obtain ⟨g4_3, o4_3, _, ha4_3, rfl, hd4_3⟩ := Rd.atIdx r0_0 e4_3
      replace hd4_3 : ∀ (j : Nat) v, ([.int .i64 x4_3] : List Value)[j]? = some v → w.cell? ⟨g4_3, o4_3 + v_0.toNat * 1 + j, .none⟩ = some v := hd4_3
      refine WC.region ?_
      refine Lt.ofWL.step rfl rfl rfl (OpV.move rfl) ?_
      refine Lt.ofWL.step rfl rfl rfl (OpV.move rfl) ?_
      refine Lt.ofWL.step rfl rfl rfl (OpV.move rfl) ?_
      refine Lt.ofWL.step rfl rfl rfl (OpV.idxA rfl rfl se_32 ha4_3 ⟨(idx_some e4_3).1, (idx_some e4_3).2.1⟩) ?_
      refine Lt.ofWL.step rfl rfl rfl (OpV.load1 rfl pt_3 (fun w hs => hs.cell (hd4_3 0 _ rfl))) ?_
      refine Lt.ofWL.step rfl rfl rfl (OpV.eql rfl rfl) ?_
      refine WL.nil ?_
      refine En.next ?_
      refine WC.cond rfl ?_ ?_
      ·
        intro hc_2
        replace zh0 := ifO_t hc_2 zh0
        refine WC.seq ?_
        refine WC.region ?_
        refine Lt.ofWL.step rfl rfl rfl (OpV.move rfl) ?_
        refine Lt.ofWL.step rfl rfl rfl (OpV.assign rfl) ?_
        refine WL.nil ?_
        refine En.next ?_
        refine WC.ret ?_
        refine En.block_ret ?_
        refine En.then_ret ?_
        refine En.then_ret ?_
        refine En.block_ret ?_
        refine En.then_ret ?_
        refine En.ret1 rfl (Res.tmp rfl) ?_
        have hx := exitP ze0 zh0
        subst hx
        replace h := fork_r h
        obtain rfl := Option.some.inj h
        intro w' hs
        exact ⟨rfl, hs.below⟩
      ·
        intro hc_2
        replace zh0 := ifO_f hc_2 zh0
        refine WC.skip ?_
        refine En.block_norm ?_
        refine En.next ?_
        refine WC.region ?_
        refine Lt.ofWL.step rfl rfl rfl (OpV.addR rfl rfl) ?_
        refine Lt.ofWL.step rfl rfl rfl (OpV.move rfl) ?_
        refine WL.nil ?_
        exact En.backP zb0 zh0 () (Sub.cons rfl (Sub.cons rfl (Sub.cons rfl (Sub.cons rfl (Sub.nil _))))) (fun _ h => h)
    ·
      intro hc_1
      replace zh0 := ifO_f hc_1 zh0
      refine WC.exit ?_
      refine En.then_exit ?_
      refine En.then_exit ?_
      have hx := exitP ze0 zh0
      exact En.wk _ _ (Sub.nil _) (fun _ h => h) (zK0_0 ((), ()) hx.symm)

theorem w_slices_Contains_S_int_int {s_p0 : List Int} {v_p1 : Int} {r : Bool} {q0_0 : Option Addr} {n0_0 k0_0 : Nat} (h : slices_Contains_S_int_int s_p0 v_p1 = some r) {w : World} (r0_0 : Rd tInt w q0_0 n0_0 k0_0 s_p0)   :
    Calls Try.prog 82 #[.slice q0_0 n0_0 k0_0, .int .i64 v_p1] w (fun en w' => en = .returned (.bool r) ∧ Ext w w') := by
  obtain rfl := r0_0.1
  unfold slices_Contains_S_int_int at h
  refine enter (vs := [_, _]) Try.func82 rfl rfl rfl rfl ?_
  refine WC.seq ?_
  refine WC.region ?_
  refine Lt.ofWL.step rfl rfl rfl (OpV.assign rfl) ?_
  refine WL.nil ?_
  refine En.next ?_
  refine WC.seq ?_
  obtain ⟨x1_2, e1_2, h⟩ := bnd h
  refine WC.region ?_
  refine Lt.ofWL.step rfl rfl rfl (OpV.move rfl) ?_
  refine Lt.ofWL.step rfl rfl rfl (OpV.move rfl) ?_
  refine Lt.ofWL.step rfl rfl rfl (OpV.call (evs.cons rfl (evs.cons rfl (evs.nil))) ca_131 (fun w hs => w_slices_Index_S_int_int e1_2 (r0_0.ext hs.below))) ?_
  refine Lt.ofWL.step rfl rfl rfl (OpV.geq rfl rfl) ?_
  refine Lt.ofWL.step rfl rfl rfl (OpV.assign rfl) ?_
  refine WL.nil ?_
  refine En.next ?_
  refine WC.ret ?_
  refine En.ret1 rfl (Res.tmp rfl) ?_
  obtain rfl := Option.some.inj h
  intro w' hs
  exact ⟨rfl, hs.below⟩

theorem w_slices_Clone_S_int_int {s_p0 : List Int} {r : List Int} {q0_0 : Option Addr} {n0_0 k0_0 : Nat} (h : slices_Clone_S_int_int s_p0 = some r) {w : World} (r0_0 : Rd tInt w q0_0 n0_0 k0_0 s_p0) :
    Calls Try.prog 111 #[.slice q0_0 n0_0 k0_0] w (fun en w' => ∃ rv G, en = .returned rv ∧ (∃ (a0_0 : Option Addr) (n0_0 : Nat) (c0_0 : Nat) (f0_0 : List Nat), rv = .slice a0_0 n0_0 c0_0 ∧ G = [Chunk.own tInt f0_0 a0_0 n0_0 c0_0 r]) ∧ St w G w') := by
  obtain rfl := r0_0.1
  obtain ⟨hn, h⟩ := need_some h
  obtain rfl := Option.some.inj h
  refine enter (vs := [_]) Try.func111 rfl rfl rfl rfl ?_
  refine WC.seq ?_
  refine WC.region ?_
  refine Lt.ofWL.step rfl rfl rfl (OpV.assign rfl) ?_
  refine WL.nil ?_
  refine En.next ?_
  refine WC.seq ?_
  refine WC.seq ?_
  refine WC.region ?_
  refine Lt.ofWL.step rfl rfl rfl (OpV.move rfl) ?_
  refine Lt.ofWL.step rfl rfl rfl (OpV.eqNil rfl si_32) ?_
  refine WL.nil ?_
  refine En.next ?_
  refine WC.cond rfl ?_ ?_
  · intro hc
    have hnil := Rd.isNil r0_0 hc
    refine WC.seq ?_
    refine WC.region ?_
    refine Lt.ofWL.step rfl rfl rfl (OpV.assign rfl) ?_
    refine WL.nil ?_
    refine En.next ?_
    refine WC.ret ?_
    refine En.then_ret ?_
    refine En.ret1 rfl (Res.tmp rfl) ?_
    intro w' hs
    refine ⟨_, _, rfl, ⟨.none, 0, 0, [], rfl, rfl⟩, ?_⟩
    rw [hnil]; exact hs.ownNil
  · intro hc
    refine WC.skip ?_
    refine En.next ?_
    refine WC.seq ?_
    refine WC.region ?_
    refine WL.heavy rfl rfl rfl (OpH.lit0 (A := tInt) evps.nil bs_32_0_ ?_)
    intro b
    refine Lt.ofWL.step rfl rfl rfl (OpV.move rfl) ?_
    refine WL.heavy rfl rfl rfl (OpH.appS (F := []) (A := tInt) tInt_flat rfl rfl rfl mi_32 rfl (by decide) (fun w hs => r0_0.ext hs.below) (app_nil hn) ?_)
    intro fp a c
    refine Lt.ofWL.step rfl rfl rfl (OpV.assign rfl) ?_
    refine WL.nil ?_
    refine En.next ?_
    refine WC.ret ?_
    refine En.ret1 rfl (Res.tmp rfl) ?_
    intro w' hs
    exact ⟨_, _, rfl, ⟨_, _, _, _, rfl, rfl⟩, hs⟩

theorem w_impl_copyImage {i_p0 : ImageT} {r : ImageT} {q0_0 : Option Addr} {n0_0 k0_0 : Nat} (h : impl_copyImage i_p0 = some r) {w : World} (r0_0 : Rd tInt w q0_0 n0_0 k0_0 i_p0.Data)   :
    Calls Try.prog 132 #[.agg #[.int .i64 i_p0.W, .int .i64 i_p0.H, .slice q0_0 n0_0 k0_0]] w (fun en w' => ∃ rv G, en = .returned rv ∧ (∃ (a0_0 : Option Addr) (n0_0 : Nat) (c0_0 : Nat) (f0_0 : List Nat), rv = .agg #[.int .i64 r.W, .int .i64 r.H, .slice a0_0 n0_0 c0_0] ∧ G = [Chunk.own tInt f0_0 a0_0 n0_0 c0_0 r.Data]) ∧ St w G w') := by
  obtain rfl := r0_0.1
  unfold impl_copyImage at h
  refine enter (vs := [_]) Try.func132 rfl rfl rfl rfl ?_
  refine WC.seq ?_
  refine WC.region ?_
  refine WL.heavy rfl rfl rfl (OpH.box rfl rfl ?_)
  intro b0_0
  refine WL.heavy rfl rfl rfl (OpH.alloc zc_36 ?_)
  intro b0_1
  refine WL.nil ?_
  refine En.next ?_
  refine WC.seq ?_
  obtain ⟨x1_6, e1_6, h⟩ := bnd h
  refine WC.drawnH [_] ([_]) (fun _ h => h) (by kernel_rfl) ?_
  refine WAE.take (i := 0) rfl (by kernel_rfl) (by kernel_rfl) (by kernel_rfl) rfl rfl rfl (OpV.fieldAddr rfl fo_36_0) ?_
  refine WAE.take (i := 1) rfl (by kernel_rfl) (by kernel_rfl) (by kernel_rfl) rfl rfl rfl (OpV.loadBox rfl pt_3 (.head _) rfl) ?_
  refine WAE.take (i := 2) rfl (by kernel_rfl) (by kernel_rfl) (by kernel_rfl) rfl rfl rfl (OpV.fieldAddr rfl fo_36_1) ?_
  refine WAE.take (i := 3) rfl (by kernel_rfl) (by kernel_rfl) (by kernel_rfl) rfl rfl rfl (OpV.loadBox rfl pt_3 (.head _) rfl) ?_
  refine WAE.take (i := 4) rfl (by kernel_rfl) (by kernel_rfl) (by kernel_rfl) rfl rfl rfl (OpV.fieldAddr rfl fo_36_2) ?_
  refine WAE.take (i := 5) rfl (by kernel_rfl) (by kernel_rfl) (by kernel_rfl) rfl rfl rfl (OpV.loadBox rfl pt_32 (.head _) rfl) ?_
  refine WAE.all (rs := [6]) (by kernel_rfl) rfl (AllR.cons rfl rfl rfl rfl ?_ AllR.nil)
  refine OpH.callR (evs.cons rfl (evs.nil)) ca_111 (fun w hs => w_slices_Clone_S_int_int e1_6 (r0_0.ext hs.below)) ?_
  rintro _ _ ⟨a1_600, n1_600, c1_600, f1_600, rfl, rfl⟩
  refine ⟨[_, _], rfl, ?_⟩
  refine WAE.take (i := 7) rfl (by kernel_rfl) (by kernel_rfl) (by kernel_rfl) rfl rfl rfl (OpV.build (evps.cons rfl (evps.cons rfl (evps.cons rfl (evps.nil)))) (bd_36_0_1_2 _ _ _ _ _)) ?_
  refine WAE.all (rs := [8]) (by kernel_rfl) rfl (AllR.cons0 rfl rfl rfl ?_ AllR.nil)
  refine OpH.storeTo (A := [_]) [_, _, _] rfl rfl rfl ts_36 rfl rfl rfl ?_
  refine ⟨[_, _], rfl, ?_⟩
  refine WAE.rebase (H := []) ?_
  refine WAE.done (by kernel_rfl) ?_ _
  refine En.next ?_
  refine WC.ret ?_
  refine En.ret1 rfl (Res.cell rfl (.tail _ (.head _)) ag_36) ?_
  obtain rfl := Option.some.inj h
  intro w' hs
  have hs := (hs).sub (.cons_cons _ (.cons _ (.cons _ (.slnil))))
  exact ⟨_, _, rfl, ⟨a1_600, n1_600, c1_600, f1_600, rfl, rfl⟩, hs⟩

theorem w_impl_copySurface {s_p0 : SurfaceT} {r : SurfaceT} {q0_0 : Option Addr} {n0_0 k0_0 : Nat} (h : impl_copySurface s_p0 = some r) {w : World} (r0_0 : Rd tInt w q0_0 n0_0 k0_0 s_p0.Buffer.Data)   :
    Calls Try.prog 83 #[.agg #[.int .i64 s_p0.Id, .int .i64 s_p0.X, .int .i64 s_p0.Y, .int .i64 s_p0.W, .int .i64 s_p0.H, .int .i64 s_p0.Alpha, .int .i64 s_p0.Orient, .bool s_p0.Visible, .int .i64 s_p0.Buffer.W, .int .i64 s_p0.Buffer.H, .slice q0_0 n0_0 k0_0]] w (fun en w' => ∃ rv G, en = .returned rv ∧ (∃ (a0_0 : Option Addr) (n0_0 : Nat) (c0_0 : Nat) (f0_0 : List Nat), rv = .agg #[.int .i64 r.Id, .int .i64 r.X, .int .i64 r.Y, .int .i64 r.W, .int .i64 r.H, .int .i64 r.Alpha, .int .i64 r.Orient, .bool r.Visible, .int .i64 r.Buffer.W, .int .i64 r.Buffer.H, .slice a0_0 n0_0 c0_0] ∧ G = [Chunk.own tInt f0_0 a0_0 n0_0 c0_0 r.Buffer.Data]) ∧ St w G w') := by
  obtain rfl := r0_0.1
  unfold impl_copySurface at h
  refine enter (vs := [_]) Try.func83 rfl rfl rfl rfl ?_
  refine WC.seq ?_
  refine WC.region ?_
  refine WL.heavy rfl rfl rfl (OpH.box rfl rfl ?_)
  intro b0_0
  refine WL.heavy rfl rfl rfl (OpH.alloc zc_38 ?_)
  intro b0_1
  refine WL.nil ?_
  refine En.next ?_
  refine WC.seq ?_
  obtain ⟨x1_2, e1_2, h⟩ := bnd h
  refine WC.region ?_
  refine Lt.ofWL.step rfl rfl rfl (OpV.fieldAddr rfl fo_38_8) ?_
  refine Lt.ofWL.step rfl rfl rfl (OpV.loadPart rfl (.tail _ (.head _)) ag_36 rfl rfl) ?_
  refine WL.heavy rfl rfl rfl (OpH.callR (evs.cons rfl (evs.nil)) ca_132 (fun w hs => w_impl_copyImage e1_2 (r0_0.ext hs.below)) ?_)
  rintro _ _ ⟨a1_200, n1_200, c1_200, f1_200, rfl, rfl⟩
  refine Lt.ofWL.step rfl rfl rfl (OpV.fieldAddr rfl fo_38_8) ?_
  refine WL.heavy0 rfl rfl (OpH.storeTo (A := [_, _]) [_, _, _, _, _, _, _, _, _, _, _] rfl rfl rfl ts_36 rfl rfl rfl ?_)
  refine WL.nil ?_
  refine En.next ?_
  refine WC.seq ?_
  refine WC.region ?_
  refine Lt.ofWL.step rfl rfl rfl (OpV.loadAll rfl (.tail _ (.tail _ (.head _))) ag_38) ?_
  refine WL.heavy0 rfl rfl (OpH.storeTo (A := [_]) [_, _, _, _, _, _, _, _, _, _, _] rfl rfl rfl ts_38 rfl rfl rfl ?_)
  refine WL.nil ?_
  refine En.next ?_
  refine WC.ret ?_
  refine En.ret1 rfl (Res.cell rfl (.tail _ (.head _)) ag_38) ?_
  obtain rfl := Option.some.inj h
  intro w' hs
  have hs := (hs).sub (.cons_cons _ (.cons _ (.cons _ (.slnil))))
  exact ⟨_, _, rfl, ⟨a1_200, n1_200, c1_200, f1_200, rfl, rfl⟩, hs⟩

theorem w_impl_RestOf {s_p0 : SceneT} {o_p1 : OptionsT} {r : SceneT} {q0_0 : Option Addr} {n0_0 k0_0 : Nat} (h : impl_RestOf s_p0 o_p1 = some r) {w : World} (r0_0 : Rd tSurface w q0_0 n0_0 k0_0 s_p0.Surfaces)   :
    Calls Try.prog 31 #[.agg #[.int .i64 s_p0.W, .int .i64 s_p0.H, .int .i64 s_p0.Back, .slice q0_0 n0_0 k0_0], .agg #[.int .i64 o_p1.Overlays, .bool o_p1.Cursor, .int .i64 o_p1.Layout, .bool o_p1.Partial, .bool o_p1.Sleep, .bool o_p1.Secret]] w (fun en w' => ∃ rv G, en = .returned rv ∧ (∃ (a0_0 : Option Addr) (n0_0 : Nat) (c0_0 : Nat) (f0_0 : List Nat), rv = .agg #[.int .i64 r.W, .int .i64 r.H, .int .i64 r.Back, .slice a0_0 n0_0 c0_0] ∧ G = [Chunk.own tSurface f0_0 a0_0 n0_0 c0_0 r.Surfaces]) ∧ St w G w') := by
  obtain rfl := r0_0.1
  unfold impl_RestOf at h
  refine enter (vs := [_, _]) Try.func31 rfl rfl rfl rfl ?_
  refine WC.seq ?_
  refine WC.region ?_
  refine WL.heavy rfl rfl rfl (OpH.box rfl rfl ?_)
  intro b0_0
  refine WL.heavy rfl rfl rfl (OpH.box rfl rfl ?_)
  intro b0_1
  refine WL.heavy rfl rfl rfl (OpH.alloc zc_26 ?_)
  intro b0_2
  refine WL.nil ?_
  refine En.next ?_
  refine WC.seq ?_
  refine WC.seq ?_
  obtain ⟨x1_1, e1_1, h⟩ := bnd h
  obtain ⟨q1_7, e1_7, h⟩ := bnd h
  refine WC.region ?_
  refine Lt.ofWL.step rfl rfl rfl (OpV.loadAll rfl (.tail _ (.tail _ (.head _))) ag_26) ?_
  refine Lt.ofWL.step rfl rfl rfl (OpV.call (evs.cons rfl (evs.nil)) ca_70 (fun w hs => w_impl_SceneOk e1_1 (r0_0.ext hs.below))) ?_
  refine Lt.ofWL.step rfl rfl rfl (OpV.not rfl) ?_
  refine Lt.ofWL.step rfl rfl rfl (OpV.move rfl) ?_
  refine Lt.ofWL.orQ 13 17 16 (p := ?pz1) (rest := ?qz1) (B := q1_7) rfl (fun hz => orO_t e1_7 hz) ?Tz1 ?Fz1 ?az1 ?bz1 ?cz1 ?dz1 ?ez1
  case Tz1 =>
    intro hcz1 hkz1
    refine Lt.ofWL.skip rfl rfl rfl ?_
    refine Lt.ofWL.skip rfl rfl rfl ?_
    refine Lt.ofWL.skip rfl rfl rfl ?_
    refine hkz1 _ ?_
    repeat (first | exact Sub.refl _ | refine Sub.skip rfl ?_)
  case Fz1 =>
    intro hcz1 hkz1
    have hqz1 := orO_f e1_7 hcz1
    obtain ⟨x1_5, e1_5, hqz1⟩ := bnd hqz1
    obtain rfl := Option.some.inj hqz1
    refine Lt.ofWL.step rfl rfl rfl (OpV.loadAll rfl (.tail _ (.head _)) ag_28) ?_
    refine Lt.ofWL.step rfl rfl rfl (OpV.call (evs.cons rfl (evs.nil)) ca_71 (fun w hs => w_impl_OptionsOk e1_5)) ?_
    refine Lt.ofWL.step rfl rfl rfl (OpV.not rfl) ?_
    refine hkz1 _ ?_ ?_
    exact rfl
    repeat (first | exact Sub.refl _ | refine Sub.skip rfl ?_)
  case az1 => exact rfl
  case bz1 => exact rfl
  case cz1 => exact rfl
  case dz1 => exact rfl
  refine WL.nil ?_
  refine En.next ?_
  refine WC.cond rfl ?_ ?_
  ·
    intro hc_1
    replace h := ifO_t hc_1 h
    refine WC.seq ?_
    refine WC.region ?_
    refine Lt.ofWL.step rfl rfl rfl (OpV.build (evps.nil) bd_26_) ?_
    refine WL.heavy0 rfl rfl (OpH.storeTo (A := []) [_, _, _, _] rfl rfl rfl ts_26 rfl rfl rfl ?_)
    refine WL.nil ?_
    refine En.next ?_
    refine WC.ret ?_
    refine En.then_ret ?_
    refine En.ret1 rfl (Res.cell rfl (.head _) ag_26) ?_
    obtain rfl := Option.some.inj h
    intro w' hs
    have hs := ((hs).ownNil (A := tSurface)).sub (.cons_cons _ (.cons _ (.cons _ (.cons _ (.slnil)))))
    exact ⟨_, _, rfl, ⟨.none, 0, 0, [], rfl, rfl⟩, hs⟩
  ·
    intro hc_1
    replace h := ifO_f hc_1 h
    refine WC.skip ?_
    refine En.next ?_
    refine WC.seq ?_
    obtain ⟨⟨x3_2a, x3_2b⟩, e3_2, h⟩ := bnd h
    refine WC.region ?_
    refine Lt.ofWL.step rfl rfl rfl (OpV.loadAll rfl (.tail _ (.tail _ (.head _))) ag_26) ?_
    refine Lt.ofWL.step rfl rfl rfl (OpV.loadAll rfl (.tail _ (.head _)) ag_28) ?_
    refine WL.heavy rfl rfl rfl (OpH.callR (evs.cons rfl (evs.cons rfl (evs.nil))) ca_18 (fun w hs => w_impl_AssignedOf e3_2 (r0_0.ext hs.below)) ?_)
    rintro _ _ ⟨a3_200, n3_200, c3_200, f3_200, rfl, rfl⟩
    refine Lt.ofWL.step rfl rfl rfl (OpV.move rfl) ?_
    refine Lt.ofWL.step rfl rfl rfl (OpV.extract rfl rfl) ?_
    refine Lt.ofWL.step rfl rfl rfl (OpV.extract rfl rfl) ?_
    refine Lt.ofWL.step rfl rfl rfl (OpV.assign rfl) ?_
    refine Lt.ofWL.step rfl rfl rfl (OpV.assign rfl) ?_
    refine WL.nil ?_
    refine En.next ?_
    refine WC.seq ?_
    refine WC.region ?_
    refine Lt.ofWL.step rfl rfl rfl (OpV.fieldAddr rfl fo_26_0) ?_
    refine Lt.ofWL.step rfl rfl rfl (OpV.loadBox rfl pt_3 (.tail _ (.tail _ (.tail _ (.head _)))) rfl) ?_
    refine Lt.ofWL.step rfl rfl rfl (OpV.fieldAddr rfl fo_26_1) ?_
    refine Lt.ofWL.step rfl rfl rfl (OpV.loadBox rfl pt_3 (.tail _ (.tail _ (.tail _ (.head _)))) rfl) ?_
    refine Lt.ofWL.step rfl rfl rfl (OpV.fieldAddr rfl fo_26_2) ?_
    refine Lt.ofWL.step rfl rfl rfl (OpV.loadBox rfl pt_3 (.tail _ (.tail _ (.tail _ (.head _)))) rfl) ?_
    refine Lt.ofWL.step rfl rfl rfl (OpV.build (evps.cons rfl (evps.cons rfl (evps.cons rfl (evps.nil)))) (bd_26_0_1_2 _ _ _)) ?_
    refine WL.heavy rfl rfl rfl (OpH.alloc zc_26 ?_)
    intro b4_7
    refine WL.heavy0 rfl rfl (OpH.storeTo (A := []) [_, _, _, _] rfl rfl rfl ts_26 rfl rfl rfl ?_)
    refine WL.nil ?_
    refine En.next ?_
    refine WC.seq ?_
    refine WC.seq ?_
    refine WC.region ?_
    refine Lt.ofWL.step rfl rfl rfl (OpV.fieldAddr rfl fo_26_3) ?_
    refine Lt.ofWL.step rfl rfl rfl (OpV.loadBox rfl pt_24 (.tail _ (.tail _ (.tail _ (.tail _ (.head _))))) rfl) ?_
    refine Lt.ofWL.step rfl rfl rfl (OpV.len rfl si_24 rfl) ?_
    refine Lt.ofWL.step rfl rfl rfl (OpV.move rfl) ?_
    refine WL.nil ?_
    refine En.next ?_
    refine WC.block ?_
    obtain ⟨zy0, ezy0, h⟩ := bnd h
    refine WC.cut (X := ((List SurfaceT)) × ((Option Addr) × Nat × Nat × (List Nat))) (.exit 0) (fun x => zy0 = x.1) (fun x => match x with | (out_0e, (aout_0e, nout_0e, cout_0e, fout_0e)) => [(4, .pointer (some ⟨b0_2, 0, .none⟩)), (7, .pointer (some ⟨b4_7, 0, .none⟩))]) (fun x => match x with | (out_0e, (aout_0e, nout_0e, cout_0e, fout_0e)) => [Chunk.box b0_2 26 [.int .i64 0, .int .i64 0, .int .i64 0, .slice .none 0 0], Chunk.box b4_7 26 [.int .i64 s_p0.W, .int .i64 s_p0.H, .int .i64 s_p0.Back, .slice aout_0e nout_0e cout_0e], Chunk.own tSurface fout_0e aout_0e nout_0e cout_0e out_0e]) ?_ ?_
    ·
      rintro ⟨out_0e, ⟨aout_0e, nout_0e, cout_0e, fout_0e⟩⟩ hx
      replace hx : out_0e = zy0 := hx.symm
      subst hx
      show En _ _ _ _ [(4, .pointer (some ⟨b0_2, 0, .none⟩)), (7, .pointer (some ⟨b4_7, 0, .none⟩))] [Chunk.box b0_2 26 [.int .i64 0, .int .i64 0, .int .i64 0, .slice .none 0 0], Chunk.box b4_7 26 [.int .i64 s_p0.W, .int .i64 s_p0.H, .int .i64 s_p0.Back, .slice aout_0e nout_0e cout_0e], Chunk.own tSurface fout_0e aout_0e nout_0e cout_0e out_0e]
      refine En.block_exit ?_
      refine En.next ?_
      refine WC.seq ?_
      refine WC.region ?_
      refine Lt.ofWL.step rfl rfl rfl (OpV.loadAll rfl (.tail _ (.head _)) ag_26) ?_
      refine WL.heavy0 rfl rfl (OpH.storeTo (A := []) [_, _, _, _] rfl rfl rfl ts_26 rfl rfl rfl ?_)
      refine WL.nil ?_
      refine En.next ?_
      refine WC.ret ?_
      refine En.ret1 rfl (Res.cell rfl (.head _) ag_26) ?_
      obtain rfl := Option.some.inj h
      intro w' hs
      have hs := ((hs).perm (List.perm_middle (l₁ := [_, _]))).sub (.cons_cons _ (.cons _ (.cons _ (.slnil))))
      exact ⟨_, _, rfl, ⟨aout_0e, nout_0e, cout_0e, fout_0e, rfl, rfl⟩, hs⟩
    ·
      intro zK0_0
      refine WC.loopP (G := (Option Addr) × Nat × Nat × (List Nat)) (fun s g => match s, g with | (out_0, v_0), (aout_0, nout_0, cout_0, fout_0) => [(4, .pointer (some ⟨b0_2, 0, .none⟩)), (5, .slice a3_200 n3_200 c3_200), (7, .pointer (some ⟨b4_7, 0, .none⟩)), (33, .slice q0_0 s_p0.Surfaces.length k0_0), (34, .int .i64 (s_p0.Surfaces.length : Int)), (35, .int .i64 v_0)]) (fun s g => match s, g with | (out_0, v_0), (aout_0, nout_0, cout_0, fout_0) => [Chunk.box b0_2 26 [.int .i64 0, .int .i64 0, .int .i64 0, .slice .none 0 0], Chunk.own tInt f3_200 a3_200 n3_200 c3_200 x3_2a, Chunk.box b4_7 26 [.int .i64 s_p0.W, .int .i64 s_p0.H, .int .i64 s_p0.Back, .slice aout_0 nout_0 cout_0], Chunk.own tSurface fout_0 aout_0 nout_0 cout_0 out_0]) ([], 0) (.none, 0, 0, []) ezy0 (by exact Sub.cons rfl (Sub.cons rfl (Sub.cons rfl (Sub.cons rfl (Sub.cons rfl (Sub.cons rfl (Sub.nil _))))))) (by exact (fun _ h => (((((h).ownNil (A := tSurface)).perm (List.perm_middle (l₁ := [_]))).perm (List.perm_middle (l₁ := [_, _]))).perm (List.perm_middle (l₁ := [_, _, _]))).sub (.cons_cons _ (.cons_cons _ (.cons_cons _ (.cons_cons _ (.cons _ (.cons _ (.slnil))))))))) ?_
      rintro zm0 ⟨out_0, v_0⟩ ⟨aout_0, nout_0, cout_0, fout_0⟩ zo0 zf0 zb0 ze0
      have zh0 : impl_RestOf_L0 s_p0 x3_2a out_0 v_0 = some zo0 := zf0
      unfold impl_RestOf_L0 at zh0
      show WC _ _ _ _ _ [(4, .pointer (some ⟨b0_2, 0, .none⟩)), (5, .slice a3_200 n3_200 c3_200), (7, .pointer (some ⟨b4_7, 0, .none⟩)), (33, .slice q0_0 s_p0.Surfaces.length k0_0), (34, .int .i64 (s_p0.Surfaces.length : Int)), (35, .int .i64 v_0)] [Chunk.box b0_2 26 [.int .i64 0, .int .i64 0, .int .i64 0, .slice .none 0 0], Chunk.own tInt f3_200 a3_200 n3_200 c3_200 x3_2a, Chunk.box b4_7 26 [.int .i64 s_p0.W, .int .i64 s_p0.H, .int .i64 s_p0.Back, .slice aout_0 nout_0 cout_0], Chunk.own tSurface fout_0 aout_0 nout_0 cout_0 out_0]
      refine WC.seq ?_
      refine WC.region ?_
      refine Lt.ofWL.step rfl rfl rfl (OpV.lss rfl rfl) ?_
      refine WL.nil ?_
      refine En.next ?_
      refine WC.seq ?_
      refine WC.cond rfl ?_ ?_
      ·
        intro hc_2
        replace zh0 := ifO_t hc_2 zh0
        refine WC.skip ?_
        refine En.next ?_
        refine WC.seq ?_
        obtain ⟨zy1, ej1, zh0⟩ := bnd zh0
        refine WC.cut (X := ((List SurfaceT)) × ((Option Addr) × Nat × Nat × (List Nat))) .normal (fun x => zy1 = x.1) (fun x => match x with | (out_1j, (aout_1j, nout_1j, cout_1j, fout_1j)) => [(4, .pointer (some ⟨b0_2, 0, .none⟩)), (5, .slice a3_200 n3_200 c3_200), (7, .pointer (some ⟨b4_7, 0, .none⟩)), (33, .slice q0_0 s_p0.Surfaces.length k0_0), (34, .int .i64 (s_p0.Surfaces.length : Int)), (35, .int .i64 v_0)]) (fun x => match x with | (out_1j, (aout_1j, nout_1j, cout_1j, fout_1j)) => [Chunk.box b0_2 26 [.int .i64 0, .int .i64 0, .int .i64 0, .slice .none 0 0], Chunk.own tInt f3_200 a3_200 n3_200 c3_200 x3_2a, Chunk.box b4_7 26 [.int .i64 s_p0.W, .int .i64 s_p0.H, .int .i64 s_p0.Back, .slice aout_1j nout_1j cout_1j], Chunk.own tSurface fout_1j aout_1j nout_1j cout_1j out_1j]) ?_ ?_
        ·
          rintro ⟨out_1j, ⟨aout_1j, nout_1j, cout_1j, fout_1j⟩⟩ hx
          replace hx : out_1j = zy1 := hx.symm
          subst hx
          show En _ _ _ _ [(4, .pointer (some ⟨b0_2, 0, .none⟩)), (5, .slice a3_200 n3_200 c3_200), (7, .pointer (some ⟨b4_7, 0, .none⟩)), (33, .slice q0_0 s_p0.Surfaces.length k0_0), (34, .int .i64 (s_p0.Surfaces.length : Int)), (35, .int .i64 v_0)] [Chunk.box b0_2 26 [.int .i64 0, .int .i64 0, .int .i64 0, .slice .none 0 0], Chunk.own tInt f3_200 a3_200 n3_200 c3_200 x3_2a, Chunk.box b4_7 26 [.int .i64 s_p0.W, .int .i64 s_p0.H, .int .i64 s_p0.Back, .slice aout_1j nout_1j cout_1j], Chunk.own tSurface fout_1j aout_1j nout_1j cout_1j out_1j]
          refine En.next ?_
          refine WC.region ?_
          refine Lt.ofWL.step rfl rfl rfl (OpV.addR rfl rfl) ?_
          refine Lt.ofWL.step rfl rfl rfl (OpV.move rfl) ?_
          refine WL.nil ?_
          exact En.backP zb0 zh0 (aout_1j, nout_1j, cout_1j, fout_1j) (Sub.cons rfl (Sub.cons rfl (Sub.cons rfl (Sub.cons rfl (Sub.cons rfl (Sub.cons rfl (Sub.nil _))))))) (fun _ h => h)
        ·
          intro zK1
          refine WC.block ?_
          refine WC.seq ?_
          obtain ⟨x7_1, e7_1, ej1⟩ := bnd ej1
          obtain ⟨g7_1, o7_1, _, ha7_1, ⟨a7_1_1, c7_1_1, rfl, r7_1_1⟩, hd7_1⟩ := Rd.atIdx r0_0 e7_1
          replace hd7_1 : ∀ (j : Nat) v, ([.int .i64 x7_1.Id, .int .i64 x7_1.X, .int .i64 x7_1.Y, .int .i64 x7_1.W, .int .i64 x7_1.H, .int .i64 x7_1.Alpha, .int .i64 x7_1.Orient, .bool x7_1.Visible, .int .i64 x7_1.Buffer.W, .int .i64 x7_1.Buffer.H, .slice a7_1_1 x7_1.Buffer.Data.length c7_1_1] : List Value)[j]? = some v → w.cell? ⟨g7_1, o7_1 + v_0.toNat * 11 + j, .none⟩ = some v := hd7_1
          refine WC.region ?_
          refine Lt.ofWL.step rfl rfl rfl (OpV.move rfl) ?_
          refine Lt.ofWL.step rfl rfl rfl (OpV.idxA rfl rfl se_24 ha7_1 ⟨(idx_some e7_1).1, (idx_some e7_1).2.1⟩) ?_
          refine Lt.ofWL.step rfl rfl rfl (OpV.loadN rfl ag_38 rfl (fun w hs => hs.cellsAt hd7_1)) ?_
          refine WL.heavy rfl rfl rfl (OpH.alloc zc_38 ?_)
          intro b7_3
          refine Lt.ofWL.step rfl rfl rfl (OpV.assign rfl) ?_
          refine WL.heavy0 rfl rfl (OpH.storeTo (A := []) [_, _, _, _, _, _, _, _, _, _, _] rfl rfl rfl ts_38 rfl rfl rfl ?_)
          refine WL.nil ?_
          refine En.next ?_
          refine WC.seq ?_
          obtain ⟨x8_2, e8_2, ej1⟩ := bnd ej1
          refine WC.region ?_
          refine Lt.ofWL.step rfl rfl rfl (OpV.move rfl) ?_
          refine Lt.ofWL.step rfl rfl rfl (OpV.move rfl) ?_
          refine Lt.ofWL.step rfl rfl rfl (OpV.call (evs.cons rfl (evs.cons rfl (evs.nil))) ca_82 (fun w hs => w_slices_Contains_S_int_int e8_2 (Ow.rd (hs.mem (.tail _ (.tail _ (.head _))))))) ?_
          refine Lt.ofWL.step rfl rfl rfl (OpV.not rfl) ?_
          refine WL.nil ?_
          refine En.next ?_
          refine WC.cond rfl ?_ ?_
          ·
            intro hc_3
            replace ej1 := ifO_t hc_3 ej1
            obtain ⟨x9_3, e9_3, ej1⟩ := bnd ej1
            obtain ⟨x9_5, e9_5, ej1⟩ := bnd ej1
            refine WC.wkF (fun _ h => h.perm (List.perm_middle (l₁ := [_, _, _, _]))) ?_
            refine WC.wkF (fun _ h => h.perm (List.perm_middle (l₁ := [_, _, _, _]))) ?_
            refine WC.drawnH [_, _] ([_, _, _]) (fun _ h => h) (by kernel_rfl) ?_
            refine WAE.take (i := 0) rfl (by kernel_rfl) (by kernel_rfl) (by kernel_rfl) rfl rfl rfl (OpV.fieldAddr rfl fo_26_3) ?_
            refine WAE.take (i := 2) rfl (by kernel_rfl) (by kernel_rfl) (by kernel_rfl) rfl rfl rfl (OpV.loadAll rfl (.head _) ag_38) ?_
            refine WAE.all (rs := [1, 3]) (by kernel_rfl) rfl (AllR.cons rfl rfl rfl rfl ?_ (AllR.cons rfl rfl rfl rfl ?_ AllR.nil))
            ·
              refine OpH.light (OpV.loadBox rfl pt_24 (.head _) rfl) ?_
              refine ⟨[_, _], rfl, ?_⟩
              refine WAE.all (rs := [3]) (by kernel_rfl) rfl (AllR.cons rfl rfl rfl rfl ?_ AllR.nil)
              refine OpH.callR (evs.cons rfl (evs.nil)) ca_83 (fun w hs => w_impl_copySurface e9_3 (r7_1_1.ext hs.below)) ?_
              rintro _ _ ⟨a9_300, n9_300, c9_300, f9_300, rfl, rfl⟩
              refine ⟨[_, _, _], rfl, ?_⟩
              refine WAE.all (rs := [4]) (by kernel_rfl) rfl (AllR.cons rfl rfl rfl rfl ?_ AllR.nil)
              refine OpH.buildSlice (evps.cons rfl (evps.nil)) (bs_24_1_0 _ _ _ _ _ _ _ _ _ _ _ _ _) ?_
              intro b9_4
              refine ⟨[_, _, _, _], rfl, ?_⟩
              refine WAE.all (rs := [5]) (by kernel_rfl) rfl (AllR.cons rfl rfl rfl rfl ?_ AllR.nil)
              refine OpH.wkF (fun _ h => h.perm (List.perm_middle (l₁ := [_]))) ?_
              refine OpH.wkF (fun _ h => tSurface_mk x9_3.Id x9_3.X x9_3.Y x9_3.W x9_3.H x9_3.Alpha x9_3.Orient x9_3.Visible x9_3.Buffer h) ?_
              refine OpH.wkF (fun _ h => h.perm (List.perm_middle (l₁ := [_, _, _]))) ?_
              refine OpH.wkF (fun _ h => h.perm (List.perm_middle (l₁ := [_]))) ?_
              refine OpH.push (A := tSurface) rfl rfl rfl mi_24 rfl (by decide) (.head _) e9_5 ?_
              intro f9_5 a9_5 c9_5
              refine ⟨[_, _, _], rfl, ?_⟩
              refine WAE.take (i := 6) rfl (by kernel_rfl) (by kernel_rfl) (by kernel_rfl) rfl rfl rfl (OpV.fieldAddr rfl fo_26_3) ?_
              refine WAE.all (rs := [7]) (by kernel_rfl) rfl (AllR.cons0 rfl rfl rfl ?_ AllR.nil)
              refine OpH.storeTo (A := [_, _]) [_, _, _, _] rfl rfl rfl ts_24 rfl rfl rfl ?_
              refine ⟨[_, _, _], rfl, ?_⟩
              refine WAE.rebase (H := []) ?_
              refine WAE.done (by kernel_rfl) ?_ _
              refine En.block_norm ?_
              exact En.wk _ _ (Sub.cons rfl (Sub.cons rfl (Sub.cons rfl (Sub.cons rfl (Sub.cons rfl (Sub.cons rfl (Sub.nil _))))))) (fun _ h => ((((h).perm (List.perm_middle (l₁ := [_, _]))).perm (List.perm_middle (l₁ := [_, _, _, _, _]))).perm (List.perm_middle (l₁ := [_, _, _, _, _]))).sub (.cons_cons _ (.cons_cons _ (.cons_cons _ (.cons_cons _ (.cons _ (.cons _ (.slnil)))))))) (zK1 (x9_5, (a9_5, x9_5.length, c9_5, f9_5)) (Option.some.inj ej1).symm)
            ·
              refine OpH.callR (evs.cons rfl (evs.nil)) ca_83 (fun w hs => w_impl_copySurface e9_3 (r7_1_1.ext hs.below)) ?_
              rintro _ _ ⟨a9_300, n9_300, c9_300, f9_300, rfl, rfl⟩
              refine ⟨[_, _, _], rfl, ?_⟩
              refine WAE.all (rs := [1, 4]) (by kernel_rfl) rfl (AllR.cons rfl rfl rfl rfl ?_ (AllR.cons rfl rfl rfl rfl ?_ AllR.nil))
              ·
                refine OpH.light (OpV.loadBox rfl pt_24 (.tail _ (.head _)) rfl) ?_
                refine ⟨[_, _, _], rfl, ?_⟩
                refine WAE.all (rs := [4]) (by kernel_rfl) rfl (AllR.cons rfl rfl rfl rfl ?_ AllR.nil)
                refine OpH.buildSlice (evps.cons rfl (evps.nil)) (bs_24_1_0 _ _ _ _ _ _ _ _ _ _ _ _ _) ?_
                intro b9_4
                refine ⟨[_, _, _, _], rfl, ?_⟩
                refine WAE.all (rs := [5]) (by kernel_rfl) rfl (AllR.cons rfl rfl rfl rfl ?_ AllR.nil)
                refine OpH.wkF (fun _ h => h.perm (List.perm_middle (l₁ := [_]))) ?_
                refine OpH.wkF (fun _ h => tSurface_mk x9_3.Id x9_3.X x9_3.Y x9_3.W x9_3.H x9_3.Alpha x9_3.Orient x9_3.Visible x9_3.Buffer h) ?_
                refine OpH.wkF (fun _ h => h.perm (List.perm_middle (l₁ := [_, _, _]))) ?_
                refine OpH.wkF (fun _ h => h.perm (List.perm_middle (l₁ := [_]))) ?_
                refine OpH.push (A := tSurface) rfl rfl rfl mi_24 rfl (by decide) (.head _) e9_5 ?_
                intro f9_5 a9_5 c9_5
                refine ⟨[_, _, _], rfl, ?_⟩
                refine WAE.take (i := 6) rfl (by kernel_rfl) (by kernel_rfl) (by kernel_rfl) rfl rfl rfl (OpV.fieldAddr rfl fo_26_3) ?_
                refine WAE.all (rs := [7]) (by kernel_rfl) rfl (AllR.cons0 rfl rfl rfl ?_ AllR.nil)
                refine OpH.storeTo (A := [_, _]) [_, _, _, _] rfl rfl rfl ts_24 rfl rfl rfl ?_
                refine ⟨[_, _, _], rfl, ?_⟩
                refine WAE.rebase (H := []) ?_
                refine WAE.done (by kernel_rfl) ?_ _
                refine En.block_norm ?_
                exact En.wk _ _ (Sub.cons rfl (Sub.cons rfl (Sub.cons rfl (Sub.cons rfl (Sub.cons rfl (Sub.cons rfl (Sub.nil _))))))) (fun _ h => ((((h).perm (List.perm_middle (l₁ := [_, _]))).perm (List.perm_middle (l₁ := [_, _, _, _, _]))).perm (List.perm_middle (l₁ := [_, _, _, _, _]))).sub (.cons_cons _ (.cons_cons _ (.cons_cons _ (.cons_cons _ (.cons _ (.cons _ (.slnil)))))))) (zK1 (x9_5, (a9_5, x9_5.length, c9_5, f9_5)) (Option.some.inj ej1).symm)
              ·
                refine OpH.buildSlice (evps.cons rfl (evps.nil)) (bs_24_1_0 _ _ _ _ _ _ _ _ _ _ _ _ _) ?_
                intro b9_4
                refine ⟨[_, _, _, _], rfl, ?_⟩
                refine WAE.all (rs := [1]) (by kernel_rfl) rfl (AllR.cons rfl rfl rfl rfl ?_ AllR.nil)
                refine OpH.light (OpV.loadBox rfl pt_24 (.tail _ (.tail _ (.head _))) rfl) ?_
                refine ⟨[_, _, _, _], rfl, ?_⟩
                refine WAE.all (rs := [5]) (by kernel_rfl) rfl (AllR.cons rfl rfl rfl rfl ?_ AllR.nil)
                refine OpH.wkF (fun _ h => h.perm (List.perm_middle (l₁ := [_]))) ?_
                refine OpH.wkF (fun _ h => tSurface_mk x9_3.Id x9_3.X x9_3.Y x9_3.W x9_3.H x9_3.Alpha x9_3.Orient x9_3.Visible x9_3.Buffer h) ?_
                refine OpH.wkF (fun _ h => h.perm (List.perm_middle (l₁ := [_, _, _]))) ?_
                refine OpH.wkF (fun _ h => h.perm (List.perm_middle (l₁ := [_]))) ?_
                refine OpH.push (A := tSurface) rfl rfl rfl mi_24 rfl (by decide) (.head _) e9_5 ?_
                intro f9_5 a9_5 c9_5
                refine ⟨[_, _, _], rfl, ?_⟩
                refine WAE.take (i := 6) rfl (by kernel_rfl) (by kernel_rfl) (by kernel_rfl) rfl rfl rfl (OpV.fieldAddr rfl fo_26_3) ?_
                refine WAE.all (rs := [7]) (by kernel_rfl) rfl (AllR.cons0 rfl rfl rfl ?_ AllR.nil)
                refine OpH.storeTo (A := [_, _]) [_, _, _, _] rfl rfl rfl ts_24 rfl rfl rfl ?_
                refine ⟨[_, _, _], rfl, ?_⟩
                refine WAE.rebase (H := []) ?_
                refine WAE.done (by kernel_rfl) ?_ _
                refine En.block_norm ?_
                exact En.wk _ _ (Sub.cons rfl (Sub.cons rfl (Sub.cons rfl (Sub.cons rfl (Sub.cons rfl (Sub.cons rfl (Sub.nil _))))))) (fun _ h => ((((h).perm (List.perm_middle (l₁ := [_, _]))).perm (List.perm_middle (l₁ := [_, _, _, _, _]))).perm (List.perm_middle (l₁ := [_, _, _, _, _]))).sub (.cons_cons _ (.cons_cons _ (.cons_cons _ (.cons_cons _ (.cons _ (.cons _ (.slnil)))))))) (zK1 (x9_5, (a9_5, x9_5.length, c9_5, f9_5)) (Option.some.inj ej1).symm)
          ·
            intro hc_3
            replace ej1 := ifO_f hc_3 ej1
            refine WC.skip ?_
            refine En.block_norm ?_
            exact En.wk _ _ (Sub.cons rfl (Sub.cons rfl (Sub.cons rfl (Sub.cons rfl (Sub.cons rfl (Sub.cons rfl (Sub.nil _))))))) (fun _ h => (((((h).perm (List.perm_middle (l₁ := [_, _, _, _]))).perm (List.perm_middle (l₁ := [_, _, _, _]))).perm (List.perm_middle (l₁ := [_, _, _, _]))).perm (List.perm_middle (l₁ := [_, _, _, _]))).sub (.cons_cons _ (.cons_cons _ (.cons_cons _ (.cons_cons _ (.cons _ (.slnil))))))) (zK1 (out_0, (aout_0, nout_0, cout_0, fout_0)) (Option.some.inj ej1).symm)
      ·
        intro hc_2
        replace zh0 := ifO_f hc_2 zh0
        refine WC.exit ?_
        refine En.then_exit ?_
        refine En.then_exit ?_
        have hx := exitP ze0 zh0
        exact En.wk _ _ (Sub.cons rfl (Sub.cons rfl (Sub.nil _))) (fun _ h => ((((h).perm (List.perm_middle (l₁ := [_, _, _]))).perm (List.perm_middle (l₁ := [_, _, _]))).perm (List.perm_middle (l₁ := [_, _]))).sub (.cons_cons _ (.cons_cons _ (.cons_cons _ (.cons _ (.slnil)))))) (zK0_0 (out_0, (aout_0, nout_0, cout_0, fout_0)) hx.symm)

end Go.Proofs.Ytkojfdgljmhmlaa
