/- Walks: the program computes the pure functions. -/
import Derived.Test.YtmhalmnbgkpmnaaW2
namespace Go.Proofs.Ytmhalmnbgkpmnaa
open Go.RowKit K
set_option maxRecDepth 100000
set_option maxHeartbeats 4000000

theorem w_spec_l03Canon {g_p0 : List Bool} {r : RegionT} {q0_0 : Option Addr} {l0_0 k0_0 : Nat} (h : spec_l03Canon g_p0 = some r) {w : World} (r0_0 : Rd tBool w q0_0 l0_0 k0_0 g_p0)   :
    Calls Try.prog 143 #[.slice q0_0 l0_0 k0_0] w (fun en w' => ∃ rv G, en = .returned rv ∧ (∃ (a0_0 : Option Addr) (n0_0 : Nat) (c0_0 : Nat) (f0_0 : List Nat), rv = .agg #[.slice a0_0 n0_0 c0_0] ∧ G = [Chunk.own tRect f0_0 a0_0 n0_0 c0_0 r.Rects]) ∧ St w G w') := by
 obtain rfl := r0_0.1
 unfold spec_l03Canon at h
 refine enter (vs := [_]) Try.func143 rfl rfl rfl rfl ?_
 refine WC.sr ?_
 refine WL.heavy rfl rfl rfl (OpH.alloc zc_96 ?_)
 intro b0_0
 refine WL.nil (En.next (WC.sr ?_))
 refine sp (OpV.build (evps.nil) bd_96_) ?_
 refine WL.heavy rfl rfl rfl (OpH.alloc zc_96 ?_)
 intro b1_1
 refine WL.heavy0 rfl rfl (OpH.storeTo (A := []) [_] rfl rfl rfl ts_96 rfl rfl rfl ?_)
 refine WL.nil (En.next (WC.seq (WC.sr ?_)))
 refine ag ?_
 refine WL.nil (En.next (WC.block ?_))
 obtain ⟨zy0, ezy0, h⟩ := bnd h
 refine WC.cut (X := ((List RectT)) × ((Option Addr) × Nat × Nat × (List Nat))) (.exit 0) (fun x => zy0 = x.1) (fun x => match x with | (out_0e, (aout_0e, nout_0e, cout_0e, fout_0e)) => [(2, .pointer (some ⟨b0_0, 0, .none⟩)), (3, .pointer (some ⟨b1_1, 0, .none⟩))]) (fun x => match x with | (out_0e, (aout_0e, nout_0e, cout_0e, fout_0e)) => [Chunk.box b0_0 96 [.slice .none 0 0], Chunk.box b1_1 96 [.slice aout_0e nout_0e cout_0e], Chunk.own tRect fout_0e aout_0e nout_0e cout_0e out_0e]) ?_ ?_
 ·
  rintro ⟨out_0e, ⟨aout_0e, nout_0e, cout_0e, fout_0e⟩⟩ hx
  replace hx : out_0e = zy0 := hx.symm
  subst hx
  show En _ _ _ _ [(2, .pointer (some ⟨b0_0, 0, .none⟩)), (3, .pointer (some ⟨b1_1, 0, .none⟩))] [Chunk.box b0_0 96 [.slice .none 0 0], Chunk.box b1_1 96 [.slice aout_0e nout_0e cout_0e], Chunk.own tRect fout_0e aout_0e nout_0e cout_0e out_0e]
  refine En.block_exit (En.next (WC.sr ?_))
  refine sp (OpV.loadAll rfl mq1 ag_96) ?_
  refine WL.heavy0 rfl rfl (OpH.storeTo (A := []) [_] rfl rfl rfl ts_96 rfl rfl rfl ?_)
  refine WL.nil (En.next (WC.ret ?_))
  refine En.ret1 rfl (Res.cell rfl mq0 ag_96) ?_
  obtain rfl := Option.some.inj h
  intro w' hs
  have hs := ((hs).pm 2).sub (.cons_cons _ (.cons _ (.cons _ (.slnil))))
  exact ⟨_, _, rfl, ⟨aout_0e, nout_0e, cout_0e, fout_0e, rfl, rfl⟩, hs⟩
 ·
  intro zK0_0
  refine WC.loopP (G := (Option Addr) × Nat × Nat × (List Nat)) (fun s g => match s, g with | (out_0, y_0), (aout_0, nout_0, cout_0, fout_0) => [(0, .slice q0_0 g_p0.length k0_0), (2, .pointer (some ⟨b0_0, 0, .none⟩)), (3, .pointer (some ⟨b1_1, 0, .none⟩)), (4, .int .i64 y_0)]) (fun s g => match s, g with | (out_0, y_0), (aout_0, nout_0, cout_0, fout_0) => [Chunk.box b0_0 96 [.slice .none 0 0], Chunk.box b1_1 96 [.slice aout_0 nout_0 cout_0], Chunk.own tRect fout_0 aout_0 nout_0 cout_0 out_0]) ([], 0) (.none, 0, 0, []) ezy0 (by exact sc (sc (sc (sc sn)))) (by exact (fun _ h => (((h).ownNil (A := tRect)).pm 1).pm 2)) ?_
  rintro zm0 ⟨out_0, y_0⟩ ⟨aout_0, nout_0, cout_0, fout_0⟩ zo0 zf0 zb0 ze0
  have zh0 : spec_l03Canon_L0 g_p0 out_0 y_0 = some zo0 := zf0
  unfold spec_l03Canon_L0 at zh0
  show WC _ _ _ _ _ [(0, .slice q0_0 g_p0.length k0_0), (2, .pointer (some ⟨b0_0, 0, .none⟩)), (3, .pointer (some ⟨b1_1, 0, .none⟩)), (4, .int .i64 y_0)] [Chunk.box b0_0 96 [.slice .none 0 0], Chunk.box b1_1 96 [.slice aout_0 nout_0 cout_0], Chunk.own tRect fout_0 aout_0 nout_0 cout_0 out_0]
  refine WC.seq (WC.sr ?_)
  refine mv ?_
  refine sp (OpV.lss rfl rfl) ?_
  refine WL.nil (En.next ?_)
  refine WC.cond rfl ?_ ?_
  ·
   intro hc_1
   replace zh0 := ifO_t hc_1 zh0
   refine WC.skip (En.next (WC.block (WC.sr ?_)))
   refine ag ?_
   refine WL.nil (En.next (WC.seq (WC.block ?_)))
   obtain ⟨zy1, ezy1, zh0⟩ := bnd zh0
   refine WC.cut (X := (Int) × (Unit)) (.exit 2) (fun x => zy1 = x.1) (fun x => match x with | (h_1e, ()) => [(0, .slice q0_0 g_p0.length k0_0), (2, .pointer (some ⟨b0_0, 0, .none⟩)), (3, .pointer (some ⟨b1_1, 0, .none⟩)), (4, .int .i64 y_0), (5, .int .i64 h_1e)]) (fun x => match x with | (h_1e, ()) => [Chunk.box b0_0 96 [.slice .none 0 0], Chunk.box b1_1 96 [.slice aout_0 nout_0 cout_0], Chunk.own tRect fout_0 aout_0 nout_0 cout_0 out_0]) ?_ ?_
   ·
    rintro ⟨h_1e, ⟨⟩⟩ hx
    replace hx : h_1e = zy1 := hx.symm
    subst hx
    show En _ _ _ _ [(0, .slice q0_0 g_p0.length k0_0), (2, .pointer (some ⟨b0_0, 0, .none⟩)), (3, .pointer (some ⟨b1_1, 0, .none⟩)), (4, .int .i64 y_0), (5, .int .i64 h_1e)] [Chunk.box b0_0 96 [.slice .none 0 0], Chunk.box b1_1 96 [.slice aout_0 nout_0 cout_0], Chunk.own tRect fout_0 aout_0 nout_0 cout_0 out_0]
    refine En.block_exit (En.next (WC.seq (WC.sr ?_)))
    refine ag ?_
    refine WL.nil (En.next (WC.block ?_))
    obtain ⟨zy2, ezy2, zh0⟩ := bnd zh0
    refine WC.cut (X := ((List RectT)) × ((Option Addr) × Nat × Nat × (List Nat))) (.exit 4) (fun x => zy2 = x.1) (fun x => match x with | (out_2e, (aout_2e, nout_2e, cout_2e, fout_2e)) => [(0, .slice q0_0 g_p0.length k0_0), (2, .pointer (some ⟨b0_0, 0, .none⟩)), (3, .pointer (some ⟨b1_1, 0, .none⟩)), (4, .int .i64 y_0), (5, .int .i64 h_1e)]) (fun x => match x with | (out_2e, (aout_2e, nout_2e, cout_2e, fout_2e)) => [Chunk.box b0_0 96 [.slice .none 0 0], Chunk.box b1_1 96 [.slice aout_2e nout_2e cout_2e], Chunk.own tRect fout_2e aout_2e nout_2e cout_2e out_2e]) ?_ ?_
    ·
     rintro ⟨out_2e, ⟨aout_2e, nout_2e, cout_2e, fout_2e⟩⟩ hx
     replace hx : out_2e = zy2 := hx.symm
     subst hx
     show En _ _ _ _ [(0, .slice q0_0 g_p0.length k0_0), (2, .pointer (some ⟨b0_0, 0, .none⟩)), (3, .pointer (some ⟨b1_1, 0, .none⟩)), (4, .int .i64 y_0), (5, .int .i64 h_1e)] [Chunk.box b0_0 96 [.slice .none 0 0], Chunk.box b1_1 96 [.slice aout_2e nout_2e cout_2e], Chunk.own tRect fout_2e aout_2e nout_2e cout_2e out_2e]
     refine En.block_exit (En.next (WC.region ?_))
     refine mv ?_
     refine mv ?_
     refine sp (OpV.addR rfl rfl) ?_
     refine ag ?_
     refine WL.nil (En.block_norm ?_)
     exact En.backP zb0 zh0 (aout_2e, nout_2e, cout_2e, fout_2e) (sc (sc (sc (sc sn)))) (fun _ h => h)
    ·
     intro zK2_0
     refine WC.loopP (G := (Option Addr) × Nat × Nat × (List Nat)) (fun s g => match s, g with | (out_2, x_2), (aout_2, nout_2, cout_2, fout_2) => [(0, .slice q0_0 g_p0.length k0_0), (2, .pointer (some ⟨b0_0, 0, .none⟩)), (3, .pointer (some ⟨b1_1, 0, .none⟩)), (4, .int .i64 y_0), (5, .int .i64 h_1e), (6, .int .i64 x_2)]) (fun s g => match s, g with | (out_2, x_2), (aout_2, nout_2, cout_2, fout_2) => [Chunk.box b0_0 96 [.slice .none 0 0], Chunk.box b1_1 96 [.slice aout_2 nout_2 cout_2], Chunk.own tRect fout_2 aout_2 nout_2 cout_2 out_2]) (out_0, 0) (aout_0, nout_0, cout_0, fout_0) ezy2 (by exact sc (sc (sc (sc (sc (sc sn)))))) (by exact (fun _ h => h)) ?_
     rintro zm2 ⟨out_2, x_2⟩ ⟨aout_2, nout_2, cout_2, fout_2⟩ zo2 zf2 zb2 ze2
     have zh2 : spec_l03Canon_L2 g_p0 y_0 h_1e out_2 x_2 = some zo2 := zf2
     unfold spec_l03Canon_L2 at zh2
     show WC _ _ _ _ _ [(0, .slice q0_0 g_p0.length k0_0), (2, .pointer (some ⟨b0_0, 0, .none⟩)), (3, .pointer (some ⟨b1_1, 0, .none⟩)), (4, .int .i64 y_0), (5, .int .i64 h_1e), (6, .int .i64 x_2)] [Chunk.box b0_0 96 [.slice .none 0 0], Chunk.box b1_1 96 [.slice aout_2 nout_2 cout_2], Chunk.own tRect fout_2 aout_2 nout_2 cout_2 out_2]
     refine WC.seq (WC.sr ?_)
     refine mv ?_
     refine sp (OpV.lss rfl rfl) ?_
     refine WL.nil (En.next ?_)
     refine WC.cond rfl ?_ ?_
     ·
      intro hc_2
      replace zh2 := ifO_t hc_2 zh2
      refine WC.skip (En.next (WC.block (WC.sr ?_)))
      refine ag ?_
      refine WL.nil (En.next (WC.seq (WC.block ?_)))
      obtain ⟨zy3, ezy3, zh2⟩ := bnd zh2
      refine WC.cut (X := (Int) × (Unit)) (.exit 6) (fun x => zy3 = x.1) (fun x => match x with | (w_3e, ()) => [(0, .slice q0_0 g_p0.length k0_0), (2, .pointer (some ⟨b0_0, 0, .none⟩)), (3, .pointer (some ⟨b1_1, 0, .none⟩)), (4, .int .i64 y_0), (5, .int .i64 h_1e), (6, .int .i64 x_2), (7, .int .i64 w_3e)]) (fun x => match x with | (w_3e, ()) => [Chunk.box b0_0 96 [.slice .none 0 0], Chunk.box b1_1 96 [.slice aout_2 nout_2 cout_2], Chunk.own tRect fout_2 aout_2 nout_2 cout_2 out_2]) ?_ ?_
      ·
       rintro ⟨w_3e, ⟨⟩⟩ hx
       replace hx : w_3e = zy3 := hx.symm
       subst hx
       show En _ _ _ _ [(0, .slice q0_0 g_p0.length k0_0), (2, .pointer (some ⟨b0_0, 0, .none⟩)), (3, .pointer (some ⟨b1_1, 0, .none⟩)), (4, .int .i64 y_0), (5, .int .i64 h_1e), (6, .int .i64 x_2), (7, .int .i64 w_3e)] [Chunk.box b0_0 96 [.slice .none 0 0], Chunk.box b1_1 96 [.slice aout_2 nout_2 cout_2], Chunk.own tRect fout_2 aout_2 nout_2 cout_2 out_2]
       refine En.block_exit (En.next (WC.seq (WC.sr ?_)))
       refine mv ?_
       refine sp (OpV.gtr rfl rfl) ?_
       refine WL.nil (En.next ?_)
       refine WC.cond rfl ?_ ?_
       ·
        intro hc_3
        replace zh2 := ifO_t hc_3 zh2
        obtain ⟨x13_8, e13_8, zh2⟩ := bnd zh2
        refine WC.region ?_
        refine sp (OpV.fieldAddr rfl fo_96_0) ?_
        refine sp (OpV.loadBox rfl pt_94 mq1 rfl) ?_
        refine mv ?_
        refine mv ?_
        refine mv ?_
        refine mv ?_
        refine sp (OpV.build (evps.cons rfl (evps.cons rfl (evps.cons rfl (evps.cons rfl (evps.nil))))) (bd_137_0_1_2_3 _ _ _ _)) ?_
        refine WL.heavy rfl rfl rfl (OpH.litF (A := tRect) (xs := [(RectT.mk x_2 y_0 w_3e h_1e)]) tRect_flat (evps.cons rfl (evps.nil)) (bs_94_1_0 _ _ _ _) rfl rfl (Nat.le_of_ble_eq_true rfl) ?_)
        intro b13_7
        refine WL.heavy rfl rfl rfl (OpH.appS (F := [_, _, _]) (A := tRect) tRect_flat rfl rfl rfl mi_94 rfl (by decide) (fun w hs => (Ow.rd (hs.mem mq0))) e13_8 ?_)
        intro f13_8 a13_8 c13_8
        refine sp (OpV.fieldAddr rfl fo_96_0) ?_
        refine WL.heavy0 rfl rfl (OpH.storeTo (A := [_, _]) [_] rfl rfl rfl ts_94 rfl rfl rfl ?_)
        refine WL.nil (En.next (WC.region ?_))
        refine mv ?_
        refine mv ?_
        refine sp (OpV.addR rfl rfl) ?_
        refine sp (OpV.addR rfl rfl) ?_
        refine ag ?_
        refine WL.nil (En.block_norm ?_)
        exact En.backP zb2 zh2 (a13_8, x13_8.length, c13_8, f13_8) (sc (sc (sc (sc (sc (sc sn)))))) (fun _ h => ((((h).pm 3).pm 3).pm 3).sub (.cons_cons _ (.cons_cons _ (.cons_cons _ (.cons _ (.slnil))))))
       ·
        intro hc_3
        replace zh2 := ifO_f hc_3 zh2
        refine WC.skip (En.next (WC.region ?_))
        refine mv ?_
        refine mv ?_
        refine sp (OpV.addR rfl rfl) ?_
        refine sp (OpV.addR rfl rfl) ?_
        refine ag ?_
        refine WL.nil (En.block_norm ?_)
        exact En.backP zb2 zh2 (aout_2, nout_2, cout_2, fout_2) (sc (sc (sc (sc (sc (sc sn)))))) (fun _ h => h)
      ·
       intro zK3_0
       refine WC.loopP (G := Unit) (fun s g => match s, g with | w_3, () => [(0, .slice q0_0 g_p0.length k0_0), (2, .pointer (some ⟨b0_0, 0, .none⟩)), (3, .pointer (some ⟨b1_1, 0, .none⟩)), (4, .int .i64 y_0), (5, .int .i64 h_1e), (6, .int .i64 x_2), (7, .int .i64 w_3)]) (fun s g => match s, g with | w_3, () => [Chunk.box b0_0 96 [.slice .none 0 0], Chunk.box b1_1 96 [.slice aout_2 nout_2 cout_2], Chunk.own tRect fout_2 aout_2 nout_2 cout_2 out_2]) 0 () ezy3 (by exact sc (sc (sc (sc (sc (sc (sc sn))))))) (by exact (fun _ h => h)) ?_
       rintro zm3 w_3 ⟨⟩ zo3 zf3 zb3 ze3
       have zh3 : spec_l03Canon_L3 g_p0 y_0 x_2 w_3 = some zo3 := zf3
       unfold spec_l03Canon_L3 at zh3
       show WC _ _ _ _ _ [(0, .slice q0_0 g_p0.length k0_0), (2, .pointer (some ⟨b0_0, 0, .none⟩)), (3, .pointer (some ⟨b1_1, 0, .none⟩)), (4, .int .i64 y_0), (5, .int .i64 h_1e), (6, .int .i64 x_2), (7, .int .i64 w_3)] [Chunk.box b0_0 96 [.slice .none 0 0], Chunk.box b1_1 96 [.slice aout_2 nout_2 cout_2], Chunk.own tRect fout_2 aout_2 nout_2 cout_2 out_2]
       refine WC.seq (WC.seq ?_)
       obtain ⟨q10_14, e10_14, zh3⟩ := bnd zh3
       refine WC.region ?_
       refine mv ?_
       refine mv ?_
       refine sp (OpV.addR rfl rfl) ?_
       refine sp (OpV.lss rfl rfl) ?_
       refine mv ?_
       refine Lt.ofWL.andQ 31 41 40 (p := ?pz1) (rest := ?qz1) (B := q10_14) rfl (fun hz => andO_f e10_14 hz) ?Tz1 ?Fz1 ?az1 ?bz1 ?cz1 ?dz1 ?ez1
       case Tz1 =>
        intro hcz1 hkz1
        have hqz1 := andO_t e10_14 hcz1
        obtain ⟨x10_12, e10_12, hqz1⟩ := bnd hqz1
        obtain ⟨g10_12, o10_12, _, ha10_12, rfl, hd10_12⟩ := Rd.atIdx r0_0 e10_12
        replace hd10_12 : ∀ (j : Nat) v, ([.bool x10_12] : List Value)[j]? = some v → w.cell? ⟨g10_12, o10_12 + (wr ((wr ((wr (y_0 * 16)) + x_2)) + w_3)).toNat * 1 + j, .none⟩ = some v := hd10_12
        obtain rfl := Option.some.inj hqz1
        refine mv ?_
        refine mv ?_
        refine sp (OpV.mulR rfl rfl) ?_
        refine mv ?_
        refine sp (OpV.addR rfl rfl) ?_
        refine mv ?_
        refine sp (OpV.addR rfl rfl) ?_
        refine sp (OpV.idxA rfl rfl se_162 ha10_12 ⟨(idx_some e10_12).1, (idx_some e10_12).2.1⟩) ?_
        refine sp (OpV.load1 rfl pt_4 (fun w hs => hs.cell (hd10_12 0 _ rfl))) ?_
        refine hkz1 _ ?_ ?_
        exact rfl
        repeat (first | exact Sub.refl _ | refine Sub.skip rfl ?_)
       case Fz1 =>
        intro hcz1 hkz1
        refine sk ?_
        refine sk ?_
        refine sk ?_
        refine sk ?_
        refine sk ?_
        refine sk ?_
        refine sk ?_
        refine sk ?_
        refine sk ?_
        refine hkz1 _ ?_
        repeat (first | exact Sub.refl _ | refine Sub.skip rfl ?_)
       case az1 => exact rfl
       case bz1 => exact rfl
       case cz1 => exact rfl
       case dz1 => exact rfl
       refine WL.nil (En.next ?_)
       refine WC.cond rfl ?_ ?_
       ·
        intro hc_4
        replace zh3 := ifO_t hc_4 zh3
        refine WC.skip (En.next (WC.block (WC.region ?_)))
        refine mv ?_
        refine sp (OpV.addR rfl rfl) ?_
        refine ag ?_
        refine WL.nil (En.block_norm ?_)
        exact En.backP zb3 zh3 () (sc (sc (sc (sc (sc (sc (sc sn))))))) (fun _ h => h)
       ·
        intro hc_4
        replace zh3 := ifO_f hc_4 zh3
        refine WC.exit (En.then_exit (En.then_exit ?_))
        have hx := exitP ze3 zh3
        exact En.wk _ _ (sc (sc (sc (sc (sc (sc (sc sn))))))) (fun _ h => h) (zK3_0 (w_3, ()) hx.symm)
     ·
      intro hc_2
      replace zh2 := ifO_f hc_2 zh2
      refine WC.exit (En.then_exit (En.then_exit ?_))
      have hx := exitP ze2 zh2
      exact En.wk _ _ (sc (sc (sc (sc (sc sn))))) (fun _ h => h) (zK2_0 (out_2, (aout_2, nout_2, cout_2, fout_2)) hx.symm)
   ·
    intro zK1_0
    refine WC.loopP (G := Unit) (fun s g => match s, g with | h_1, () => [(0, .slice q0_0 g_p0.length k0_0), (2, .pointer (some ⟨b0_0, 0, .none⟩)), (3, .pointer (some ⟨b1_1, 0, .none⟩)), (4, .int .i64 y_0), (5, .int .i64 h_1)]) (fun s g => match s, g with | h_1, () => [Chunk.box b0_0 96 [.slice .none 0 0], Chunk.box b1_1 96 [.slice aout_0 nout_0 cout_0], Chunk.own tRect fout_0 aout_0 nout_0 cout_0 out_0]) 1 () ezy1 (by exact sc (sc (sc (sc (sc sn))))) (by exact (fun _ h => h)) ?_
    rintro zm1 h_1 ⟨⟩ zo1 zf1 zb1 ze1
    have zh1 : spec_l03Canon_L1 g_p0 y_0 h_1 = some zo1 := zf1
    unfold spec_l03Canon_L1 at zh1
    show WC _ _ _ _ _ [(0, .slice q0_0 g_p0.length k0_0), (2, .pointer (some ⟨b0_0, 0, .none⟩)), (3, .pointer (some ⟨b1_1, 0, .none⟩)), (4, .int .i64 y_0), (5, .int .i64 h_1)] [Chunk.box b0_0 96 [.slice .none 0 0], Chunk.box b1_1 96 [.slice aout_0 nout_0 cout_0], Chunk.own tRect fout_0 aout_0 nout_0 cout_0 out_0]
    refine WC.seq (WC.seq ?_)
    obtain ⟨q5_11, e5_11, zh1⟩ := bnd zh1
    refine WC.region ?_
    refine mv ?_
    refine mv ?_
    refine sp (OpV.addR rfl rfl) ?_
    refine sp (OpV.lss rfl rfl) ?_
    refine mv ?_
    refine Lt.ofWL.andQ 15 22 21 (p := ?pz2) (rest := ?qz2) (B := q5_11) rfl (fun hz => andO_f e5_11 hz) ?Tz2 ?Fz2 ?az2 ?bz2 ?cz2 ?dz2 ?ez2
    case Tz2 =>
     intro hcz2 hkz2
     have hqz2 := andO_t e5_11 hcz2
     obtain ⟨x5_10, e5_10, hqz2⟩ := bnd hqz2
     obtain rfl := Option.some.inj hqz2
     refine mv ?_
     refine mv ?_
     refine mv ?_
     refine mv ?_
     refine sp (OpV.addR rfl rfl) ?_
     refine sp (OpV.call (ec rfl (ec rfl (ec rfl e0))) ca_171 (fun w hs => w_spec_l03Row e5_10 (r0_0.ext hs.below))) ?_
     refine hkz2 _ ?_ ?_
     exact rfl
     repeat (first | exact Sub.refl _ | refine Sub.skip rfl ?_)
    case Fz2 =>
     intro hcz2 hkz2
     refine sk ?_
     refine sk ?_
     refine sk ?_
     refine sk ?_
     refine sk ?_
     refine sk ?_
     refine hkz2 _ ?_
     repeat (first | exact Sub.refl _ | refine Sub.skip rfl ?_)
    case az2 => exact rfl
    case bz2 => exact rfl
    case cz2 => exact rfl
    case dz2 => exact rfl
    refine WL.nil (En.next ?_)
    refine WC.cond rfl ?_ ?_
    ·
     intro hc_5
     replace zh1 := ifO_t hc_5 zh1
     refine WC.skip (En.next (WC.block (WC.region ?_)))
     refine mv ?_
     refine sp (OpV.addR rfl rfl) ?_
     refine ag ?_
     refine WL.nil (En.block_norm ?_)
     exact En.backP zb1 zh1 () (sc (sc (sc (sc (sc sn))))) (fun _ h => h)
    ·
     intro hc_5
     replace zh1 := ifO_f hc_5 zh1
     refine WC.exit (En.then_exit (En.then_exit ?_))
     have hx := exitP ze1 zh1
     exact En.wk _ _ (sc (sc (sc (sc (sc sn))))) (fun _ h => h) (zK1_0 (h_1, ()) hx.symm)
  ·
   intro hc_1
   replace zh0 := ifO_f hc_1 zh0
   refine WC.exit (En.then_exit (En.then_exit ?_))
   have hx := exitP ze0 zh0
   exact En.wk _ _ (sc (sc sn)) (fun _ h => h) (zK0_0 (out_0, (aout_0, nout_0, cout_0, fout_0)) hx.symm)

theorem w_spec_RegionOf {list_p0 : List RectT} {r : RegionT} {q0_0 : Option Addr} {l0_0 k0_0 : Nat} (h : spec_RegionOf list_p0 = some r) {w : World} (r0_0 : Rd tRect w q0_0 l0_0 k0_0 list_p0)   :
    Calls Try.prog 103 #[.slice q0_0 l0_0 k0_0] w (fun en w' => ∃ rv G, en = .returned rv ∧ (∃ (a0_0 : Option Addr) (n0_0 : Nat) (c0_0 : Nat) (f0_0 : List Nat), rv = .agg #[.slice a0_0 n0_0 c0_0] ∧ G = [Chunk.own tRect f0_0 a0_0 n0_0 c0_0 r.Rects]) ∧ St w G w') := by
 obtain rfl := r0_0.1
 unfold spec_RegionOf at h
 refine enter (vs := [_]) Try.func103 rfl rfl rfl rfl ?_
 refine WC.sr ?_
 refine WL.heavy rfl rfl rfl (OpH.alloc zc_96 ?_)
 intro b0_0
 refine WL.nil (En.next (WC.seq ?_))
 obtain ⟨x1_1, e1_1, h⟩ := bnd h
 obtain ⟨x1_2, e1_2, h⟩ := bnd h
 refine WC.region ?_
 refine mv ?_
 refine WL.heavy rfl rfl rfl (OpH.callR (ec rfl e0) ca_144 (fun w hs => w_spec_l03Grid e1_1 (r0_0.ext hs.below)) ?_)
 rintro _ _ ⟨a1_100, n1_100, c1_100, f1_100, rfl, rfl⟩
 refine WL.heavy rfl rfl rfl (OpH.callR (ec rfl e0) ca_143 (fun w hs => w_spec_l03Canon e1_2 (Ow.rd (hs.mem mq0))) ?_)
 rintro _ _ ⟨a1_200, n1_200, c1_200, f1_200, rfl, rfl⟩
 refine WL.heavy0 rfl rfl (OpH.storeTo (A := [_, _]) [_] rfl rfl rfl ts_96 rfl rfl rfl ?_)
 refine WL.nil (En.next (WC.ret ?_))
 refine En.ret1 rfl (Res.cell rfl mq2 ag_96) ?_
 obtain rfl := Option.some.inj h
 intro w' hs
 have hs := (hs).sub (.cons_cons _ (.cons _ (.cons _ (.slnil))))
 exact ⟨_, _, rfl, ⟨a1_200, n1_200, c1_200, f1_200, rfl, rfl⟩, hs⟩

theorem w_spec_OrientSize {w_p0 : Int} {h_p1 : Int} {o_p2 : Int} {r : Int × Int}  (h : spec_OrientSize w_p0 h_p1 o_p2 = some r) {w : World}    :
    Calls Try.prog 145 #[.int .i64 w_p0, .int .i64 h_p1, .int .i64 o_p2] w (fun en w' => en = .returned (.tuple #[.int .i64 r.1, .int .i64 r.2]) ∧ Ext w w') := by
 unfold spec_OrientSize at h
 refine enter (vs := [_, _, _]) Try.func145 rfl rfl rfl rfl ?_
 refine WC.sr ?_
 refine ag ?_
 refine ag ?_
 refine WL.nil (En.next (WC.seq (WC.seq ?_)))
 obtain ⟨x1_1, e1_1, h⟩ := bnd h
 obtain ⟨q1_7, e1_7, h⟩ := bnd h
 obtain ⟨q1_12, e1_12, h⟩ := bnd h
 refine WC.region ?_
 refine mv ?_
 refine sp (OpV.call (ec rfl (ec rfl (ec rfl e0))) ca_84 (fun w hs => w_spec_l01In e1_1)) ?_
 refine sp (OpV.not rfl) ?_
 refine mv ?_
 refine Lt.ofWL.orQ 11 15 14 (p := ?pz1) (rest := ?qz1) (B := q1_7) rfl (fun hz => orO_t e1_7 hz) ?Tz1 ?Fz1 ?az1 ?bz1 ?cz1 ?dz1 ?ez1
 case Tz1 =>
  intro hcz1 hkz1
  refine sk ?_
  refine sk ?_
  refine sk ?_
  refine hkz1 _ ?_
  repeat (first | exact Sub.refl _ | refine Sub.skip rfl ?_)
 case Fz1 =>
  intro hcz1 hkz1
  have hqz1 := orO_f e1_7 hcz1
  obtain ⟨x1_5, e1_5, hqz1⟩ := bnd hqz1
  obtain rfl := Option.some.inj hqz1
  refine mv ?_
  refine sp (OpV.call (ec rfl (ec rfl (ec rfl e0))) ca_84 (fun w hs => w_spec_l01In e1_5)) ?_
  refine sp (OpV.not rfl) ?_
  refine hkz1 _ ?_ ?_
  exact rfl
  repeat (first | exact Sub.refl _ | refine Sub.skip rfl ?_)
 case az1 => exact rfl
 case bz1 => exact rfl
 case cz1 => exact rfl
 case dz1 => exact rfl
 refine mv ?_
 refine Lt.ofWL.orQ 16 20 19 (p := ?pz2) (rest := ?qz2) (B := q1_12) rfl (fun hz => orO_t e1_12 hz) ?Tz2 ?Fz2 ?az2 ?bz2 ?cz2 ?dz2 ?ez2
 case Tz2 =>
  intro hcz2 hkz2
  refine sk ?_
  refine sk ?_
  refine sk ?_
  refine hkz2 _ ?_
  repeat (first | exact Sub.refl _ | refine Sub.skip rfl ?_)
 case Fz2 =>
  intro hcz2 hkz2
  have hqz2 := orO_f e1_12 hcz2
  obtain ⟨x1_10, e1_10, hqz2⟩ := bnd hqz2
  obtain rfl := Option.some.inj hqz2
  refine mv ?_
  refine sp (OpV.call (ec rfl (ec rfl (ec rfl e0))) ca_84 (fun w hs => w_spec_l01In e1_10)) ?_
  refine sp (OpV.not rfl) ?_
  refine hkz2 _ ?_ ?_
  exact rfl
  repeat (first | exact Sub.refl _ | refine Sub.skip rfl ?_)
 case az2 => exact rfl
 case bz2 => exact rfl
 case cz2 => exact rfl
 case dz2 => exact rfl
 refine WL.nil (En.next ?_)
 refine WC.cond rfl ?_ ?_
 ·
  intro hc_1
  replace h := ifO_t hc_1 h
  refine WC.sr ?_
  refine ag ?_
  refine ag ?_
  refine WL.nil (En.next (WC.ret (En.then_ret ?_)))
  refine En.ret2 rfl (Res.tmp rfl) (Res.tmp rfl) ?_
  obtain rfl := Option.some.inj h
  intro w' hs
  exact ⟨rfl, hs.below⟩
 ·
  intro hc_1
  replace h := ifO_f hc_1 h
  refine WC.skip (En.next (WC.seq (WC.sr ?_)))
  refine mv ?_
  refine sp (OpV.remR rfl rfl rfl) ?_
  refine sp (OpV.eql rfl rfl) ?_
  refine WL.nil (En.next ?_)
  refine WC.cond rfl ?_ ?_
  ·
   intro hc_2
   replace h := ifO_t hc_2 h
   refine WC.sr ?_
   refine mv ?_
   refine mv ?_
   refine ag ?_
   refine ag ?_
   refine WL.nil (En.next (WC.ret (En.then_ret ?_)))
   refine En.ret2 rfl (Res.tmp rfl) (Res.tmp rfl) ?_
   obtain rfl := Option.some.inj h
   intro w' hs
   exact ⟨rfl, hs.below⟩
  ·
   intro hc_2
   replace h := ifO_f hc_2 h
   refine WC.skip (En.next (WC.sr ?_))
   refine mv ?_
   refine mv ?_
   refine ag ?_
   refine ag ?_
   refine WL.nil (En.next (WC.ret ?_))
   refine En.ret2 rfl (Res.tmp rfl) (Res.tmp rfl) ?_
   obtain rfl := Option.some.inj h
   intro w' hs
   exact ⟨rfl, hs.below⟩

theorem w_spec_SurfaceRect {s_p0 : SurfaceT} {r : RectT} {q0_0 : Option Addr} {l0_0 k0_0 : Nat} (h : spec_SurfaceRect s_p0 = some r) {w : World} (r0_0 : Rd tInt w q0_0 l0_0 k0_0 s_p0.Buffer.Data)   :
    Calls Try.prog 104 #[.agg #[.int .i64 s_p0.Id, .int .i64 s_p0.X, .int .i64 s_p0.Y, .int .i64 s_p0.W, .int .i64 s_p0.H, .int .i64 s_p0.Alpha, .int .i64 s_p0.Orient, .bool s_p0.Visible, .int .i64 s_p0.Buffer.W, .int .i64 s_p0.Buffer.H, .slice q0_0 l0_0 k0_0]] w (fun en w' => en = .returned (.agg #[.int .i64 r.X, .int .i64 r.Y, .int .i64 r.W, .int .i64 r.H]) ∧ Ext w w') := by
 obtain rfl := r0_0.1
 unfold spec_SurfaceRect at h
 refine enter (vs := [_]) Try.func104 rfl rfl rfl rfl ?_
 refine WC.sr ?_
 refine WL.heavy rfl rfl rfl (OpH.box rfl rfl ?_)
 intro b0_0
 refine WL.heavy rfl rfl rfl (OpH.alloc zc_137 ?_)
 intro b0_1
 refine WL.nil (En.next (WC.seq (WC.seq ?_)))
 obtain ⟨x1_1, e1_1, h⟩ := bnd h
 refine WC.region ?_
 refine sp (OpV.loadAll rfl mq1 ag_73) ?_
 refine sp (OpV.call (ec rfl e0) ca_139 (fun w hs => w_spec_SurfaceOk e1_1 (r0_0.ext hs.below))) ?_
 refine sp (OpV.not rfl) ?_
 refine mv ?_
 refine Lt.ofWL.or 8 12 11 (p := ?pz1) (rest := ?qz1) (B := ?Bz1) rfl ?Tz1 ?Fz1 ?az1 ?bz1 ?cz1 ?dz1 ?ez1
 case Tz1 =>
  intro hcz1 hkz1
  refine sk ?_
  refine sk ?_
  refine sk ?_
  refine hkz1 _ ?_
  repeat (first | exact Sub.refl _ | refine Sub.skip rfl ?_)
 case Fz1 =>
  intro hcz1 hkz1
  refine sp (OpV.fieldAddr rfl fo_73_7) ?_
  refine sp (OpV.loadBox rfl pt_4 mq1 rfl) ?_
  refine sp (OpV.not rfl) ?_
  refine hkz1 _ ?_ ?_
  exact rfl
  repeat (first | exact Sub.refl _ | refine Sub.skip rfl ?_)
 case az1 => exact rfl
 case bz1 => exact rfl
 case cz1 => exact rfl
 case dz1 => exact rfl
 refine WL.nil (En.next ?_)
 refine WC.cond rfl ?_ ?_
 ·
  intro hc_1
  replace h := ifO_t hc_1 h
  refine WC.sr ?_
  refine sp (OpV.build (evps.nil) bd_137_) ?_
  refine WL.heavy0 rfl rfl (OpH.storeTo (A := []) [_, _, _, _] rfl rfl rfl ts_137 rfl rfl rfl ?_)
  refine WL.nil (En.next (WC.ret (En.then_ret ?_)))
  refine En.ret1 rfl (Res.cell rfl mq0 ag_137) ?_
  obtain rfl := Option.some.inj h
  intro w' hs
  exact ⟨rfl, hs.below⟩
 ·
  intro hc_1
  replace h := ifO_f hc_1 h
  refine WC.skip (En.next (WC.seq ?_))
  obtain ⟨⟨x3_8a, x3_8b⟩, e3_8, h⟩ := bnd h
  refine WC.region ?_
  refine sp (OpV.fieldAddr rfl fo_73_8) ?_
  refine sp (OpV.fieldAddr rfl fo_71_0) ?_
  refine sp (OpV.loadBox rfl pt_3 mq1 rfl) ?_
  refine sp (OpV.fieldAddr rfl fo_73_8) ?_
  refine sp (OpV.fieldAddr rfl fo_71_1) ?_
  refine sp (OpV.loadBox rfl pt_3 mq1 rfl) ?_
  refine sp (OpV.fieldAddr rfl fo_73_6) ?_
  refine sp (OpV.loadBox rfl pt_3 mq1 rfl) ?_
  refine sp (OpV.call (ec rfl (ec rfl (ec rfl e0))) ca_145 (fun w hs => w_spec_OrientSize e3_8)) ?_
  refine mv ?_
  refine sp (OpV.extract rfl rfl) ?_
  refine sp (OpV.extract rfl rfl) ?_
  refine ag ?_
  refine ag ?_
  refine WL.nil (En.next (WC.seq (WC.sr ?_)))
  refine sp (OpV.fieldAddr rfl fo_73_3) ?_
  refine sp (OpV.loadBox rfl pt_3 mq1 rfl) ?_
  refine sp (OpV.gtr rfl rfl) ?_
  refine WL.nil (En.next ?_)
  refine WC.cond rfl ?_ ?_
  ·
   intro hc_2
   replace h := ifO_t hc_2 h
   refine WC.sr ?_
   refine sp (OpV.fieldAddr rfl fo_73_3) ?_
   refine sp (OpV.loadBox rfl pt_3 mq1 rfl) ?_
   refine ag ?_
   refine WL.nil (En.next (WC.region ?_))
   refine sp (OpV.fieldAddr rfl fo_73_4) ?_
   refine sp (OpV.loadBox rfl pt_3 mq1 rfl) ?_
   refine ag ?_
   refine WL.nil (En.next (WC.sr ?_))
   refine sp (OpV.fieldAddr rfl fo_73_1) ?_
   refine sp (OpV.loadBox rfl pt_3 mq1 rfl) ?_
   refine sp (OpV.fieldAddr rfl fo_73_2) ?_
   refine sp (OpV.loadBox rfl pt_3 mq1 rfl) ?_
   refine mv ?_
   refine mv ?_
   refine sp (OpV.build (evps.cons rfl (evps.cons rfl (evps.cons rfl (evps.cons rfl (evps.nil))))) (bd_137_0_1_2_3 _ _ _ _)) ?_
   refine WL.heavy0 rfl rfl (OpH.storeTo (A := []) [_, _, _, _] rfl rfl rfl ts_137 rfl rfl rfl ?_)
   refine WL.nil (En.next (WC.ret ?_))
   refine En.ret1 rfl (Res.cell rfl mq0 ag_137) ?_
   obtain rfl := Option.some.inj h
   intro w' hs
   exact ⟨rfl, hs.below⟩
  ·
   intro hc_2
   replace h := ifO_f hc_2 h
   refine WC.skip (En.next (WC.sr ?_))
   refine sp (OpV.fieldAddr rfl fo_73_1) ?_
   refine sp (OpV.loadBox rfl pt_3 mq1 rfl) ?_
   refine sp (OpV.fieldAddr rfl fo_73_2) ?_
   refine sp (OpV.loadBox rfl pt_3 mq1 rfl) ?_
   refine mv ?_
   refine mv ?_
   refine sp (OpV.build (evps.cons rfl (evps.cons rfl (evps.cons rfl (evps.cons rfl (evps.nil))))) (bd_137_0_1_2_3 _ _ _ _)) ?_
   refine WL.heavy0 rfl rfl (OpH.storeTo (A := []) [_, _, _, _] rfl rfl rfl ts_137 rfl rfl rfl ?_)
   refine WL.nil (En.next (WC.ret ?_))
   refine En.ret1 rfl (Res.cell rfl mq0 ag_137) ?_
   obtain rfl := Option.some.inj h
   intro w' hs
   exact ⟨rfl, hs.below⟩

theorem w_spec_DamageOf {a_p0 : SceneT} {a_p1 : SceneT} {r : RegionT} {q0_0 : Option Addr} {l0_0 k0_0 : Nat} {q1_0 : Option Addr} {l1_0 k1_0 : Nat} (h : spec_DamageOf a_p0 a_p1 = some r) {w : World} (r0_0 : Rd tSurface w q0_0 l0_0 k0_0 a_p0.Surfaces) (r1_0 : Rd tSurface w q1_0 l1_0 k1_0 a_p1.Surfaces)   :
    Calls Try.prog 50 #[.agg #[.int .i64 a_p0.W, .int .i64 a_p0.H, .int .i64 a_p0.Back, .slice q0_0 l0_0 k0_0], .agg #[.int .i64 a_p1.W, .int .i64 a_p1.H, .int .i64 a_p1.Back, .slice q1_0 l1_0 k1_0]] w (fun en w' => ∃ rv G, en = .returned rv ∧ (∃ (a0_0 : Option Addr) (n0_0 : Nat) (c0_0 : Nat) (f0_0 : List Nat), rv = .agg #[.slice a0_0 n0_0 c0_0] ∧ G = [Chunk.own tRect f0_0 a0_0 n0_0 c0_0 r.Rects]) ∧ St w G w') := by
 obtain rfl := r0_0.1
 obtain rfl := r1_0.1
 unfold spec_DamageOf at h
 refine enter (vs := [_, _]) Try.func50 rfl rfl rfl rfl ?_
 refine WC.sr ?_
 refine WL.heavy rfl rfl rfl (OpH.box rfl rfl ?_)
 intro b0_0
 refine WL.heavy rfl rfl rfl (OpH.box rfl rfl ?_)
 intro b0_1
 refine WL.heavy rfl rfl rfl (OpH.alloc zc_96 ?_)
 intro b0_2
 refine WL.nil (En.next (WC.seq (WC.seq ?_)))
 obtain ⟨x1_1, e1_1, h⟩ := bnd h
 obtain ⟨q1_7, e1_7, h⟩ := bnd h
 refine WC.region ?_
 refine sp (OpV.loadAll rfl mq2 ag_62) ?_
 refine sp (OpV.call (ec rfl e0) ca_96 (fun w hs => w_spec_SceneOk e1_1 (r0_0.ext hs.below))) ?_
 refine sp (OpV.not rfl) ?_
 refine mv ?_
 refine Lt.ofWL.orQ 17 21 20 (p := ?pz1) (rest := ?qz1) (B := q1_7) rfl (fun hz => orO_t e1_7 hz) ?Tz1 ?Fz1 ?az1 ?bz1 ?cz1 ?dz1 ?ez1
 case Tz1 =>
  intro hcz1 hkz1
  refine sk ?_
  refine sk ?_
  refine sk ?_
  refine hkz1 _ ?_
  repeat (first | exact Sub.refl _ | refine Sub.skip rfl ?_)
 case Fz1 =>
  intro hcz1 hkz1
  have hqz1 := orO_f e1_7 hcz1
  obtain ⟨x1_5, e1_5, hqz1⟩ := bnd hqz1
  obtain rfl := Option.some.inj hqz1
  refine sp (OpV.loadAll rfl mq1 ag_62) ?_
  refine sp (OpV.call (ec rfl e0) ca_96 (fun w hs => w_spec_SceneOk e1_5 (r1_0.ext hs.below))) ?_
  refine sp (OpV.not rfl) ?_
  refine hkz1 _ ?_ ?_
  exact rfl
  repeat (first | exact Sub.refl _ | refine Sub.skip rfl ?_)
 case az1 => exact rfl
 case bz1 => exact rfl
 case cz1 => exact rfl
 case dz1 => exact rfl
 refine WL.nil (En.next ?_)
 refine WC.cond rfl ?_ ?_
 ·
  intro hc_1
  replace h := ifO_t hc_1 h
  refine WC.sr ?_
  refine sp (OpV.build (evps.nil) bd_96_) ?_
  refine WL.heavy0 rfl rfl (OpH.storeTo (A := []) [_] rfl rfl rfl ts_96 rfl rfl rfl ?_)
  refine WL.nil (En.next (WC.ret (En.then_ret ?_)))
  refine En.ret1 rfl (Res.cell rfl mq0 ag_96) ?_
  obtain rfl := Option.some.inj h
  intro w' hs
  have hs := ((hs).ownNil (A := tRect)).sub (.cons_cons _ (.cons _ (.cons _ (.cons _ (.slnil)))))
  exact ⟨_, _, rfl, ⟨.none, 0, 0, [], rfl, rfl⟩, hs⟩
 ·
  intro hc_1
  replace h := ifO_f hc_1 h
  refine WC.skip (En.next (WC.sr ?_))
  refine sp (OpV.fieldAddr rfl fo_62_0) ?_
  refine sp (OpV.loadBox rfl pt_3 mq1 rfl) ?_
  refine sp (OpV.fieldAddr rfl fo_62_1) ?_
  refine sp (OpV.loadBox rfl pt_3 mq1 rfl) ?_
  refine sp (OpV.build (evps.cons rfl (evps.cons rfl (evps.nil))) (bd_137_2_3 _ _)) ?_
  refine WL.heavy rfl rfl rfl (OpH.alloc zc_137 ?_)
  intro b3_5
  refine WL.heavy0 rfl rfl (OpH.storeTo (A := []) [_, _, _, _] rfl rfl rfl ts_137 rfl rfl rfl ?_)
  refine WL.nil (En.next (WC.seq (WC.sr ?_)))
  refine sp (OpV.fieldAddr rfl fo_62_0) ?_
  refine sp (OpV.loadBox rfl pt_3 mq3 rfl) ?_
  refine sp (OpV.fieldAddr rfl fo_62_0) ?_
  refine sp (OpV.loadBox rfl pt_3 mq2 rfl) ?_
  refine sp (OpV.neq rfl rfl) ?_
  refine mv ?_
  refine Lt.ofWL.or 33 39 38 (p := ?pz2) (rest := ?qz2) (B := ?Bz2) rfl ?Tz2 ?Fz2 ?az2 ?bz2 ?cz2 ?dz2 ?ez2
  case Tz2 =>
   intro hcz2 hkz2
   refine sk ?_
   refine sk ?_
   refine sk ?_
   refine sk ?_
   refine sk ?_
   refine hkz2 _ ?_
   repeat (first | exact Sub.refl _ | refine Sub.skip rfl ?_)
  case Fz2 =>
   intro hcz2 hkz2
   refine sp (OpV.fieldAddr rfl fo_62_1) ?_
   refine sp (OpV.loadBox rfl pt_3 mq3 rfl) ?_
   refine sp (OpV.fieldAddr rfl fo_62_1) ?_
   refine sp (OpV.loadBox rfl pt_3 mq2 rfl) ?_
   refine sp (OpV.neq rfl rfl) ?_
   refine hkz2 _ ?_ ?_
   exact rfl
   repeat (first | exact Sub.refl _ | refine Sub.skip rfl ?_)
  case az2 => exact rfl
  case bz2 => exact rfl
  case cz2 => exact rfl
  case dz2 => exact rfl
  refine mv ?_
  refine Lt.ofWL.or 40 46 45 (p := ?pz3) (rest := ?qz3) (B := ?Bz3) rfl ?Tz3 ?Fz3 ?az3 ?bz3 ?cz3 ?dz3 ?ez3
  case Tz3 =>
   intro hcz3 hkz3
   refine sk ?_
   refine sk ?_
   refine sk ?_
   refine sk ?_
   refine sk ?_
   refine hkz3 _ ?_
   repeat (first | exact Sub.refl _ | refine Sub.skip rfl ?_)
  case Fz3 =>
   intro hcz3 hkz3
   refine sp (OpV.fieldAddr rfl fo_62_2) ?_
   refine sp (OpV.loadBox rfl pt_3 mq3 rfl) ?_
   refine sp (OpV.fieldAddr rfl fo_62_2) ?_
   refine sp (OpV.loadBox rfl pt_3 mq2 rfl) ?_
   refine sp (OpV.neq rfl rfl) ?_
   refine hkz3 _ ?_ ?_
   exact rfl
   repeat (first | exact Sub.refl _ | refine Sub.skip rfl ?_)
  case az3 => exact rfl
  case bz3 => exact rfl
  case cz3 => exact rfl
  case dz3 => exact rfl
  refine WL.nil (En.next ?_)
  refine WC.cond rfl ?_ ?_
  ·
   intro hc_2
   replace h := ifO_t hc_2 h
   refine WC.seq ?_
   obtain ⟨x5_2, e5_2, h⟩ := bnd h
   refine WC.region ?_
   refine sp (OpV.loadAll rfl mq0 ag_137) ?_
   refine WL.heavy rfl rfl rfl (OpH.litF (A := tRect) (xs := [(RectT.mk 0 0 a_p1.W a_p1.H)]) tRect_flat (evps.cons rfl (evps.nil)) (bs_94_1_0 _ _ _ _) rfl rfl (Nat.le_of_ble_eq_true rfl) ?_)
   intro b5_1
   refine WL.heavy rfl rfl rfl (OpH.callR (ec rfl e0) ca_103 (fun w hs => w_spec_RegionOf e5_2 (Ow.rd (hs.mem mq0))) ?_)
   rintro _ _ ⟨a5_200, n5_200, c5_200, f5_200, rfl, rfl⟩
   refine WL.heavy0 rfl rfl (OpH.storeTo (A := [_, _, _]) [_] rfl rfl rfl ts_96 rfl rfl rfl ?_)
   refine WL.nil (En.next (WC.ret (En.then_ret ?_)))
   refine En.ret1 rfl (Res.cell rfl mq3 ag_96) ?_
   obtain rfl := Option.some.inj h
   intro w' hs
   have hs := (hs).sub (.cons_cons _ (.cons _ (.cons _ (.cons _ (.cons _ (.cons _ (.slnil)))))))
   exact ⟨_, _, rfl, ⟨a5_200, n5_200, c5_200, f5_200, rfl, rfl⟩, hs⟩
  ·
   intro hc_2
   replace h := ifO_f hc_2 h
   refine WC.skip (En.next (WC.sr ?_))
   refine WL.heavy rfl rfl rfl (OpH.lit0 (A := tRect) (evps.nil) bs_94_0_ ?_)
   intro b6_0
   refine ag ?_
   refine WL.nil (En.next (WC.seq (WC.sr ?_)))
   refine ag ?_
   refine WL.nil (En.next (WC.block ?_))
   obtain ⟨zy0, ezy0, h⟩ := bnd h
   refine WC.cut (X := ((List RectT)) × ((Option Addr) × Nat × Nat × (List Nat))) (.exit 0) (fun x => zy0 = x.1) (fun x => match x with | (v_0e, (av_0e, nv_0e, cv_0e, fv_0e)) => [(2, .pointer (some ⟨b0_0, 0, .none⟩)), (3, .pointer (some ⟨b0_1, 0, .none⟩)), (4, .pointer (some ⟨b0_2, 0, .none⟩)), (5, .pointer (some ⟨b3_5, 0, .none⟩)), (6, .slice av_0e nv_0e cv_0e)]) (fun x => match x with | (v_0e, (av_0e, nv_0e, cv_0e, fv_0e)) => [Chunk.box b0_0 62 [.int .i64 a_p0.W, .int .i64 a_p0.H, .int .i64 a_p0.Back, .slice q0_0 a_p0.Surfaces.length k0_0], Chunk.box b0_1 62 [.int .i64 a_p1.W, .int .i64 a_p1.H, .int .i64 a_p1.Back, .slice q1_0 a_p1.Surfaces.length k1_0], Chunk.box b0_2 96 [.slice .none 0 0], Chunk.box b3_5 137 [.int .i64 0, .int .i64 0, .int .i64 a_p1.W, .int .i64 a_p1.H], Chunk.own tRect fv_0e av_0e nv_0e cv_0e v_0e]) ?_ ?_
   ·
    rintro ⟨v_0e, ⟨av_0e, nv_0e, cv_0e, fv_0e⟩⟩ hx
    replace hx : v_0e = zy0 := hx.symm
    subst hx
    show En _ _ _ _ [(2, .pointer (some ⟨b0_0, 0, .none⟩)), (3, .pointer (some ⟨b0_1, 0, .none⟩)), (4, .pointer (some ⟨b0_2, 0, .none⟩)), (5, .pointer (some ⟨b3_5, 0, .none⟩)), (6, .slice av_0e nv_0e cv_0e)] [Chunk.box b0_0 62 [.int .i64 a_p0.W, .int .i64 a_p0.H, .int .i64 a_p0.Back, .slice q0_0 a_p0.Surfaces.length k0_0], Chunk.box b0_1 62 [.int .i64 a_p1.W, .int .i64 a_p1.H, .int .i64 a_p1.Back, .slice q1_0 a_p1.Surfaces.length k1_0], Chunk.box b0_2 96 [.slice .none 0 0], Chunk.box b3_5 137 [.int .i64 0, .int .i64 0, .int .i64 a_p1.W, .int .i64 a_p1.H], Chunk.own tRect fv_0e av_0e nv_0e cv_0e v_0e]
    refine En.block_exit (En.next (WC.seq (WC.sr ?_)))
    refine ag ?_
    refine WL.nil (En.next (WC.block ?_))
    obtain ⟨zy1, ezy1, h⟩ := bnd h
    refine WC.cut (X := ((List RectT)) × ((Option Addr) × Nat × Nat × (List Nat))) (.exit 2) (fun x => zy1 = x.1) (fun x => match x with | (v_1e, (av_1e, nv_1e, cv_1e, fv_1e)) => [(4, .pointer (some ⟨b0_2, 0, .none⟩)), (5, .pointer (some ⟨b3_5, 0, .none⟩)), (6, .slice av_1e nv_1e cv_1e)]) (fun x => match x with | (v_1e, (av_1e, nv_1e, cv_1e, fv_1e)) => [Chunk.box b0_2 96 [.slice .none 0 0], Chunk.box b3_5 137 [.int .i64 0, .int .i64 0, .int .i64 a_p1.W, .int .i64 a_p1.H], Chunk.own tRect fv_1e av_1e nv_1e cv_1e v_1e]) ?_ ?_
    ·
     rintro ⟨v_1e, ⟨av_1e, nv_1e, cv_1e, fv_1e⟩⟩ hx
     replace hx : v_1e = zy1 := hx.symm
     subst hx
     show En _ _ _ _ [(4, .pointer (some ⟨b0_2, 0, .none⟩)), (5, .pointer (some ⟨b3_5, 0, .none⟩)), (6, .slice av_1e nv_1e cv_1e)] [Chunk.box b0_2 96 [.slice .none 0 0], Chunk.box b3_5 137 [.int .i64 0, .int .i64 0, .int .i64 a_p1.W, .int .i64 a_p1.H], Chunk.own tRect fv_1e av_1e nv_1e cv_1e v_1e]
     refine En.block_exit (En.next (WC.seq (WC.sr ?_)))
     refine ag ?_
     refine WL.nil (En.next (WC.block ?_))
     obtain ⟨zy2, ezy2, h⟩ := bnd h
     refine WC.cut (X := ((List RectT)) × ((List Nat))) (.exit 6) (fun x => zy2 = x.1) (fun x => match x with | (v_2e, fv_2e) => [(4, .pointer (some ⟨b0_2, 0, .none⟩)), (6, .slice av_1e nv_1e cv_1e)]) (fun x => match x with | (v_2e, fv_2e) => [Chunk.box b0_2 96 [.slice .none 0 0], Chunk.own tRect fv_2e av_1e nv_1e cv_1e v_2e]) ?_ ?_
     ·
      rintro ⟨v_2e, fv_2e⟩ hx
      replace hx : v_2e = zy2 := hx.symm
      subst hx
      show En _ _ _ _ [(4, .pointer (some ⟨b0_2, 0, .none⟩)), (6, .slice av_1e nv_1e cv_1e)] [Chunk.box b0_2 96 [.slice .none 0 0], Chunk.own tRect fv_2e av_1e nv_1e cv_1e v_2e]
      refine En.block_exit (En.next (WC.seq ?_))
      obtain ⟨x29_1, e29_1, h⟩ := bnd h
      refine WC.region ?_
      refine mv ?_
      refine WL.heavy rfl rfl rfl (OpH.callR (ec rfl e0) ca_103 (fun w hs => w_spec_RegionOf e29_1 (Ow.rd (hs.mem mq1))) ?_)
      rintro _ _ ⟨a29_100, n29_100, c29_100, f29_100, rfl, rfl⟩
      refine WL.heavy0 rfl rfl (OpH.storeTo (A := [_]) [_] rfl rfl rfl ts_96 rfl rfl rfl ?_)
      refine WL.nil (En.next (WC.ret ?_))
      refine En.ret1 rfl (Res.cell rfl mq1 ag_96) ?_
      obtain rfl := Option.some.inj h
      intro w' hs
      have hs := (hs).sub (.cons_cons _ (.cons _ (.cons _ (.slnil))))
      exact ⟨_, _, rfl, ⟨a29_100, n29_100, c29_100, f29_100, rfl, rfl⟩, hs⟩
     ·
      intro zK2_0
      refine WC.loopP (G := (List Nat)) (fun s g => match s, g with | (v_2, v1_2), fv_2 => [(4, .pointer (some ⟨b0_2, 0, .none⟩)), (5, .pointer (some ⟨b3_5, 0, .none⟩)), (6, .slice av_1e nv_1e cv_1e), (13, .int .i64 v1_2)]) (fun s g => match s, g with | (v_2, v1_2), fv_2 => [Chunk.box b0_2 96 [.slice .none 0 0], Chunk.box b3_5 137 [.int .i64 0, .int .i64 0, .int .i64 a_p1.W, .int .i64 a_p1.H], Chunk.own tRect fv_2 av_1e nv_1e cv_1e v_2]) (v_1e, 0) fv_1e ezy2 (by exact sc (sc (sc (sc sn)))) (by exact (fun _ h => h)) ?_
      rintro zm2 ⟨v_2, v1_2⟩ fv_2 zo2 zf2 zb2 ze2
      have zh2 : spec_DamageOf_L2 a_p1 v_2 v1_2 = some zo2 := zf2
      unfold spec_DamageOf_L2 at zh2
      show WC _ _ _ _ _ [(4, .pointer (some ⟨b0_2, 0, .none⟩)), (5, .pointer (some ⟨b3_5, 0, .none⟩)), (6, .slice av_1e nv_1e cv_1e), (13, .int .i64 v1_2)] [Chunk.box b0_2 96 [.slice .none 0 0], Chunk.box b3_5 137 [.int .i64 0, .int .i64 0, .int .i64 a_p1.W, .int .i64 a_p1.H], Chunk.own tRect fv_2 av_1e nv_1e cv_1e v_2]
      refine WC.seq (WC.sr ?_)
      refine mv ?_
      refine mv ?_
      refine sp (OpV.inhF fun hin => OpV.lenO (xs := v_2) rfl si_94 rfl (ownLen hin mq2)) ?_
      refine sp (OpV.lss rfl rfl) ?_
      refine WL.nil (En.next ?_)
      refine WC.cond rfl ?_ ?_
      ·
       intro hc_3
       replace zh2 := ifO_t hc_3 zh2
       refine WC.skip (En.next (WC.seq (WC.block ?_)))
       refine WC.inh fun hin28 => ?_
       obtain ⟨x28_4, e28_4, zh2⟩ := bnd zh2
       obtain ⟨g28_4, o28_4, ha28_4⟩ := ownAddr hin28 mq2 e28_4
       have hn28_4 := ownLen hin28 mq2
       obtain ⟨x28_7, e28_7, zh2⟩ := bnd zh2
       have hn28_8 := ownLen hin28 mq2
       obtain ⟨x28_9, e28_9, zh2⟩ := bnd zh2
       obtain ⟨g28_8, o28_8, ha28_8⟩ := ownAddrU hin28 mq2 e28_9
       refine WC.wkF (fun _ h => h.pm 2) ?_
       refine WC.drawnH [_] ([_, _]) (fun _ h => h) (by kernel_rfl) ?_
       refine tk 0 rfl (OpV.move rfl) ?_
       refine tk 1 rfl (OpV.move rfl) ?_
       refine tk 2 rfl (OpV.move rfl) ?_
       refine tk 3 rfl (OpV.move rfl) ?_
       refine tk 4 rfl (OpV.idxA rfl rfl se_94 ha28_4 ⟨(idx_some e28_4).1, by rw [hn28_4]; exact (idx_some e28_4).2.1⟩) ?_
       refine tk 6 rfl (OpV.loadAll rfl mq1 ag_137) ?_
       refine al1 5 rfl ?_
       refine OpH.light (OpV.loadN rfl ag_137 rfl (fun w hs => Rd.all tRect_flat (Ow.rd (hs.mem mq0)) e28_4 ha28_4)) ?_
       refine ⟨[_], rfl, ?_⟩
       refine tk 7 rfl (OpV.call (ec rfl (ec rfl e0)) ca_105 (fun w hs => w_spec_Intersect e28_7)) ?_
       refine tk 8 rfl (OpV.idxA rfl rfl se_94 ha28_8 ⟨(upd_some e28_9).1.1, by rw [hn28_8]; exact (upd_some e28_9).1.2⟩) ?_
       refine al0 9 rfl ?_
       refine OpH.wkF (fun _ h => St.elFlat tRect_flat x28_7 h) ?_
       refine OpH.setEl (A := tRect) ha28_8 rfl rfl rfl ts_137 e28_9 ?_
       intro f28_9
       refine ⟨[_], rfl, ?_⟩
       refine WAE.rebase (H := []) ?_
       refine WAE.done (by kernel_rfl) ?_ _
       refine En.block_norm (En.next (WC.region ?_))
       refine mv ?_
       refine sp (OpV.addR rfl rfl) ?_
       refine ag ?_
       refine WL.nil ?_
       exact En.backP zb2 zh2 f28_9 (sc (sc (sc (sc sn)))) (fun _ h => ((h).pm 2).pm 2)
      ·
       intro hc_3
       replace zh2 := ifO_f hc_3 zh2
       refine WC.exit (En.then_exit (En.then_exit ?_))
       have hx := exitP ze2 zh2
       exact En.wk _ _ (sc (sc sn)) (fun _ h => (((h).pm 2).pm 1).sub (.cons_cons _ (.cons_cons _ (.cons _ (.slnil))))) (zK2_0 (v_2, fv_2) hx.symm)
    ·
     intro zK1_0
     refine WC.loopP (G := (Option Addr) × Nat × Nat × (List Nat)) (fun s g => match s, g with | (v_1, v1_1), (av_1, nv_1, cv_1, fv_1) => [(2, .pointer (some ⟨b0_0, 0, .none⟩)), (3, .pointer (some ⟨b0_1, 0, .none⟩)), (4, .pointer (some ⟨b0_2, 0, .none⟩)), (5, .pointer (some ⟨b3_5, 0, .none⟩)), (6, .slice av_1 nv_1 cv_1), (9, .int .i64 v1_1)]) (fun s g => match s, g with | (v_1, v1_1), (av_1, nv_1, cv_1, fv_1) => [Chunk.box b0_0 62 [.int .i64 a_p0.W, .int .i64 a_p0.H, .int .i64 a_p0.Back, .slice q0_0 a_p0.Surfaces.length k0_0], Chunk.box b0_1 62 [.int .i64 a_p1.W, .int .i64 a_p1.H, .int .i64 a_p1.Back, .slice q1_0 a_p1.Surfaces.length k1_0], Chunk.box b0_2 96 [.slice .none 0 0], Chunk.box b3_5 137 [.int .i64 0, .int .i64 0, .int .i64 a_p1.W, .int .i64 a_p1.H], Chunk.own tRect fv_1 av_1 nv_1 cv_1 v_1]) (v_0e, 0) (av_0e, nv_0e, cv_0e, fv_0e) ezy1 (by exact sc (sc (sc (sc (sc (sc sn)))))) (by exact (fun _ h => h)) ?_
     rintro zm1 ⟨v_1, v1_1⟩ ⟨av_1, nv_1, cv_1, fv_1⟩ zo1 zf1 zb1 ze1
     have zh1 : spec_DamageOf_L1 a_p0 a_p1 v_1 v1_1 = some zo1 := zf1
     unfold spec_DamageOf_L1 at zh1
     show WC _ _ _ _ _ [(2, .pointer (some ⟨b0_0, 0, .none⟩)), (3, .pointer (some ⟨b0_1, 0, .none⟩)), (4, .pointer (some ⟨b0_2, 0, .none⟩)), (5, .pointer (some ⟨b3_5, 0, .none⟩)), (6, .slice av_1 nv_1 cv_1), (9, .int .i64 v1_1)] [Chunk.box b0_0 62 [.int .i64 a_p0.W, .int .i64 a_p0.H, .int .i64 a_p0.Back, .slice q0_0 a_p0.Surfaces.length k0_0], Chunk.box b0_1 62 [.int .i64 a_p1.W, .int .i64 a_p1.H, .int .i64 a_p1.Back, .slice q1_0 a_p1.Surfaces.length k1_0], Chunk.box b0_2 96 [.slice .none 0 0], Chunk.box b3_5 137 [.int .i64 0, .int .i64 0, .int .i64 a_p1.W, .int .i64 a_p1.H], Chunk.own tRect fv_1 av_1 nv_1 cv_1 v_1]
     refine WC.seq (WC.sr ?_)
     refine mv ?_
     refine sp (OpV.fieldAddr rfl fo_62_3) ?_
     refine sp (OpV.loadBox rfl pt_60 mq1 rfl) ?_
     refine sp (OpV.len rfl si_60 rfl) ?_
     refine sp (OpV.lss rfl rfl) ?_
     refine WL.nil (En.next ?_)
     refine WC.cond rfl ?_ ?_
     ·
      intro hc_4
      replace zh1 := ifO_t hc_4 zh1
      refine WC.skip (En.next (WC.seq ?_))
      obtain ⟨zy3, ej3, zh1⟩ := bnd zh1
      refine WC.cut (X := ((List RectT)) × ((Option Addr) × Nat × Nat × (List Nat))) .normal (fun x => zy3 = x.1) (fun x => match x with | (v_3j, (av_3j, nv_3j, cv_3j, fv_3j)) => [(2, .pointer (some ⟨b0_0, 0, .none⟩)), (3, .pointer (some ⟨b0_1, 0, .none⟩)), (4, .pointer (some ⟨b0_2, 0, .none⟩)), (5, .pointer (some ⟨b3_5, 0, .none⟩)), (6, .slice av_3j nv_3j cv_3j), (9, .int .i64 v1_1)]) (fun x => match x with | (v_3j, (av_3j, nv_3j, cv_3j, fv_3j)) => [Chunk.box b0_0 62 [.int .i64 a_p0.W, .int .i64 a_p0.H, .int .i64 a_p0.Back, .slice q0_0 a_p0.Surfaces.length k0_0], Chunk.box b0_1 62 [.int .i64 a_p1.W, .int .i64 a_p1.H, .int .i64 a_p1.Back, .slice q1_0 a_p1.Surfaces.length k1_0], Chunk.box b0_2 96 [.slice .none 0 0], Chunk.box b3_5 137 [.int .i64 0, .int .i64 0, .int .i64 a_p1.W, .int .i64 a_p1.H], Chunk.own tRect fv_3j av_3j nv_3j cv_3j v_3j]) ?_ ?_
      ·
       rintro ⟨v_3j, ⟨av_3j, nv_3j, cv_3j, fv_3j⟩⟩ hx
       replace hx : v_3j = zy3 := hx.symm
       subst hx
       show En _ _ _ _ [(2, .pointer (some ⟨b0_0, 0, .none⟩)), (3, .pointer (some ⟨b0_1, 0, .none⟩)), (4, .pointer (some ⟨b0_2, 0, .none⟩)), (5, .pointer (some ⟨b3_5, 0, .none⟩)), (6, .slice av_3j nv_3j cv_3j), (9, .int .i64 v1_1)] [Chunk.box b0_0 62 [.int .i64 a_p0.W, .int .i64 a_p0.H, .int .i64 a_p0.Back, .slice q0_0 a_p0.Surfaces.length k0_0], Chunk.box b0_1 62 [.int .i64 a_p1.W, .int .i64 a_p1.H, .int .i64 a_p1.Back, .slice q1_0 a_p1.Surfaces.length k1_0], Chunk.box b0_2 96 [.slice .none 0 0], Chunk.box b3_5 137 [.int .i64 0, .int .i64 0, .int .i64 a_p1.W, .int .i64 a_p1.H], Chunk.own tRect fv_3j av_3j nv_3j cv_3j v_3j]
       refine En.next (WC.region ?_)
       refine mv ?_
       refine sp (OpV.addR rfl rfl) ?_
       refine ag ?_
       refine WL.nil ?_
       exact En.backP zb1 zh1 (av_3j, nv_3j, cv_3j, fv_3j) (sc (sc (sc (sc (sc (sc sn)))))) (fun _ h => h)
      ·
       intro zK3
       refine WC.block (WC.seq ?_)
       obtain ⟨x16_4, e16_4, ej3⟩ := bnd ej3
       obtain ⟨g16_4, o16_4, _, ha16_4, ⟨a16_4_1, c16_4_1, rfl, r16_4_1⟩, hd16_4⟩ := Rd.atIdx r1_0 e16_4
       replace hd16_4 : ∀ (j : Nat) v, ([.int .i64 x16_4.Id, .int .i64 x16_4.X, .int .i64 x16_4.Y, .int .i64 x16_4.W, .int .i64 x16_4.H, .int .i64 x16_4.Alpha, .int .i64 x16_4.Orient, .bool x16_4.Visible, .int .i64 x16_4.Buffer.W, .int .i64 x16_4.Buffer.H, .slice a16_4_1 x16_4.Buffer.Data.length c16_4_1] : List Value)[j]? = some v → w.cell? ⟨g16_4, o16_4 + v1_1.toNat * 11 + j, .none⟩ = some v := hd16_4
       obtain ⟨x16_7, e16_7, ej3⟩ := bnd ej3
       refine WC.drawn [(2, ?r16q6v2), (3, ?r16q6v3), (4, ?r16q6v4), (5, ?r16q6v5), (6, ?r16q6v6), (9, ?r16q6v9), (10, ?r16q6v10)] (by kernel_rfl) (by kernel_rfl) ?dH16q6 ?dK16q6
       case dH16q6 =>
        intro W hW hk
        refine hW.sp (OpV.loadAll rfl mq0 ag_62) ?_
        refine hW.sp (OpV.fieldAddr rfl fo_62_3) ?_
        refine hW.sp (OpV.loadBox rfl pt_60 mq1 rfl) ?_
        refine hW.mv ?_
        refine hW.sp (OpV.idxA rfl rfl se_60 ha16_4 ⟨(idx_some e16_4).1, (idx_some e16_4).2.1⟩) ?_
        refine hW.sp (OpV.fieldAddr rfl fo_73_0) ?_
        refine hW.sp (OpV.load1 rfl pt_3 (fun w hs => hs.cell (hd16_4 0 _ rfl))) ?_
        refine hW.sp (OpV.call (ec rfl (ec rfl e0)) ca_100 (fun w hs => w_spec_SurfaceIndex e16_7 (r0_0.ext hs.below))) ?_
        refine hW.sp (OpV.assign rfl) ?_
        refine hk _ ?_
        refine Sub.cons ?_ (Sub.cons ?_ (Sub.cons ?_ (Sub.cons ?_ (Sub.cons ?_ (Sub.cons ?_ (Sub.cons ?_ sn))))))
        all_goals exact rfl
       refine En.next (WC.seq (WC.seq ?_))
       obtain ⟨q17_15, e17_15, ej3⟩ := bnd ej3
       refine WC.drawn [(2, ?r17q6v2), (3, ?r17q6v3), (4, ?r17q6v4), (5, ?r17q6v5), (6, ?r17q6v6), (9, ?r17q6v9), (10, ?r17q6v10), (121, ?r17q6v121)] (by kernel_rfl) (by kernel_rfl) ?dH17q6 ?dK17q6
       case dH17q6 =>
        intro W hW hk
        refine hW.mv ?_
        refine hW.sp (OpV.lss rfl rfl) ?_
        refine hW.mv ?_
        refine hW.orQ 108 121 120 (p := ?pz4) (rest := ?qz4) (B := q17_15) rfl (fun hz => orO_t e17_15 hz) ?Tz4 ?Fz4 ?az4 ?bz4 ?cz4 ?dz4 ?ez4
        case Tz4 =>
         intro hcz4 hkz4
         refine hW.sk ?_
         refine hW.sk ?_
         refine hW.sk ?_
         refine hW.sk ?_
         refine hW.sk ?_
         refine hW.sk ?_
         refine hW.sk ?_
         refine hW.sk ?_
         refine hW.sk ?_
         refine hW.sk ?_
         refine hW.sk ?_
         refine hW.sk ?_
         refine hkz4 _ ?_
         repeat (first | exact Sub.refl _ | refine Sub.skip rfl ?_)
        case Fz4 =>
         intro hcz4 hkz4
         have hqz4 := orO_f e17_15 hcz4
         obtain ⟨x17_6, e17_6, hqz4⟩ := bnd hqz4
         obtain ⟨g17_6, o17_6, _, ha17_6, ⟨a17_6_1, c17_6_1, rfl, r17_6_1⟩, hd17_6⟩ := Rd.atIdx r0_0 e17_6
         replace hd17_6 : ∀ (j : Nat) v, ([.int .i64 x17_6.Id, .int .i64 x17_6.X, .int .i64 x17_6.Y, .int .i64 x17_6.W, .int .i64 x17_6.H, .int .i64 x17_6.Alpha, .int .i64 x17_6.Orient, .bool x17_6.Visible, .int .i64 x17_6.Buffer.W, .int .i64 x17_6.Buffer.H, .slice a17_6_1 x17_6.Buffer.Data.length c17_6_1] : List Value)[j]? = some v → w.cell? ⟨g17_6, o17_6 + x16_7.toNat * 11 + j, .none⟩ = some v := hd17_6
         obtain ⟨x17_11, e17_11, hqz4⟩ := bnd hqz4
         obtain ⟨g17_11, o17_11, _, ha17_11, ⟨a17_11_1, c17_11_1, rfl, r17_11_1⟩, hd17_11⟩ := Rd.atIdx r1_0 e17_11
         replace hd17_11 : ∀ (j : Nat) v, ([.int .i64 x17_11.Id, .int .i64 x17_11.X, .int .i64 x17_11.Y, .int .i64 x17_11.W, .int .i64 x17_11.H, .int .i64 x17_11.Alpha, .int .i64 x17_11.Orient, .bool x17_11.Visible, .int .i64 x17_11.Buffer.W, .int .i64 x17_11.Buffer.H, .slice a17_11_1 x17_11.Buffer.Data.length c17_11_1] : List Value)[j]? = some v → w.cell? ⟨g17_11, o17_11 + v1_1.toNat * 11 + j, .none⟩ = some v := hd17_11
         obtain ⟨x17_13, e17_13, hqz4⟩ := bnd hqz4
         obtain rfl := Option.some.inj hqz4
         refine hW.sp (OpV.fieldAddr rfl fo_62_3) ?_
         refine hW.sp (OpV.loadBox rfl pt_60 mq0 rfl) ?_
         refine hW.mv ?_
         refine hW.sp (OpV.idxA rfl rfl se_60 ha17_6 ⟨(idx_some e17_6).1, (idx_some e17_6).2.1⟩) ?_
         refine hW.sp (OpV.loadN rfl ag_73 rfl (fun w hs => hs.cellsAt hd17_6)) ?_
         refine hW.sp (OpV.fieldAddr rfl fo_62_3) ?_
         refine hW.sp (OpV.loadBox rfl pt_60 mq1 rfl) ?_
         refine hW.mv ?_
         refine hW.sp (OpV.idxA rfl rfl se_60 ha17_11 ⟨(idx_some e17_11).1, (idx_some e17_11).2.1⟩) ?_
         refine hW.sp (OpV.loadN rfl ag_73 rfl (fun w hs => hs.cellsAt hd17_11)) ?_
         refine hW.sp (OpV.call (ec rfl (ec rfl e0)) ca_102 (fun w hs => w_spec_SameSurface e17_13 (r17_6_1.ext hs.below) (r17_11_1.ext hs.below))) ?_
         refine hW.sp (OpV.not rfl) ?_
         refine hkz4 _ ?_ ?_
         exact rfl
         repeat (first | exact Sub.refl _ | refine Sub.skip rfl ?_)
        case az4 => exact rfl
        case bz4 => exact rfl
        case cz4 => exact rfl
        case dz4 => exact rfl
        refine hk _ ?_
        refine Sub.cons ?_ (Sub.cons ?_ (Sub.cons ?_ (Sub.cons ?_ (Sub.cons ?_ (Sub.cons ?_ (Sub.cons ?_ (Sub.cons ?_ sn)))))))
        all_goals exact rfl
       refine En.next ?_
       refine WC.cond rfl ?_ ?_
       ·
        intro hc_5
        replace ej3 := ifO_t hc_5 ej3
        obtain ⟨x18_4, e18_4, ej3⟩ := bnd ej3
        obtain ⟨g18_4, o18_4, _, ha18_4, ⟨a18_4_1, c18_4_1, rfl, r18_4_1⟩, hd18_4⟩ := Rd.atIdx r1_0 e18_4
        replace hd18_4 : ∀ (j : Nat) v, ([.int .i64 x18_4.Id, .int .i64 x18_4.X, .int .i64 x18_4.Y, .int .i64 x18_4.W, .int .i64 x18_4.H, .int .i64 x18_4.Alpha, .int .i64 x18_4.Orient, .bool x18_4.Visible, .int .i64 x18_4.Buffer.W, .int .i64 x18_4.Buffer.H, .slice a18_4_1 x18_4.Buffer.Data.length c18_4_1] : List Value)[j]? = some v → w.cell? ⟨g18_4, o18_4 + v1_1.toNat * 11 + j, .none⟩ = some v := hd18_4
        obtain ⟨x18_6, e18_6, ej3⟩ := bnd ej3
        obtain ⟨x18_8, e18_8, ej3⟩ := bnd ej3
        refine WC.region ?_
        refine mv ?_
        refine sp (OpV.fieldAddr rfl fo_62_3) ?_
        refine sp (OpV.loadBox rfl pt_60 mq1 rfl) ?_
        refine mv ?_
        refine sp (OpV.idxA rfl rfl se_60 ha18_4 ⟨(idx_some e18_4).1, (idx_some e18_4).2.1⟩) ?_
        refine sp (OpV.loadN rfl ag_73 rfl (fun w hs => hs.cellsAt hd18_4)) ?_
        refine sp (OpV.call (ec rfl e0) ca_104 (fun w hs => w_spec_SurfaceRect e18_6 (r18_4_1.ext hs.below))) ?_
        refine WL.heavy rfl rfl rfl (OpH.litF (A := tRect) (xs := [x18_6]) tRect_flat (evps.cons rfl (evps.nil)) (bs_94_1_0 _ _ _ _) rfl rfl (Nat.le_of_ble_eq_true rfl) ?_)
        intro b18_7
        refine WL.heavy rfl rfl rfl (OpH.appS (F := [_, _, _, _, _]) (A := tRect) tRect_flat rfl rfl rfl mi_94 rfl (by decide) (fun w hs => (Ow.rd (hs.mem mq0))) e18_8 ?_)
        intro f18_8 a18_8 c18_8
        refine ag ?_
        refine WL.nil (En.next (WC.sr ?_))
        refine ag ?_
        refine WL.nil (En.next (WC.block ?_))
        obtain ⟨zy4, ezy4, ej3⟩ := bnd ej3
        refine WC.cut (X := ((List RectT)) × ((Option Addr) × Nat × Nat × (List Nat))) (.exit 4) (fun x => zy4 = x.1) (fun x => match x with | (v_4e, (av_4e, nv_4e, cv_4e, fv_4e)) => [(2, .pointer (some ⟨b0_0, 0, .none⟩)), (3, .pointer (some ⟨b0_1, 0, .none⟩)), (4, .pointer (some ⟨b0_2, 0, .none⟩)), (5, .pointer (some ⟨b3_5, 0, .none⟩)), (6, .slice av_4e nv_4e cv_4e), (9, .int .i64 v1_1)]) (fun x => match x with | (v_4e, (av_4e, nv_4e, cv_4e, fv_4e)) => [Chunk.box b0_0 62 [.int .i64 a_p0.W, .int .i64 a_p0.H, .int .i64 a_p0.Back, .slice q0_0 a_p0.Surfaces.length k0_0], Chunk.box b0_1 62 [.int .i64 a_p1.W, .int .i64 a_p1.H, .int .i64 a_p1.Back, .slice q1_0 a_p1.Surfaces.length k1_0], Chunk.box b0_2 96 [.slice .none 0 0], Chunk.box b3_5 137 [.int .i64 0, .int .i64 0, .int .i64 a_p1.W, .int .i64 a_p1.H], Chunk.own tRect fv_4e av_4e nv_4e cv_4e v_4e]) ?_ ?_
        ·
         rintro ⟨v_4e, ⟨av_4e, nv_4e, cv_4e, fv_4e⟩⟩ hx
         replace hx : v_4e = zy4 := hx.symm
         subst hx
         show En _ _ _ _ [(2, .pointer (some ⟨b0_0, 0, .none⟩)), (3, .pointer (some ⟨b0_1, 0, .none⟩)), (4, .pointer (some ⟨b0_2, 0, .none⟩)), (5, .pointer (some ⟨b3_5, 0, .none⟩)), (6, .slice av_4e nv_4e cv_4e), (9, .int .i64 v1_1)] [Chunk.box b0_0 62 [.int .i64 a_p0.W, .int .i64 a_p0.H, .int .i64 a_p0.Back, .slice q0_0 a_p0.Surfaces.length k0_0], Chunk.box b0_1 62 [.int .i64 a_p1.W, .int .i64 a_p1.H, .int .i64 a_p1.Back, .slice q1_0 a_p1.Surfaces.length k1_0], Chunk.box b0_2 96 [.slice .none 0 0], Chunk.box b3_5 137 [.int .i64 0, .int .i64 0, .int .i64 a_p1.W, .int .i64 a_p1.H], Chunk.own tRect fv_4e av_4e nv_4e cv_4e v_4e]
         refine En.block_exit (En.block_norm ?_)
         exact En.wk _ _ (sc (sc (sc (sc (sc (sc sn)))))) (fun _ h => h) (zK3 (v_4e, (av_4e, nv_4e, cv_4e, fv_4e)) (Option.some.inj ej3).symm)
        ·
         intro zK4_0
         refine WC.loopP (G := (Option Addr) × Nat × Nat × (List Nat)) (fun s g => match s, g with | (v_4, v1_4), (av_4, nv_4, cv_4, fv_4) => [(2, .pointer (some ⟨b0_0, 0, .none⟩)), (3, .pointer (some ⟨b0_1, 0, .none⟩)), (4, .pointer (some ⟨b0_2, 0, .none⟩)), (5, .pointer (some ⟨b3_5, 0, .none⟩)), (6, .slice av_4 nv_4 cv_4), (9, .int .i64 v1_1), (10, .int .i64 x16_7), (11, .int .i64 v1_4)]) (fun s g => match s, g with | (v_4, v1_4), (av_4, nv_4, cv_4, fv_4) => [Chunk.box b0_0 62 [.int .i64 a_p0.W, .int .i64 a_p0.H, .int .i64 a_p0.Back, .slice q0_0 a_p0.Surfaces.length k0_0], Chunk.box b0_1 62 [.int .i64 a_p1.W, .int .i64 a_p1.H, .int .i64 a_p1.Back, .slice q1_0 a_p1.Surfaces.length k1_0], Chunk.box b0_2 96 [.slice .none 0 0], Chunk.box b3_5 137 [.int .i64 0, .int .i64 0, .int .i64 a_p1.W, .int .i64 a_p1.H], Chunk.own tRect fv_4 av_4 nv_4 cv_4 v_4]) (x18_8, 0) (a18_8, x18_8.length, c18_8, f18_8) ezy4 (by exact sc (sc (sc (sc (sc (sc (sc (sc sn)))))))) (by exact (fun _ h => ((((((h).pm 5).pm 5).pm 5).pm 5).pm 5).sub (.cons_cons _ (.cons_cons _ (.cons_cons _ (.cons_cons _ (.cons_cons _ (.cons _ (.slnil))))))))) ?_
         rintro zm4 ⟨v_4, v1_4⟩ ⟨av_4, nv_4, cv_4, fv_4⟩ zo4 zf4 zb4 ze4
         have zh4 : spec_DamageOf_L4 a_p0 a_p1 v1_1 x16_7 v_4 v1_4 = some zo4 := zf4
         unfold spec_DamageOf_L4 at zh4
         show WC _ _ _ _ _ [(2, .pointer (some ⟨b0_0, 0, .none⟩)), (3, .pointer (some ⟨b0_1, 0, .none⟩)), (4, .pointer (some ⟨b0_2, 0, .none⟩)), (5, .pointer (some ⟨b3_5, 0, .none⟩)), (6, .slice av_4 nv_4 cv_4), (9, .int .i64 v1_1), (10, .int .i64 x16_7), (11, .int .i64 v1_4)] [Chunk.box b0_0 62 [.int .i64 a_p0.W, .int .i64 a_p0.H, .int .i64 a_p0.Back, .slice q0_0 a_p0.Surfaces.length k0_0], Chunk.box b0_1 62 [.int .i64 a_p1.W, .int .i64 a_p1.H, .int .i64 a_p1.Back, .slice q1_0 a_p1.Surfaces.length k1_0], Chunk.box b0_2 96 [.slice .none 0 0], Chunk.box b3_5 137 [.int .i64 0, .int .i64 0, .int .i64 a_p1.W, .int .i64 a_p1.H], Chunk.own tRect fv_4 av_4 nv_4 cv_4 v_4]
         refine WC.seq (WC.sr ?_)
         refine mv ?_
         refine mv ?_
         refine sp (OpV.lss rfl rfl) ?_
         refine WL.nil (En.next ?_)
         refine WC.cond rfl ?_ ?_
         ·
          intro hc_6
          replace zh4 := ifO_t hc_6 zh4
          refine WC.skip (En.next (WC.seq ?_))
          obtain ⟨zy5, ej5, zh4⟩ := bnd zh4
          refine WC.cut (X := ((List RectT)) × ((Option Addr) × Nat × Nat × (List Nat))) .normal (fun x => zy5 = x.1) (fun x => match x with | (v_5j, (av_5j, nv_5j, cv_5j, fv_5j)) => [(2, .pointer (some ⟨b0_0, 0, .none⟩)), (3, .pointer (some ⟨b0_1, 0, .none⟩)), (4, .pointer (some ⟨b0_2, 0, .none⟩)), (5, .pointer (some ⟨b3_5, 0, .none⟩)), (6, .slice av_5j nv_5j cv_5j), (9, .int .i64 v1_1), (10, .int .i64 x16_7), (11, .int .i64 v1_4)]) (fun x => match x with | (v_5j, (av_5j, nv_5j, cv_5j, fv_5j)) => [Chunk.box b0_0 62 [.int .i64 a_p0.W, .int .i64 a_p0.H, .int .i64 a_p0.Back, .slice q0_0 a_p0.Surfaces.length k0_0], Chunk.box b0_1 62 [.int .i64 a_p1.W, .int .i64 a_p1.H, .int .i64 a_p1.Back, .slice q1_0 a_p1.Surfaces.length k1_0], Chunk.box b0_2 96 [.slice .none 0 0], Chunk.box b3_5 137 [.int .i64 0, .int .i64 0, .int .i64 a_p1.W, .int .i64 a_p1.H], Chunk.own tRect fv_5j av_5j nv_5j cv_5j v_5j]) ?_ ?_
          ·
           rintro ⟨v_5j, ⟨av_5j, nv_5j, cv_5j, fv_5j⟩⟩ hx
           replace hx : v_5j = zy5 := hx.symm
           subst hx
           show En _ _ _ _ [(2, .pointer (some ⟨b0_0, 0, .none⟩)), (3, .pointer (some ⟨b0_1, 0, .none⟩)), (4, .pointer (some ⟨b0_2, 0, .none⟩)), (5, .pointer (some ⟨b3_5, 0, .none⟩)), (6, .slice av_5j nv_5j cv_5j), (9, .int .i64 v1_1), (10, .int .i64 x16_7), (11, .int .i64 v1_4)] [Chunk.box b0_0 62 [.int .i64 a_p0.W, .int .i64 a_p0.H, .int .i64 a_p0.Back, .slice q0_0 a_p0.Surfaces.length k0_0], Chunk.box b0_1 62 [.int .i64 a_p1.W, .int .i64 a_p1.H, .int .i64 a_p1.Back, .slice q1_0 a_p1.Surfaces.length k1_0], Chunk.box b0_2 96 [.slice .none 0 0], Chunk.box b3_5 137 [.int .i64 0, .int .i64 0, .int .i64 a_p1.W, .int .i64 a_p1.H], Chunk.own tRect fv_5j av_5j nv_5j cv_5j v_5j]
           refine En.next (WC.region ?_)
           refine mv ?_
           refine sp (OpV.addR rfl rfl) ?_
           refine ag ?_
           refine WL.nil ?_
           exact En.backP zb4 zh4 (av_5j, nv_5j, cv_5j, fv_5j) (sc (sc (sc (sc (sc (sc (sc (sc sn)))))))) (fun _ h => h)
          ·
           intro zK5
           refine WC.block (WC.seq ?_)
           obtain ⟨x22_4, e22_4, ej5⟩ := bnd ej5
           obtain ⟨g22_4, o22_4, _, ha22_4, ⟨a22_4_1, c22_4_1, rfl, r22_4_1⟩, hd22_4⟩ := Rd.atIdx r1_0 e22_4
           replace hd22_4 : ∀ (j : Nat) v, ([.int .i64 x22_4.Id, .int .i64 x22_4.X, .int .i64 x22_4.Y, .int .i64 x22_4.W, .int .i64 x22_4.H, .int .i64 x22_4.Alpha, .int .i64 x22_4.Orient, .bool x22_4.Visible, .int .i64 x22_4.Buffer.W, .int .i64 x22_4.Buffer.H, .slice a22_4_1 x22_4.Buffer.Data.length c22_4_1] : List Value)[j]? = some v → w.cell? ⟨g22_4, o22_4 + v1_4.toNat * 11 + j, .none⟩ = some v := hd22_4
           obtain ⟨x22_7, e22_7, ej5⟩ := bnd ej5
           refine WC.drawn [(2, ?r22q66v2), (3, ?r22q66v3), (4, ?r22q66v4), (5, ?r22q66v5), (6, ?r22q66v6), (9, ?r22q66v9), (10, ?r22q66v10), (11, ?r22q66v11), (12, ?r22q66v12)] (by kernel_rfl) (by kernel_rfl) ?dH22q66 ?dK22q66
           case dH22q66 =>
            intro W hW hk
            refine hW.sp (OpV.loadAll rfl mq0 ag_62) ?_
            refine hW.sp (OpV.fieldAddr rfl fo_62_3) ?_
            refine hW.sp (OpV.loadBox rfl pt_60 mq1 rfl) ?_
            refine hW.mv ?_
            refine hW.sp (OpV.idxA rfl rfl se_60 ha22_4 ⟨(idx_some e22_4).1, (idx_some e22_4).2.1⟩) ?_
            refine hW.sp (OpV.fieldAddr rfl fo_73_0) ?_
            refine hW.sp (OpV.load1 rfl pt_3 (fun w hs => hs.cell (hd22_4 0 _ rfl))) ?_
            refine hW.sp (OpV.call (ec rfl (ec rfl e0)) ca_100 (fun w hs => w_spec_SurfaceIndex e22_7 (r0_0.ext hs.below))) ?_
            refine hW.sp (OpV.assign rfl) ?_
            refine hk _ ?_
            refine Sub.cons ?_ (Sub.cons ?_ (Sub.cons ?_ (Sub.cons ?_ (Sub.cons ?_ (Sub.cons ?_ (Sub.cons ?_ (Sub.cons ?_ (Sub.cons ?_ sn))))))))
            all_goals exact rfl
           refine En.next (WC.sr ?_)
           refine mv ?_
           refine sp (OpV.geq rfl rfl) ?_
           refine mv ?_
           refine Lt.ofWL.and 146 150 149 (p := ?pz5) (rest := ?qz5) (B := ?Bz5) rfl ?Tz5 ?Fz5 ?az5 ?bz5 ?cz5 ?dz5 ?ez5
           case Tz5 =>
            intro hcz5 hkz5
            refine mv ?_
            refine mv ?_
            refine sp (OpV.gtr rfl rfl) ?_
            refine hkz5 _ ?_ ?_
            exact rfl
            repeat (first | exact Sub.refl _ | refine Sub.skip rfl ?_)
           case Fz5 =>
            intro hcz5 hkz5
            refine sk ?_
            refine sk ?_
            refine sk ?_
            refine hkz5 _ ?_
            repeat (first | exact Sub.refl _ | refine Sub.skip rfl ?_)
           case az5 => exact rfl
           case bz5 => exact rfl
           case cz5 => exact rfl
           case dz5 => exact rfl
           refine WL.nil (En.next ?_)
           refine WC.cond rfl ?_ ?_
           ·
            intro hc_7
            replace ej5 := ifO_t hc_7 ej5
            obtain ⟨x24_4, e24_4, ej5⟩ := bnd ej5
            obtain ⟨g24_4, o24_4, _, ha24_4, ⟨a24_4_1, c24_4_1, rfl, r24_4_1⟩, hd24_4⟩ := Rd.atIdx r1_0 e24_4
            replace hd24_4 : ∀ (j : Nat) v, ([.int .i64 x24_4.Id, .int .i64 x24_4.X, .int .i64 x24_4.Y, .int .i64 x24_4.W, .int .i64 x24_4.H, .int .i64 x24_4.Alpha, .int .i64 x24_4.Orient, .bool x24_4.Visible, .int .i64 x24_4.Buffer.W, .int .i64 x24_4.Buffer.H, .slice a24_4_1 x24_4.Buffer.Data.length c24_4_1] : List Value)[j]? = some v → w.cell? ⟨g24_4, o24_4 + v1_1.toNat * 11 + j, .none⟩ = some v := hd24_4
            obtain ⟨x24_6, e24_6, ej5⟩ := bnd ej5
            obtain ⟨x24_10, e24_10, ej5⟩ := bnd ej5
            obtain ⟨g24_10, o24_10, _, ha24_10, ⟨a24_10_1, c24_10_1, rfl, r24_10_1⟩, hd24_10⟩ := Rd.atIdx r1_0 e24_10
            replace hd24_10 : ∀ (j : Nat) v, ([.int .i64 x24_10.Id, .int .i64 x24_10.X, .int .i64 x24_10.Y, .int .i64 x24_10.W, .int .i64 x24_10.H, .int .i64 x24_10.Alpha, .int .i64 x24_10.Orient, .bool x24_10.Visible, .int .i64 x24_10.Buffer.W, .int .i64 x24_10.Buffer.H, .slice a24_10_1 x24_10.Buffer.Data.length c24_10_1] : List Value)[j]? = some v → w.cell? ⟨g24_10, o24_10 + v1_4.toNat * 11 + j, .none⟩ = some v := hd24_10
            obtain ⟨x24_12, e24_12, ej5⟩ := bnd ej5
            obtain ⟨x24_13, e24_13, ej5⟩ := bnd ej5
            obtain ⟨x24_15, e24_15, ej5⟩ := bnd ej5
            refine WC.wkF (fun _ h => h.pm 4) ?_
            refine WC.drawnH [_] ([_, _, _, _]) (fun _ h => h) (by kernel_rfl) ?_
            refine tk 0 rfl (OpV.move rfl) ?_
            refine tk 1 rfl (OpV.fieldAddr rfl fo_62_3) ?_
            refine tk 2 rfl (OpV.loadBox rfl pt_60 mq1 rfl) ?_
            refine tk 3 rfl (OpV.move rfl) ?_
            refine tk 4 rfl (OpV.idxA rfl rfl se_60 ha24_4 ⟨(idx_some e24_4).1, (idx_some e24_4).2.1⟩) ?_
            refine tk 5 rfl (OpV.loadN rfl ag_73 rfl (fun w hs => hs.cellsAt hd24_4)) ?_
            refine tk 6 rfl (OpV.call (ec rfl e0) ca_104 (fun w hs => w_spec_SurfaceRect e24_6 (r24_4_1.ext hs.below))) ?_
            refine tk 7 rfl (OpV.fieldAddr rfl fo_62_3) ?_
            refine tk 8 rfl (OpV.loadBox rfl pt_60 mq1 rfl) ?_
            refine tk 9 rfl (OpV.move rfl) ?_
            refine tk 10 rfl (OpV.idxA rfl rfl se_60 ha24_10 ⟨(idx_some e24_10).1, (idx_some e24_10).2.1⟩) ?_
            refine tk 11 rfl (OpV.loadN rfl ag_73 rfl (fun w hs => hs.cellsAt hd24_10)) ?_
            refine tk 12 rfl (OpV.call (ec rfl e0) ca_104 (fun w hs => w_spec_SurfaceRect e24_12 (r24_10_1.ext hs.below))) ?_
            refine tk 13 rfl (OpV.call (ec rfl (ec rfl e0)) ca_105 (fun w hs => w_spec_Intersect e24_13)) ?_
            refine al1 14 rfl ?_
            refine OpH.litF (A := tRect) (xs := [x24_13]) tRect_flat (evps.cons rfl (evps.nil)) (bs_94_1_0 _ _ _ _) rfl rfl (Nat.le_of_ble_eq_true rfl) ?_
            intro b24_14
            refine ⟨[_, _], rfl, ?_⟩
            refine al1 15 rfl ?_
            refine OpH.appS (F := [_]) (A := tRect) tRect_flat rfl rfl rfl mi_94 rfl (by decide) (fun w hs => (Ow.rd (hs.mem mq0))) e24_15 ?_
            intro f24_15 a24_15 c24_15
            refine ⟨[_, _], rfl, ?_⟩
            refine WAE.rebase (H := []) ?_
            refine tk 16 rfl (OpV.assign rfl) ?_
            refine WAE.done (by kernel_rfl) ?_ _
            refine En.block_norm ?_
            exact En.wk _ _ (sc (sc (sc (sc (sc (sc (sc (sc sn)))))))) (fun _ h => ((((((h).pm 1).pm 5).pm 5).pm 5).pm 5).sub (.cons_cons _ (.cons_cons _ (.cons_cons _ (.cons_cons _ (.cons_cons _ (.cons _ (.slnil)))))))) (zK5 (x24_15, (a24_15, x24_15.length, c24_15, f24_15)) (Option.some.inj ej5).symm)
           ·
            intro hc_7
            replace ej5 := ifO_f hc_7 ej5
            refine WC.skip (En.block_norm ?_)
            exact En.wk _ _ (sc (sc (sc (sc (sc (sc (sc (sc sn)))))))) (fun _ h => h) (zK5 (v_4, (av_4, nv_4, cv_4, fv_4)) (Option.some.inj ej5).symm)
         ·
          intro hc_6
          replace zh4 := ifO_f hc_6 zh4
          refine WC.exit (En.then_exit (En.then_exit ?_))
          have hx := exitP ze4 zh4
          exact En.wk _ _ (sc (sc (sc (sc (sc (sc sn)))))) (fun _ h => h) (zK4_0 (v_4, (av_4, nv_4, cv_4, fv_4)) hx.symm)
       ·
        intro hc_5
        replace ej3 := ifO_f hc_5 ej3
        refine WC.skip (En.next (WC.sr ?_))
        refine ag ?_
        refine WL.nil (En.next (WC.block ?_))
        obtain ⟨zy6, ezy6, ej3⟩ := bnd ej3
        refine WC.cut (X := ((List RectT)) × ((Option Addr) × Nat × Nat × (List Nat))) (.exit 4) (fun x => zy6 = x.1) (fun x => match x with | (v_6e, (av_6e, nv_6e, cv_6e, fv_6e)) => [(2, .pointer (some ⟨b0_0, 0, .none⟩)), (3, .pointer (some ⟨b0_1, 0, .none⟩)), (4, .pointer (some ⟨b0_2, 0, .none⟩)), (5, .pointer (some ⟨b3_5, 0, .none⟩)), (6, .slice av_6e nv_6e cv_6e), (9, .int .i64 v1_1)]) (fun x => match x with | (v_6e, (av_6e, nv_6e, cv_6e, fv_6e)) => [Chunk.box b0_0 62 [.int .i64 a_p0.W, .int .i64 a_p0.H, .int .i64 a_p0.Back, .slice q0_0 a_p0.Surfaces.length k0_0], Chunk.box b0_1 62 [.int .i64 a_p1.W, .int .i64 a_p1.H, .int .i64 a_p1.Back, .slice q1_0 a_p1.Surfaces.length k1_0], Chunk.box b0_2 96 [.slice .none 0 0], Chunk.box b3_5 137 [.int .i64 0, .int .i64 0, .int .i64 a_p1.W, .int .i64 a_p1.H], Chunk.own tRect fv_6e av_6e nv_6e cv_6e v_6e]) ?_ ?_
        ·
         rintro ⟨v_6e, ⟨av_6e, nv_6e, cv_6e, fv_6e⟩⟩ hx
         replace hx : v_6e = zy6 := hx.symm
         subst hx
         show En _ _ _ _ [(2, .pointer (some ⟨b0_0, 0, .none⟩)), (3, .pointer (some ⟨b0_1, 0, .none⟩)), (4, .pointer (some ⟨b0_2, 0, .none⟩)), (5, .pointer (some ⟨b3_5, 0, .none⟩)), (6, .slice av_6e nv_6e cv_6e), (9, .int .i64 v1_1)] [Chunk.box b0_0 62 [.int .i64 a_p0.W, .int .i64 a_p0.H, .int .i64 a_p0.Back, .slice q0_0 a_p0.Surfaces.length k0_0], Chunk.box b0_1 62 [.int .i64 a_p1.W, .int .i64 a_p1.H, .int .i64 a_p1.Back, .slice q1_0 a_p1.Surfaces.length k1_0], Chunk.box b0_2 96 [.slice .none 0 0], Chunk.box b3_5 137 [.int .i64 0, .int .i64 0, .int .i64 a_p1.W, .int .i64 a_p1.H], Chunk.own tRect fv_6e av_6e nv_6e cv_6e v_6e]
         refine En.block_exit (En.block_norm ?_)
         exact En.wk _ _ (sc (sc (sc (sc (sc (sc sn)))))) (fun _ h => h) (zK3 (v_6e, (av_6e, nv_6e, cv_6e, fv_6e)) (Option.some.inj ej3).symm)
        ·
         intro zK6_0
         refine WC.loopP (G := (Option Addr) × Nat × Nat × (List Nat)) (fun s g => match s, g with | (v_6, v1_6), (av_6, nv_6, cv_6, fv_6) => [(2, .pointer (some ⟨b0_0, 0, .none⟩)), (3, .pointer (some ⟨b0_1, 0, .none⟩)), (4, .pointer (some ⟨b0_2, 0, .none⟩)), (5, .pointer (some ⟨b3_5, 0, .none⟩)), (6, .slice av_6 nv_6 cv_6), (9, .int .i64 v1_1), (10, .int .i64 x16_7), (11, .int .i64 v1_6)]) (fun s g => match s, g with | (v_6, v1_6), (av_6, nv_6, cv_6, fv_6) => [Chunk.box b0_0 62 [.int .i64 a_p0.W, .int .i64 a_p0.H, .int .i64 a_p0.Back, .slice q0_0 a_p0.Surfaces.length k0_0], Chunk.box b0_1 62 [.int .i64 a_p1.W, .int .i64 a_p1.H, .int .i64 a_p1.Back, .slice q1_0 a_p1.Surfaces.length k1_0], Chunk.box b0_2 96 [.slice .none 0 0], Chunk.box b3_5 137 [.int .i64 0, .int .i64 0, .int .i64 a_p1.W, .int .i64 a_p1.H], Chunk.own tRect fv_6 av_6 nv_6 cv_6 v_6]) (v_1, 0) (av_1, nv_1, cv_1, fv_1) ezy6 (by exact sc (sc (sc (sc (sc (sc (sc (sc sn)))))))) (by exact (fun _ h => h)) ?_
         rintro zm6 ⟨v_6, v1_6⟩ ⟨av_6, nv_6, cv_6, fv_6⟩ zo6 zf6 zb6 ze6
         have zh6 : spec_DamageOf_L6 a_p0 a_p1 v1_1 x16_7 v_6 v1_6 = some zo6 := zf6
         unfold spec_DamageOf_L6 at zh6
         show WC _ _ _ _ _ [(2, .pointer (some ⟨b0_0, 0, .none⟩)), (3, .pointer (some ⟨b0_1, 0, .none⟩)), (4, .pointer (some ⟨b0_2, 0, .none⟩)), (5, .pointer (some ⟨b3_5, 0, .none⟩)), (6, .slice av_6 nv_6 cv_6), (9, .int .i64 v1_1), (10, .int .i64 x16_7), (11, .int .i64 v1_6)] [Chunk.box b0_0 62 [.int .i64 a_p0.W, .int .i64 a_p0.H, .int .i64 a_p0.Back, .slice q0_0 a_p0.Surfaces.length k0_0], Chunk.box b0_1 62 [.int .i64 a_p1.W, .int .i64 a_p1.H, .int .i64 a_p1.Back, .slice q1_0 a_p1.Surfaces.length k1_0], Chunk.box b0_2 96 [.slice .none 0 0], Chunk.box b3_5 137 [.int .i64 0, .int .i64 0, .int .i64 a_p1.W, .int .i64 a_p1.H], Chunk.own tRect fv_6 av_6 nv_6 cv_6 v_6]
         refine WC.seq (WC.sr ?_)
         refine mv ?_
         refine mv ?_
         refine sp (OpV.lss rfl rfl) ?_
         refine WL.nil (En.next ?_)
         refine WC.cond rfl ?_ ?_
         ·
          intro hc_8
          replace zh6 := ifO_t hc_8 zh6
          refine WC.skip (En.next (WC.seq ?_))
          obtain ⟨zy7, ej7, zh6⟩ := bnd zh6
          refine WC.cut (X := ((List RectT)) × ((Option Addr) × Nat × Nat × (List Nat))) .normal (fun x => zy7 = x.1) (fun x => match x with | (v_7j, (av_7j, nv_7j, cv_7j, fv_7j)) => [(2, .pointer (some ⟨b0_0, 0, .none⟩)), (3, .pointer (some ⟨b0_1, 0, .none⟩)), (4, .pointer (some ⟨b0_2, 0, .none⟩)), (5, .pointer (some ⟨b3_5, 0, .none⟩)), (6, .slice av_7j nv_7j cv_7j), (9, .int .i64 v1_1), (10, .int .i64 x16_7), (11, .int .i64 v1_6)]) (fun x => match x with | (v_7j, (av_7j, nv_7j, cv_7j, fv_7j)) => [Chunk.box b0_0 62 [.int .i64 a_p0.W, .int .i64 a_p0.H, .int .i64 a_p0.Back, .slice q0_0 a_p0.Surfaces.length k0_0], Chunk.box b0_1 62 [.int .i64 a_p1.W, .int .i64 a_p1.H, .int .i64 a_p1.Back, .slice q1_0 a_p1.Surfaces.length k1_0], Chunk.box b0_2 96 [.slice .none 0 0], Chunk.box b3_5 137 [.int .i64 0, .int .i64 0, .int .i64 a_p1.W, .int .i64 a_p1.H], Chunk.own tRect fv_7j av_7j nv_7j cv_7j v_7j]) ?_ ?_
          ·
           rintro ⟨v_7j, ⟨av_7j, nv_7j, cv_7j, fv_7j⟩⟩ hx
           replace hx : v_7j = zy7 := hx.symm
           subst hx
           show En _ _ _ _ [(2, .pointer (some ⟨b0_0, 0, .none⟩)), (3, .pointer (some ⟨b0_1, 0, .none⟩)), (4, .pointer (some ⟨b0_2, 0, .none⟩)), (5, .pointer (some ⟨b3_5, 0, .none⟩)), (6, .slice av_7j nv_7j cv_7j), (9, .int .i64 v1_1), (10, .int .i64 x16_7), (11, .int .i64 v1_6)] [Chunk.box b0_0 62 [.int .i64 a_p0.W, .int .i64 a_p0.H, .int .i64 a_p0.Back, .slice q0_0 a_p0.Surfaces.length k0_0], Chunk.box b0_1 62 [.int .i64 a_p1.W, .int .i64 a_p1.H, .int .i64 a_p1.Back, .slice q1_0 a_p1.Surfaces.length k1_0], Chunk.box b0_2 96 [.slice .none 0 0], Chunk.box b3_5 137 [.int .i64 0, .int .i64 0, .int .i64 a_p1.W, .int .i64 a_p1.H], Chunk.own tRect fv_7j av_7j nv_7j cv_7j v_7j]
           refine En.next (WC.region ?_)
           refine mv ?_
           refine sp (OpV.addR rfl rfl) ?_
           refine ag ?_
           refine WL.nil ?_
           exact En.backP zb6 zh6 (av_7j, nv_7j, cv_7j, fv_7j) (sc (sc (sc (sc (sc (sc (sc (sc sn)))))))) (fun _ h => h)
          ·
           intro zK7
           refine WC.block (WC.seq ?_)
           obtain ⟨x22_4, e22_4, ej7⟩ := bnd ej7
           obtain ⟨g22_4, o22_4, _, ha22_4, ⟨a22_4_1, c22_4_1, rfl, r22_4_1⟩, hd22_4⟩ := Rd.atIdx r1_0 e22_4
           replace hd22_4 : ∀ (j : Nat) v, ([.int .i64 x22_4.Id, .int .i64 x22_4.X, .int .i64 x22_4.Y, .int .i64 x22_4.W, .int .i64 x22_4.H, .int .i64 x22_4.Alpha, .int .i64 x22_4.Orient, .bool x22_4.Visible, .int .i64 x22_4.Buffer.W, .int .i64 x22_4.Buffer.H, .slice a22_4_1 x22_4.Buffer.Data.length c22_4_1] : List Value)[j]? = some v → w.cell? ⟨g22_4, o22_4 + v1_6.toNat * 11 + j, .none⟩ = some v := hd22_4
           obtain ⟨x22_7, e22_7, ej7⟩ := bnd ej7
           refine WC.drawn [(2, ?r22q72v2), (3, ?r22q72v3), (4, ?r22q72v4), (5, ?r22q72v5), (6, ?r22q72v6), (9, ?r22q72v9), (10, ?r22q72v10), (11, ?r22q72v11), (12, ?r22q72v12)] (by kernel_rfl) (by kernel_rfl) ?dH22q72 ?dK22q72
           case dH22q72 =>
            intro W hW hk
            refine hW.sp (OpV.loadAll rfl mq0 ag_62) ?_
            refine hW.sp (OpV.fieldAddr rfl fo_62_3) ?_
            refine hW.sp (OpV.loadBox rfl pt_60 mq1 rfl) ?_
            refine hW.mv ?_
            refine hW.sp (OpV.idxA rfl rfl se_60 ha22_4 ⟨(idx_some e22_4).1, (idx_some e22_4).2.1⟩) ?_
            refine hW.sp (OpV.fieldAddr rfl fo_73_0) ?_
            refine hW.sp (OpV.load1 rfl pt_3 (fun w hs => hs.cell (hd22_4 0 _ rfl))) ?_
            refine hW.sp (OpV.call (ec rfl (ec rfl e0)) ca_100 (fun w hs => w_spec_SurfaceIndex e22_7 (r0_0.ext hs.below))) ?_
            refine hW.sp (OpV.assign rfl) ?_
            refine hk _ ?_
            refine Sub.cons ?_ (Sub.cons ?_ (Sub.cons ?_ (Sub.cons ?_ (Sub.cons ?_ (Sub.cons ?_ (Sub.cons ?_ (Sub.cons ?_ (Sub.cons ?_ sn))))))))
            all_goals exact rfl
           refine En.next (WC.sr ?_)
           refine mv ?_
           refine sp (OpV.geq rfl rfl) ?_
           refine mv ?_
           refine Lt.ofWL.and 146 150 149 (p := ?pz6) (rest := ?qz6) (B := ?Bz6) rfl ?Tz6 ?Fz6 ?az6 ?bz6 ?cz6 ?dz6 ?ez6
           case Tz6 =>
            intro hcz6 hkz6
            refine mv ?_
            refine mv ?_
            refine sp (OpV.gtr rfl rfl) ?_
            refine hkz6 _ ?_ ?_
            exact rfl
            repeat (first | exact Sub.refl _ | refine Sub.skip rfl ?_)
           case Fz6 =>
            intro hcz6 hkz6
            refine sk ?_
            refine sk ?_
            refine sk ?_
            refine hkz6 _ ?_
            repeat (first | exact Sub.refl _ | refine Sub.skip rfl ?_)
           case az6 => exact rfl
           case bz6 => exact rfl
           case cz6 => exact rfl
           case dz6 => exact rfl
           refine WL.nil (En.next ?_)
           refine WC.cond rfl ?_ ?_
           ·
            intro hc_9
            replace ej7 := ifO_t hc_9 ej7
            obtain ⟨x24_4, e24_4, ej7⟩ := bnd ej7
            obtain ⟨g24_4, o24_4, _, ha24_4, ⟨a24_4_1, c24_4_1, rfl, r24_4_1⟩, hd24_4⟩ := Rd.atIdx r1_0 e24_4
            replace hd24_4 : ∀ (j : Nat) v, ([.int .i64 x24_4.Id, .int .i64 x24_4.X, .int .i64 x24_4.Y, .int .i64 x24_4.W, .int .i64 x24_4.H, .int .i64 x24_4.Alpha, .int .i64 x24_4.Orient, .bool x24_4.Visible, .int .i64 x24_4.Buffer.W, .int .i64 x24_4.Buffer.H, .slice a24_4_1 x24_4.Buffer.Data.length c24_4_1] : List Value)[j]? = some v → w.cell? ⟨g24_4, o24_4 + v1_1.toNat * 11 + j, .none⟩ = some v := hd24_4
            obtain ⟨x24_6, e24_6, ej7⟩ := bnd ej7
            obtain ⟨x24_10, e24_10, ej7⟩ := bnd ej7
            obtain ⟨g24_10, o24_10, _, ha24_10, ⟨a24_10_1, c24_10_1, rfl, r24_10_1⟩, hd24_10⟩ := Rd.atIdx r1_0 e24_10
            replace hd24_10 : ∀ (j : Nat) v, ([.int .i64 x24_10.Id, .int .i64 x24_10.X, .int .i64 x24_10.Y, .int .i64 x24_10.W, .int .i64 x24_10.H, .int .i64 x24_10.Alpha, .int .i64 x24_10.Orient, .bool x24_10.Visible, .int .i64 x24_10.Buffer.W, .int .i64 x24_10.Buffer.H, .slice a24_10_1 x24_10.Buffer.Data.length c24_10_1] : List Value)[j]? = some v → w.cell? ⟨g24_10, o24_10 + v1_6.toNat * 11 + j, .none⟩ = some v := hd24_10
            obtain ⟨x24_12, e24_12, ej7⟩ := bnd ej7
            obtain ⟨x24_13, e24_13, ej7⟩ := bnd ej7
            obtain ⟨x24_15, e24_15, ej7⟩ := bnd ej7
            refine WC.wkF (fun _ h => h.pm 4) ?_
            refine WC.drawnH [_] ([_, _, _, _]) (fun _ h => h) (by kernel_rfl) ?_
            refine tk 0 rfl (OpV.move rfl) ?_
            refine tk 1 rfl (OpV.fieldAddr rfl fo_62_3) ?_
            refine tk 2 rfl (OpV.loadBox rfl pt_60 mq1 rfl) ?_
            refine tk 3 rfl (OpV.move rfl) ?_
            refine tk 4 rfl (OpV.idxA rfl rfl se_60 ha24_4 ⟨(idx_some e24_4).1, (idx_some e24_4).2.1⟩) ?_
            refine tk 5 rfl (OpV.loadN rfl ag_73 rfl (fun w hs => hs.cellsAt hd24_4)) ?_
            refine tk 6 rfl (OpV.call (ec rfl e0) ca_104 (fun w hs => w_spec_SurfaceRect e24_6 (r24_4_1.ext hs.below))) ?_
            refine tk 7 rfl (OpV.fieldAddr rfl fo_62_3) ?_
            refine tk 8 rfl (OpV.loadBox rfl pt_60 mq1 rfl) ?_
            refine tk 9 rfl (OpV.move rfl) ?_
            refine tk 10 rfl (OpV.idxA rfl rfl se_60 ha24_10 ⟨(idx_some e24_10).1, (idx_some e24_10).2.1⟩) ?_
            refine tk 11 rfl (OpV.loadN rfl ag_73 rfl (fun w hs => hs.cellsAt hd24_10)) ?_
            refine tk 12 rfl (OpV.call (ec rfl e0) ca_104 (fun w hs => w_spec_SurfaceRect e24_12 (r24_10_1.ext hs.below))) ?_
            refine tk 13 rfl (OpV.call (ec rfl (ec rfl e0)) ca_105 (fun w hs => w_spec_Intersect e24_13)) ?_
            refine al1 14 rfl ?_
            refine OpH.litF (A := tRect) (xs := [x24_13]) tRect_flat (evps.cons rfl (evps.nil)) (bs_94_1_0 _ _ _ _) rfl rfl (Nat.le_of_ble_eq_true rfl) ?_
            intro b24_14
            refine ⟨[_, _], rfl, ?_⟩
            refine al1 15 rfl ?_
            refine OpH.appS (F := [_]) (A := tRect) tRect_flat rfl rfl rfl mi_94 rfl (by decide) (fun w hs => (Ow.rd (hs.mem mq0))) e24_15 ?_
            intro f24_15 a24_15 c24_15
            refine ⟨[_, _], rfl, ?_⟩
            refine WAE.rebase (H := []) ?_
            refine tk 16 rfl (OpV.assign rfl) ?_
            refine WAE.done (by kernel_rfl) ?_ _
            refine En.block_norm ?_
            exact En.wk _ _ (sc (sc (sc (sc (sc (sc (sc (sc sn)))))))) (fun _ h => ((((((h).pm 1).pm 5).pm 5).pm 5).pm 5).sub (.cons_cons _ (.cons_cons _ (.cons_cons _ (.cons_cons _ (.cons_cons _ (.cons _ (.slnil)))))))) (zK7 (x24_15, (a24_15, x24_15.length, c24_15, f24_15)) (Option.some.inj ej7).symm)
           ·
            intro hc_9
            replace ej7 := ifO_f hc_9 ej7
            refine WC.skip (En.block_norm ?_)
            exact En.wk _ _ (sc (sc (sc (sc (sc (sc (sc (sc sn)))))))) (fun _ h => h) (zK7 (v_6, (av_6, nv_6, cv_6, fv_6)) (Option.some.inj ej7).symm)
         ·
          intro hc_8
          replace zh6 := ifO_f hc_8 zh6
          refine WC.exit (En.then_exit (En.then_exit ?_))
          have hx := exitP ze6 zh6
          exact En.wk _ _ (sc (sc (sc (sc (sc (sc sn)))))) (fun _ h => h) (zK6_0 (v_6, (av_6, nv_6, cv_6, fv_6)) hx.symm)
     ·
      intro hc_4
      replace zh1 := ifO_f hc_4 zh1
      refine WC.exit (En.then_exit (En.then_exit ?_))
      have hx := exitP ze1 zh1
      exact En.wk _ _ (sc (sc (sc sn))) (fun _ h => ((((h).pm 4).pm 4).pm 4).sub (.cons_cons _ (.cons_cons _ (.cons_cons _ (.cons _ (.cons _ (.slnil))))))) (zK1_0 (v_1, (av_1, nv_1, cv_1, fv_1)) hx.symm)
   ·
    intro zK0_0
    refine WC.loopP (G := (Option Addr) × Nat × Nat × (List Nat)) (fun s g => match s, g with | (v_0, v1_0), (av_0, nv_0, cv_0, fv_0) => [(2, .pointer (some ⟨b0_0, 0, .none⟩)), (3, .pointer (some ⟨b0_1, 0, .none⟩)), (4, .pointer (some ⟨b0_2, 0, .none⟩)), (5, .pointer (some ⟨b3_5, 0, .none⟩)), (6, .slice av_0 nv_0 cv_0), (7, .int .i64 v1_0)]) (fun s g => match s, g with | (v_0, v1_0), (av_0, nv_0, cv_0, fv_0) => [Chunk.box b0_0 62 [.int .i64 a_p0.W, .int .i64 a_p0.H, .int .i64 a_p0.Back, .slice q0_0 a_p0.Surfaces.length k0_0], Chunk.box b0_1 62 [.int .i64 a_p1.W, .int .i64 a_p1.H, .int .i64 a_p1.Back, .slice q1_0 a_p1.Surfaces.length k1_0], Chunk.box b0_2 96 [.slice .none 0 0], Chunk.box b3_5 137 [.int .i64 0, .int .i64 0, .int .i64 a_p1.W, .int .i64 a_p1.H], Chunk.own tRect fv_0 av_0 nv_0 cv_0 v_0]) (([] : List RectT), 0) ((some ⟨b6_0, 0, .none⟩), 0, 0, [b6_0]) ezy0 (by exact sc (sc (sc (sc (sc (sc sn)))))) (by exact (fun _ h => ((((h).pm 1).pm 2).pm 3).pm 4)) ?_
    rintro zm0 ⟨v_0, v1_0⟩ ⟨av_0, nv_0, cv_0, fv_0⟩ zo0 zf0 zb0 ze0
    have zh0 : spec_DamageOf_L0 a_p0 a_p1 v_0 v1_0 = some zo0 := zf0
    unfold spec_DamageOf_L0 at zh0
    show WC _ _ _ _ _ [(2, .pointer (some ⟨b0_0, 0, .none⟩)), (3, .pointer (some ⟨b0_1, 0, .none⟩)), (4, .pointer (some ⟨b0_2, 0, .none⟩)), (5, .pointer (some ⟨b3_5, 0, .none⟩)), (6, .slice av_0 nv_0 cv_0), (7, .int .i64 v1_0)] [Chunk.box b0_0 62 [.int .i64 a_p0.W, .int .i64 a_p0.H, .int .i64 a_p0.Back, .slice q0_0 a_p0.Surfaces.length k0_0], Chunk.box b0_1 62 [.int .i64 a_p1.W, .int .i64 a_p1.H, .int .i64 a_p1.Back, .slice q1_0 a_p1.Surfaces.length k1_0], Chunk.box b0_2 96 [.slice .none 0 0], Chunk.box b3_5 137 [.int .i64 0, .int .i64 0, .int .i64 a_p1.W, .int .i64 a_p1.H], Chunk.own tRect fv_0 av_0 nv_0 cv_0 v_0]
    refine WC.seq (WC.sr ?_)
    refine mv ?_
    refine sp (OpV.fieldAddr rfl fo_62_3) ?_
    refine sp (OpV.loadBox rfl pt_60 mq0 rfl) ?_
    refine sp (OpV.len rfl si_60 rfl) ?_
    refine sp (OpV.lss rfl rfl) ?_
    refine WL.nil (En.next ?_)
    refine WC.cond rfl ?_ ?_
    ·
     intro hc_10
     replace zh0 := ifO_t hc_10 zh0
     refine WC.skip (En.next (WC.seq ?_))
     obtain ⟨zy8, ej8, zh0⟩ := bnd zh0
     refine WC.cut (X := ((List RectT)) × ((Option Addr) × Nat × Nat × (List Nat))) .normal (fun x => zy8 = x.1) (fun x => match x with | (v_8j, (av_8j, nv_8j, cv_8j, fv_8j)) => [(2, .pointer (some ⟨b0_0, 0, .none⟩)), (3, .pointer (some ⟨b0_1, 0, .none⟩)), (4, .pointer (some ⟨b0_2, 0, .none⟩)), (5, .pointer (some ⟨b3_5, 0, .none⟩)), (6, .slice av_8j nv_8j cv_8j), (7, .int .i64 v1_0)]) (fun x => match x with | (v_8j, (av_8j, nv_8j, cv_8j, fv_8j)) => [Chunk.box b0_0 62 [.int .i64 a_p0.W, .int .i64 a_p0.H, .int .i64 a_p0.Back, .slice q0_0 a_p0.Surfaces.length k0_0], Chunk.box b0_1 62 [.int .i64 a_p1.W, .int .i64 a_p1.H, .int .i64 a_p1.Back, .slice q1_0 a_p1.Surfaces.length k1_0], Chunk.box b0_2 96 [.slice .none 0 0], Chunk.box b3_5 137 [.int .i64 0, .int .i64 0, .int .i64 a_p1.W, .int .i64 a_p1.H], Chunk.own tRect fv_8j av_8j nv_8j cv_8j v_8j]) ?_ ?_
     ·
      rintro ⟨v_8j, ⟨av_8j, nv_8j, cv_8j, fv_8j⟩⟩ hx
      replace hx : v_8j = zy8 := hx.symm
      subst hx
      show En _ _ _ _ [(2, .pointer (some ⟨b0_0, 0, .none⟩)), (3, .pointer (some ⟨b0_1, 0, .none⟩)), (4, .pointer (some ⟨b0_2, 0, .none⟩)), (5, .pointer (some ⟨b3_5, 0, .none⟩)), (6, .slice av_8j nv_8j cv_8j), (7, .int .i64 v1_0)] [Chunk.box b0_0 62 [.int .i64 a_p0.W, .int .i64 a_p0.H, .int .i64 a_p0.Back, .slice q0_0 a_p0.Surfaces.length k0_0], Chunk.box b0_1 62 [.int .i64 a_p1.W, .int .i64 a_p1.H, .int .i64 a_p1.Back, .slice q1_0 a_p1.Surfaces.length k1_0], Chunk.box b0_2 96 [.slice .none 0 0], Chunk.box b3_5 137 [.int .i64 0, .int .i64 0, .int .i64 a_p1.W, .int .i64 a_p1.H], Chunk.own tRect fv_8j av_8j nv_8j cv_8j v_8j]
      refine En.next (WC.region ?_)
      refine mv ?_
      refine sp (OpV.addR rfl rfl) ?_
      refine ag ?_
      refine WL.nil ?_
      exact En.backP zb0 zh0 (av_8j, nv_8j, cv_8j, fv_8j) (sc (sc (sc (sc (sc (sc sn)))))) (fun _ h => h)
     ·
      intro zK8
      refine WC.block (WC.seq ?_)
      obtain ⟨x10_4, e10_4, ej8⟩ := bnd ej8
      obtain ⟨g10_4, o10_4, _, ha10_4, ⟨a10_4_1, c10_4_1, rfl, r10_4_1⟩, hd10_4⟩ := Rd.atIdx r0_0 e10_4
      replace hd10_4 : ∀ (j : Nat) v, ([.int .i64 x10_4.Id, .int .i64 x10_4.X, .int .i64 x10_4.Y, .int .i64 x10_4.W, .int .i64 x10_4.H, .int .i64 x10_4.Alpha, .int .i64 x10_4.Orient, .bool x10_4.Visible, .int .i64 x10_4.Buffer.W, .int .i64 x10_4.Buffer.H, .slice a10_4_1 x10_4.Buffer.Data.length c10_4_1] : List Value)[j]? = some v → w.cell? ⟨g10_4, o10_4 + v1_0.toNat * 11 + j, .none⟩ = some v := hd10_4
      obtain ⟨x10_7, e10_7, ej8⟩ := bnd ej8
      refine WC.drawn [(2, ?r10q6v2), (3, ?r10q6v3), (4, ?r10q6v4), (5, ?r10q6v5), (6, ?r10q6v6), (7, ?r10q6v7), (8, ?r10q6v8)] (by kernel_rfl) (by kernel_rfl) ?dH10q6 ?dK10q6
      case dH10q6 =>
       intro W hW hk
       refine hW.sp (OpV.loadAll rfl mq1 ag_62) ?_
       refine hW.sp (OpV.fieldAddr rfl fo_62_3) ?_
       refine hW.sp (OpV.loadBox rfl pt_60 mq0 rfl) ?_
       refine hW.mv ?_
       refine hW.sp (OpV.idxA rfl rfl se_60 ha10_4 ⟨(idx_some e10_4).1, (idx_some e10_4).2.1⟩) ?_
       refine hW.sp (OpV.fieldAddr rfl fo_73_0) ?_
       refine hW.sp (OpV.load1 rfl pt_3 (fun w hs => hs.cell (hd10_4 0 _ rfl))) ?_
       refine hW.sp (OpV.call (ec rfl (ec rfl e0)) ca_100 (fun w hs => w_spec_SurfaceIndex e10_7 (r1_0.ext hs.below))) ?_
       refine hW.sp (OpV.assign rfl) ?_
       refine hk _ ?_
       refine Sub.cons ?_ (Sub.cons ?_ (Sub.cons ?_ (Sub.cons ?_ (Sub.cons ?_ (Sub.cons ?_ (Sub.cons ?_ sn))))))
       all_goals exact rfl
      refine En.next (WC.seq ?_)
      obtain ⟨q11_15, e11_15, ej8⟩ := bnd ej8
      refine WC.drawn [(2, ?r11q6v2), (3, ?r11q6v3), (4, ?r11q6v4), (5, ?r11q6v5), (6, ?r11q6v6), (7, ?r11q6v7), (81, ?r11q6v81)] (by kernel_rfl) (by kernel_rfl) ?dH11q6 ?dK11q6
      case dH11q6 =>
       intro W hW hk
       refine hW.mv ?_
       refine hW.sp (OpV.lss rfl rfl) ?_
       refine hW.mv ?_
       refine hW.orQ 68 81 80 (p := ?pz7) (rest := ?qz7) (B := q11_15) rfl (fun hz => orO_t e11_15 hz) ?Tz7 ?Fz7 ?az7 ?bz7 ?cz7 ?dz7 ?ez7
       case Tz7 =>
        intro hcz7 hkz7
        refine hW.sk ?_
        refine hW.sk ?_
        refine hW.sk ?_
        refine hW.sk ?_
        refine hW.sk ?_
        refine hW.sk ?_
        refine hW.sk ?_
        refine hW.sk ?_
        refine hW.sk ?_
        refine hW.sk ?_
        refine hW.sk ?_
        refine hW.sk ?_
        refine hkz7 _ ?_
        repeat (first | exact Sub.refl _ | refine Sub.skip rfl ?_)
       case Fz7 =>
        intro hcz7 hkz7
        have hqz7 := orO_f e11_15 hcz7
        obtain ⟨x11_6, e11_6, hqz7⟩ := bnd hqz7
        obtain ⟨g11_6, o11_6, _, ha11_6, ⟨a11_6_1, c11_6_1, rfl, r11_6_1⟩, hd11_6⟩ := Rd.atIdx r0_0 e11_6
        replace hd11_6 : ∀ (j : Nat) v, ([.int .i64 x11_6.Id, .int .i64 x11_6.X, .int .i64 x11_6.Y, .int .i64 x11_6.W, .int .i64 x11_6.H, .int .i64 x11_6.Alpha, .int .i64 x11_6.Orient, .bool x11_6.Visible, .int .i64 x11_6.Buffer.W, .int .i64 x11_6.Buffer.H, .slice a11_6_1 x11_6.Buffer.Data.length c11_6_1] : List Value)[j]? = some v → w.cell? ⟨g11_6, o11_6 + v1_0.toNat * 11 + j, .none⟩ = some v := hd11_6
        obtain ⟨x11_11, e11_11, hqz7⟩ := bnd hqz7
        obtain ⟨g11_11, o11_11, _, ha11_11, ⟨a11_11_1, c11_11_1, rfl, r11_11_1⟩, hd11_11⟩ := Rd.atIdx r1_0 e11_11
        replace hd11_11 : ∀ (j : Nat) v, ([.int .i64 x11_11.Id, .int .i64 x11_11.X, .int .i64 x11_11.Y, .int .i64 x11_11.W, .int .i64 x11_11.H, .int .i64 x11_11.Alpha, .int .i64 x11_11.Orient, .bool x11_11.Visible, .int .i64 x11_11.Buffer.W, .int .i64 x11_11.Buffer.H, .slice a11_11_1 x11_11.Buffer.Data.length c11_11_1] : List Value)[j]? = some v → w.cell? ⟨g11_11, o11_11 + x10_7.toNat * 11 + j, .none⟩ = some v := hd11_11
        obtain ⟨x11_13, e11_13, hqz7⟩ := bnd hqz7
        obtain rfl := Option.some.inj hqz7
        refine hW.sp (OpV.fieldAddr rfl fo_62_3) ?_
        refine hW.sp (OpV.loadBox rfl pt_60 mq0 rfl) ?_
        refine hW.mv ?_
        refine hW.sp (OpV.idxA rfl rfl se_60 ha11_6 ⟨(idx_some e11_6).1, (idx_some e11_6).2.1⟩) ?_
        refine hW.sp (OpV.loadN rfl ag_73 rfl (fun w hs => hs.cellsAt hd11_6)) ?_
        refine hW.sp (OpV.fieldAddr rfl fo_62_3) ?_
        refine hW.sp (OpV.loadBox rfl pt_60 mq1 rfl) ?_
        refine hW.mv ?_
        refine hW.sp (OpV.idxA rfl rfl se_60 ha11_11 ⟨(idx_some e11_11).1, (idx_some e11_11).2.1⟩) ?_
        refine hW.sp (OpV.loadN rfl ag_73 rfl (fun w hs => hs.cellsAt hd11_11)) ?_
        refine hW.sp (OpV.call (ec rfl (ec rfl e0)) ca_102 (fun w hs => w_spec_SameSurface e11_13 (r11_6_1.ext hs.below) (r11_11_1.ext hs.below))) ?_
        refine hW.sp (OpV.not rfl) ?_
        refine hkz7 _ ?_ ?_
        exact rfl
        repeat (first | exact Sub.refl _ | refine Sub.skip rfl ?_)
       case az7 => exact rfl
       case bz7 => exact rfl
       case cz7 => exact rfl
       case dz7 => exact rfl
       refine hk _ ?_
       refine Sub.cons ?_ (Sub.cons ?_ (Sub.cons ?_ (Sub.cons ?_ (Sub.cons ?_ (Sub.cons ?_ (Sub.cons ?_ sn))))))
       all_goals exact rfl
      refine En.next ?_
      refine WC.cond rfl ?_ ?_
      ·
       intro hc_11
       replace ej8 := ifO_t hc_11 ej8
       obtain ⟨x12_4, e12_4, ej8⟩ := bnd ej8
       obtain ⟨g12_4, o12_4, _, ha12_4, ⟨a12_4_1, c12_4_1, rfl, r12_4_1⟩, hd12_4⟩ := Rd.atIdx r0_0 e12_4
       replace hd12_4 : ∀ (j : Nat) v, ([.int .i64 x12_4.Id, .int .i64 x12_4.X, .int .i64 x12_4.Y, .int .i64 x12_4.W, .int .i64 x12_4.H, .int .i64 x12_4.Alpha, .int .i64 x12_4.Orient, .bool x12_4.Visible, .int .i64 x12_4.Buffer.W, .int .i64 x12_4.Buffer.H, .slice a12_4_1 x12_4.Buffer.Data.length c12_4_1] : List Value)[j]? = some v → w.cell? ⟨g12_4, o12_4 + v1_0.toNat * 11 + j, .none⟩ = some v := hd12_4
       obtain ⟨x12_6, e12_6, ej8⟩ := bnd ej8
       obtain ⟨x12_8, e12_8, ej8⟩ := bnd ej8
       refine WC.region ?_
       refine mv ?_
       refine sp (OpV.fieldAddr rfl fo_62_3) ?_
       refine sp (OpV.loadBox rfl pt_60 mq0 rfl) ?_
       refine mv ?_
       refine sp (OpV.idxA rfl rfl se_60 ha12_4 ⟨(idx_some e12_4).1, (idx_some e12_4).2.1⟩) ?_
       refine sp (OpV.loadN rfl ag_73 rfl (fun w hs => hs.cellsAt hd12_4)) ?_
       refine sp (OpV.call (ec rfl e0) ca_104 (fun w hs => w_spec_SurfaceRect e12_6 (r12_4_1.ext hs.below))) ?_
       refine WL.heavy rfl rfl rfl (OpH.litF (A := tRect) (xs := [x12_6]) tRect_flat (evps.cons rfl (evps.nil)) (bs_94_1_0 _ _ _ _) rfl rfl (Nat.le_of_ble_eq_true rfl) ?_)
       intro b12_7
       refine WL.heavy rfl rfl rfl (OpH.appS (F := [_, _, _, _, _]) (A := tRect) tRect_flat rfl rfl rfl mi_94 rfl (by decide) (fun w hs => (Ow.rd (hs.mem mq0))) e12_8 ?_)
       intro f12_8 a12_8 c12_8
       refine ag ?_
       refine WL.nil (En.block_norm ?_)
       exact En.wk _ _ (sc (sc (sc (sc (sc (sc sn)))))) (fun _ h => ((((((h).pm 5).pm 5).pm 5).pm 5).pm 5).sub (.cons_cons _ (.cons_cons _ (.cons_cons _ (.cons_cons _ (.cons_cons _ (.cons _ (.slnil)))))))) (zK8 (x12_8, (a12_8, x12_8.length, c12_8, f12_8)) (Option.some.inj ej8).symm)
      ·
       intro hc_11
       replace ej8 := ifO_f hc_11 ej8
       refine WC.skip (En.block_norm ?_)
       exact En.wk _ _ (sc (sc (sc (sc (sc (sc sn)))))) (fun _ h => h) (zK8 (v_0, (av_0, nv_0, cv_0, fv_0)) (Option.some.inj ej8).symm)
    ·
     intro hc_10
     replace zh0 := ifO_f hc_10 zh0
     refine WC.exit (En.then_exit (En.then_exit ?_))
     have hx := exitP ze0 zh0
     exact En.wk _ _ (sc (sc (sc (sc (sc sn))))) (fun _ h => h) (zK0_0 (v_0, (av_0, nv_0, cv_0, fv_0)) hx.symm)

theorem w_laws_FnCursorFree {a_p0 : List Int} {r : Bool} {q0_0 : Option Addr} {l0_0 k0_0 : Nat} (h : laws_FnCursorFree a_p0 = some r) {w : World} (r0_0 : Rd tU8 w q0_0 l0_0 k0_0 a_p0)   :
    Calls Try.prog 8 #[.slice q0_0 l0_0 k0_0] w (fun en w' => en = .returned (.bool r) ∧ Ext w w') := by
 obtain rfl := r0_0.1
 unfold laws_FnCursorFree at h
 refine enter (vs := [_]) Try.func8 rfl rfl rfl rfl ?_
 refine WC.sr ?_
 refine ag ?_
 refine WL.nil (En.next (WC.seq (WC.seq ?_)))
 obtain ⟨x1_1, e1_1, h⟩ := bnd h
 refine WC.region ?_
 refine mv ?_
 refine sp (OpV.call (ec rfl e0) ca_26 (fun w hs => w_laws_big e1_1 (r0_0.ext hs.below))) ?_
 refine WL.nil (En.next ?_)
 refine WC.cond rfl ?_ ?_
 ·
  intro hc_1
  replace h := ifO_t hc_1 h
  refine WC.sr ?_
  refine ag ?_
  refine WL.nil (En.next (WC.ret (En.then_ret ?_)))
  refine En.ret1 rfl (Res.tmp rfl) ?_
  obtain rfl := Option.some.inj h
  intro w' hs
  exact ⟨rfl, hs.below⟩
 ·
  intro hc_1
  replace h := ifO_f hc_1 h
  refine WC.skip (En.next (WC.seq ?_))
  obtain ⟨⟨x3_1a, x3_1b⟩, e3_1, h⟩ := bnd h
  refine WC.region ?_
  refine mv ?_
  refine WL.heavy rfl rfl rfl (OpH.callR (ec rfl e0) ca_31 (fun w hs => w_spec_DrawAssignment e3_1 (r0_0.ext hs.below)) ?_)
  rintro _ _ ⟨a3_100, n3_100, c3_100, f3_100, rfl, rfl⟩
  refine mv ?_
  refine sp (OpV.extract rfl rfl) ?_
  refine sp (OpV.extract rfl rfl) ?_
  refine WL.heavy rfl rfl rfl (OpH.alloc zc_62 ?_)
  intro b3_5
  refine WL.heavy rfl rfl rfl (OpH.alloc zc_64 ?_)
  intro b3_6
  refine WL.heavy0 rfl rfl (OpH.storeTo (A := [_]) [_, _, _, _] rfl rfl rfl ts_62 rfl rfl rfl ?_)
  refine WL.heavy0 rfl rfl (OpH.storeTo (A := []) [_, _, _, _, _, _] rfl rfl rfl ts_64 rfl rfl rfl ?_)
  refine WL.nil (En.next (WC.sr ?_))
  refine sp (OpV.fieldAddr rfl fo_64_1) ?_
  refine WL.heavy0 rfl rfl (OpH.storeTo (A := []) [_, _, _, _, _, _] rfl rfl rfl ts_4 rfl rfl rfl ?_)
  refine WL.nil (En.next (WC.seq ?_))
  obtain ⟨x5_2, e5_2, h⟩ := bnd h
  obtain ⟨x5_4, e5_4, h⟩ := bnd h
  obtain ⟨⟨x5_6a, x5_6b⟩, e5_6, h⟩ := bnd h
  refine WC.cut (X := Nat × (Option Addr) × Nat × Nat × (List Nat)) .normal (fun _ => True) (fun x => match x with | (b5_10, a5_600, n5_600, c5_600, f5_600) => [(0, .slice q0_0 a_p0.length k0_0), (3, .pointer (some ⟨b3_5, 0, .none⟩)), (4, .pointer (some ⟨b3_6, 0, .none⟩)), (5, .pointer (some ⟨b5_10, 0, .none⟩)), (6, .bool x5_6b)]) (fun x => match x with | (b5_10, a5_600, n5_600, c5_600, f5_600) => [Chunk.box b5_10 62 [.int .i64 x5_6a.W, .int .i64 x5_6a.H, .int .i64 x5_6a.Back, .slice a5_600 n5_600 c5_600], Chunk.lie tSurface f5_600 a5_600 n5_600 c5_600 x5_6a.Surfaces, Chunk.box b3_6 64 [.int .i64 x3_1b.Overlays, .bool true, .int .i64 x3_1b.Layout, .bool x3_1b.Partial, .bool x3_1b.Sleep, .bool x3_1b.Secret], Chunk.box b3_5 62 [.int .i64 x3_1a.W, .int .i64 x3_1a.H, .int .i64 x3_1a.Back, .slice a3_100 n3_100 c3_100], Chunk.lie tSurface f3_100 a3_100 n3_100 c3_100 x3_1a.Surfaces]) ?_ ?_
  ·
   rintro ⟨b5_10, a5_600, n5_600, c5_600, f5_600⟩ _
   show En _ _ _ _ [(0, .slice q0_0 a_p0.length k0_0), (3, .pointer (some ⟨b3_5, 0, .none⟩)), (4, .pointer (some ⟨b3_6, 0, .none⟩)), (5, .pointer (some ⟨b5_10, 0, .none⟩)), (6, .bool x5_6b)] [Chunk.box b5_10 62 [.int .i64 x5_6a.W, .int .i64 x5_6a.H, .int .i64 x5_6a.Back, .slice a5_600 n5_600 c5_600], Chunk.lie tSurface f5_600 a5_600 n5_600 c5_600 x5_6a.Surfaces, Chunk.box b3_6 64 [.int .i64 x3_1b.Overlays, .bool true, .int .i64 x3_1b.Layout, .bool x3_1b.Partial, .bool x3_1b.Sleep, .bool x3_1b.Secret], Chunk.box b3_5 62 [.int .i64 x3_1a.W, .int .i64 x3_1a.H, .int .i64 x3_1a.Back, .slice a3_100 n3_100 c3_100], Chunk.lie tSurface f3_100 a3_100 n3_100 c3_100 x3_1a.Surfaces]
   refine En.next (WC.seq (WC.sr ?_))
   refine mv ?_
   refine sp (OpV.not rfl) ?_
   refine WL.nil (En.next ?_)
   refine WC.cond rfl ?_ ?_
   ·
    intro hc_2
    replace h := ifO_t hc_2 h
    refine WC.sr ?_
    refine sp (OpV.fieldAddr rfl fo_62_3) ?_
    refine sp (OpV.loadBox rfl pt_60 mq3 rfl) ?_
    refine sp (OpV.inhF fun hin => OpV.lenO (xs := x3_1a.Surfaces) rfl si_60 rfl (lieLen hin mq4)) ?_
    refine sp (OpV.eql rfl rfl) ?_
    refine ag ?_
    refine WL.nil (En.next (WC.ret (En.then_ret ?_)))
    refine En.ret1 rfl (Res.tmp rfl) ?_
    obtain rfl := Option.some.inj h
    intro w' hs
    exact ⟨rfl, hs.below⟩
   ·
    intro hc_2
    replace h := ifO_f hc_2 h
    refine WC.skip (En.next (WC.seq ?_))
    obtain ⟨x8_2, e8_2, h⟩ := bnd h
    obtain ⟨x8_6, e8_6, h⟩ := bnd h
    obtain ⟨⟨x8_10a, x8_10b⟩, e8_10, h⟩ := bnd h
    refine WC.cut (X := Nat × (Option Addr) × Nat × Nat × (List Nat)) .normal (fun _ => True) (fun x => match x with | (b8_14, a8_1000, n8_1000, c8_1000, f8_1000) => [(4, .pointer (some ⟨b3_6, 0, .none⟩)), (5, .pointer (some ⟨b5_10, 0, .none⟩)), (7, .pointer (some ⟨b8_14, 0, .none⟩))]) (fun x => match x with | (b8_14, a8_1000, n8_1000, c8_1000, f8_1000) => [Chunk.box b8_14 62 [.int .i64 x8_10a.W, .int .i64 x8_10a.H, .int .i64 x8_10a.Back, .slice a8_1000 n8_1000 c8_1000], Chunk.lie tSurface f8_1000 a8_1000 n8_1000 c8_1000 x8_10a.Surfaces, Chunk.box b5_10 62 [.int .i64 x5_6a.W, .int .i64 x5_6a.H, .int .i64 x5_6a.Back, .slice a5_600 n5_600 c5_600], Chunk.lie tSurface f5_600 a5_600 n5_600 c5_600 x5_6a.Surfaces, Chunk.box b3_6 64 [.int .i64 x3_1b.Overlays, .bool true, .int .i64 x3_1b.Layout, .bool x3_1b.Partial, .bool x3_1b.Sleep, .bool x3_1b.Secret]]) ?_ ?_
    ·
     rintro ⟨b8_14, a8_1000, n8_1000, c8_1000, f8_1000⟩ _
     show En _ _ _ _ [(4, .pointer (some ⟨b3_6, 0, .none⟩)), (5, .pointer (some ⟨b5_10, 0, .none⟩)), (7, .pointer (some ⟨b8_14, 0, .none⟩))] [Chunk.box b8_14 62 [.int .i64 x8_10a.W, .int .i64 x8_10a.H, .int .i64 x8_10a.Back, .slice a8_1000 n8_1000 c8_1000], Chunk.lie tSurface f8_1000 a8_1000 n8_1000 c8_1000 x8_10a.Surfaces, Chunk.box b5_10 62 [.int .i64 x5_6a.W, .int .i64 x5_6a.H, .int .i64 x5_6a.Back, .slice a5_600 n5_600 c5_600], Chunk.lie tSurface f5_600 a5_600 n5_600 c5_600 x5_6a.Surfaces, Chunk.box b3_6 64 [.int .i64 x3_1b.Overlays, .bool true, .int .i64 x3_1b.Layout, .bool x3_1b.Partial, .bool x3_1b.Sleep, .bool x3_1b.Secret]]
     refine En.next (WC.seq ?_)
     obtain ⟨⟨x9_2a, x9_2b⟩, e9_2, h⟩ := bnd h
     refine WC.region ?_
     refine sp (OpV.loadAll rfl mq2 ag_62) ?_
     refine sp (OpV.loadAll rfl mq4 ag_64) ?_
     refine WL.heavy rfl rfl rfl (OpH.callR (ec rfl (ec rfl e0)) ca_33 (fun w hs => w_impl_AssignedOf e9_2 ((hs.mem mq3).2 _ (fun _ _ => rfl))) ?_)
     rintro _ _ ⟨a9_200, n9_200, c9_200, f9_200, rfl, rfl⟩
     refine mv ?_
     refine sp (OpV.extract rfl rfl) ?_
     refine sp (OpV.extract rfl rfl) ?_
     refine ag ?_
     refine ag ?_
     refine WL.nil (En.next (WC.seq ?_))
     obtain ⟨q10_10, e10_10, h⟩ := bnd h
     obtain ⟨q10_19, e10_19, h⟩ := bnd h
     obtain ⟨q10_31, e10_31, h⟩ := bnd h
     refine WC.cut (X := Unit) .normal (fun _ => True) (fun x => match x with | () => [(2, .bool q10_31)]) (fun x => match x with | () => []) ?_ ?_
     ·
      rintro ⟨⟩ _
      show En _ _ _ _ [(2, .bool q10_31)] []
      refine En.next (WC.ret ?_)
      refine En.ret1 rfl (Res.tmp rfl) ?_
      obtain rfl := Option.some.inj h
      intro w' hs
      exact ⟨rfl, hs.below⟩
     ·
      intro KR10
      refine WC.drawnH [] ([_, _, _, _, _, _]) (fun _ h => h) (by kernel_rfl) ?_
      refine tk 0 rfl (OpV.move rfl) ?_
      refine tk 1 rfl (OpV.gtr rfl rfl) ?_
      refine tk 2 rfl (OpV.move rfl) ?_
      refine WAE.split (t := 57) rfl ?_ ?_
      ·
       intro hs1
       have hqhs1 := andO_t e10_10 hs1
       obtain ⟨x10_4, e10_4, hqhs1⟩ := bnd hqhs1
       obtain rfl := Option.some.inj hqhs1
       refine tk 3 rfl (OpV.move rfl) ?_
       refine tk 4 rfl (OpV.call (ec rfl (ec rfl e0)) ca_48 (fun w hs => w_laws_get e10_4 (Ow.rd (hs.mem mq0)))) ?_
       refine tk 5 rfl (OpV.fieldAddr rfl fo_62_3) ?_
       refine tk 6 rfl (OpV.loadBox rfl pt_60 mq3 rfl) ?_
       refine tk 7 rfl (OpV.inhF fun hin => OpV.lenO (xs := x5_6a.Surfaces) rfl si_60 rfl (lieLen hin mq4)) ?_
       refine tk 8 rfl (OpV.subR rfl rfl) ?_
       refine tk 9 rfl (OpV.eql rfl rfl) ?_
       refine tk 10 rfl (OpV.pickT rfl rfl) ?_
       refine tk 11 rfl (OpV.move rfl) ?_
       refine WAE.split (t := 66) rfl ?_ ?_
       ·
        intro hs2
        have hqhs2 := andO_t e10_19 hs2
        obtain ⟨x10_14, e10_14, hqhs2⟩ := bnd hqhs2
        obtain ⟨x10_17, e10_17, hqhs2⟩ := bnd hqhs2
        obtain ⟨x10_18, e10_18, hqhs2⟩ := bnd hqhs2
        obtain rfl := Option.some.inj hqhs2
        refine tk 12 rfl (OpV.loadAll rfl mq3 ag_62) ?_
        refine tk 13 rfl (OpV.loadAll rfl mq5 ag_64) ?_
        refine tk 15 rfl (OpV.loadAll rfl mq1 ag_62) ?_
        refine tk 16 rfl (OpV.loadAll rfl mq5 ag_64) ?_
        refine al1 14 rfl ?_
        refine OpH.callR (ec rfl (ec rfl e0)) ca_42 (fun w hs => w_impl_RestOf e10_14 ((hs.mem mq4).2 _ (fun _ _ => rfl))) ?_
        rintro _ _ ⟨a10_1400, n10_1400, c10_1400, f10_1400, rfl, rfl⟩
        refine ⟨[_], rfl, ?_⟩
        refine WAE.rebase (H := []) ?_
        refine al1 17 rfl ?_
        refine OpH.callR (ec rfl (ec rfl e0)) ca_42 (fun w hs => w_impl_RestOf e10_17 ((hs.mem mq3).2 _ (fun _ _ => rfl))) ?_
        rintro _ _ ⟨a10_1700, n10_1700, c10_1700, f10_1700, rfl, rfl⟩
        refine ⟨[_], rfl, ?_⟩
        refine WAE.rebase (H := []) ?_
        refine tk 18 rfl (OpV.call (ec rfl (ec rfl e0)) ca_49 (fun w hs => w_laws_sameScene e10_18 (Ow.rd (hs.mem mq1)) (Ow.rd (hs.mem mq0)))) ?_
        refine tk 19 rfl (OpV.pickT rfl rfl) ?_
        refine tk 20 rfl (OpV.move rfl) ?_
        refine WAE.split (t := 75) rfl ?_ ?_
        ·
         intro hs3
         have hqhs3 := andO_t e10_31 hs3
         obtain ⟨x10_23, e10_23, hqhs3⟩ := bnd hqhs3
         obtain ⟨x10_26, e10_26, hqhs3⟩ := bnd hqhs3
         obtain ⟨x10_27, e10_27, hqhs3⟩ := bnd hqhs3
         obtain rfl := Option.some.inj hqhs3
         refine tk 21 rfl (OpV.loadAll rfl mq5 ag_62) ?_
         refine tk 22 rfl (OpV.loadAll rfl mq7 ag_64) ?_
         refine tk 24 rfl (OpV.loadAll rfl mq3 ag_62) ?_
         refine tk 25 rfl (OpV.loadAll rfl mq7 ag_64) ?_
         refine al1 23 rfl ?_
         refine OpH.callR (ec rfl (ec rfl e0)) ca_51 (fun w hs => w_spec_RestOf e10_23 ((hs.mem mq6).2 _ (fun _ _ => rfl))) ?_
         rintro _ _ ⟨a10_2300, n10_2300, c10_2300, f10_2300, rfl, rfl⟩
         refine ⟨[_], rfl, ?_⟩
         refine WAE.rebase (H := []) ?_
         refine al1 26 rfl ?_
         refine OpH.callR (ec rfl (ec rfl e0)) ca_42 (fun w hs => w_impl_RestOf e10_26 ((hs.mem mq5).2 _ (fun _ _ => rfl))) ?_
         rintro _ _ ⟨a10_2600, n10_2600, c10_2600, f10_2600, rfl, rfl⟩
         refine ⟨[_], rfl, ?_⟩
         refine WAE.rebase (H := []) ?_
         refine al1 27 rfl ?_
         refine OpH.callR (ec rfl (ec rfl e0)) ca_50 (fun w hs => w_spec_DamageOf e10_27 (Ow.rd (hs.mem mq1)) (Ow.rd (hs.mem mq0))) ?_
         rintro _ _ ⟨a10_2700, n10_2700, c10_2700, f10_2700, rfl, rfl⟩
         refine ⟨[_], rfl, ?_⟩
         refine WAE.rebase (H := []) ?_
         refine tk 28 rfl (OpV.field1 rfl ft_96_0 pt_94 rfl) ?_
         refine tk 29 rfl (OpV.inhF fun hin => OpV.lenO (xs := x10_27.Rects) rfl si_94 rfl (ownLen hin mq0)) ?_
         refine tk 30 rfl (OpV.eql rfl rfl) ?_
         refine tk 31 rfl (OpV.pickT rfl rfl) ?_
         refine tk 32 rfl (OpV.assign rfl) ?_
         refine WAE.done (by kernel_rfl) ?_ _
         exact En.wk _ _ (sc sn) (fun _ h => (h).sub (.cons _ (.cons _ (.cons _ (.cons _ (.cons _ (.cons _ (.cons _ (.cons _ (.cons _ (.cons _ (.cons _ (.slnil))))))))))))) (KR10 () trivial)
        ·
         intro hs3
         obtain rfl := andO_f e10_31 hs3
         refine WAE.skip (i := 21) rfl (by kernel_rfl) (by kernel_rfl) (by kernel_rfl) rfl rfl rfl ?_
         refine WAE.skip (i := 22) rfl (by kernel_rfl) (by kernel_rfl) (by kernel_rfl) rfl rfl rfl ?_
         refine WAE.skip (i := 23) rfl (by kernel_rfl) (by kernel_rfl) (by kernel_rfl) rfl rfl rfl ?_
         refine WAE.skip (i := 24) rfl (by kernel_rfl) (by kernel_rfl) (by kernel_rfl) rfl rfl rfl ?_
         refine WAE.skip (i := 25) rfl (by kernel_rfl) (by kernel_rfl) (by kernel_rfl) rfl rfl rfl ?_
         refine WAE.skip (i := 26) rfl (by kernel_rfl) (by kernel_rfl) (by kernel_rfl) rfl rfl rfl ?_
         refine WAE.skip (i := 27) rfl (by kernel_rfl) (by kernel_rfl) (by kernel_rfl) rfl rfl rfl ?_
         refine WAE.skip (i := 28) rfl (by kernel_rfl) (by kernel_rfl) (by kernel_rfl) rfl rfl rfl ?_
         refine WAE.skip (i := 29) rfl (by kernel_rfl) (by kernel_rfl) (by kernel_rfl) rfl rfl rfl ?_
         refine WAE.skip (i := 30) rfl (by kernel_rfl) (by kernel_rfl) (by kernel_rfl) rfl rfl rfl ?_
         refine tk 31 rfl (OpV.pickF rfl rfl) ?_
         refine tk 32 rfl (OpV.assign rfl) ?_
         refine WAE.done (by kernel_rfl) ?_ _
         exact En.wk _ _ (sc sn) (fun _ h => (h).sub (.cons _ (.cons _ (.cons _ (.cons _ (.cons _ (.cons _ (.cons _ (.cons _ (.slnil)))))))))) (KR10 () trivial)
       ·
        intro hs2
        obtain rfl := andO_f e10_19 hs2
        refine WAE.skip (i := 12) rfl (by kernel_rfl) (by kernel_rfl) (by kernel_rfl) rfl rfl rfl ?_
        refine WAE.skip (i := 13) rfl (by kernel_rfl) (by kernel_rfl) (by kernel_rfl) rfl rfl rfl ?_
        refine WAE.skip (i := 14) rfl (by kernel_rfl) (by kernel_rfl) (by kernel_rfl) rfl rfl rfl ?_
        refine WAE.skip (i := 15) rfl (by kernel_rfl) (by kernel_rfl) (by kernel_rfl) rfl rfl rfl ?_
        refine WAE.skip (i := 16) rfl (by kernel_rfl) (by kernel_rfl) (by kernel_rfl) rfl rfl rfl ?_
        refine WAE.skip (i := 17) rfl (by kernel_rfl) (by kernel_rfl) (by kernel_rfl) rfl rfl rfl ?_
        refine WAE.skip (i := 18) rfl (by kernel_rfl) (by kernel_rfl) (by kernel_rfl) rfl rfl rfl ?_
        refine tk 19 rfl (OpV.pickF rfl rfl) ?_
        refine tk 20 rfl (OpV.move rfl) ?_
        refine WAE.split (t := 75) rfl ?_ ?_
        ·
         intro hs4
         have hqhs4 := andO_t e10_31 hs4
         obtain ⟨x10_23, e10_23, hqhs4⟩ := bnd hqhs4
         obtain ⟨x10_26, e10_26, hqhs4⟩ := bnd hqhs4
         obtain ⟨x10_27, e10_27, hqhs4⟩ := bnd hqhs4
         obtain rfl := Option.some.inj hqhs4
         refine tk 21 rfl (OpV.loadAll rfl mq3 ag_62) ?_
         refine tk 22 rfl (OpV.loadAll rfl mq5 ag_64) ?_
         refine tk 24 rfl (OpV.loadAll rfl mq1 ag_62) ?_
         refine tk 25 rfl (OpV.loadAll rfl mq5 ag_64) ?_
         refine al1 23 rfl ?_
         refine OpH.callR (ec rfl (ec rfl e0)) ca_51 (fun w hs => w_spec_RestOf e10_23 ((hs.mem mq4).2 _ (fun _ _ => rfl))) ?_
         rintro _ _ ⟨a10_2300, n10_2300, c10_2300, f10_2300, rfl, rfl⟩
         refine ⟨[_], rfl, ?_⟩
         refine WAE.rebase (H := []) ?_
         refine al1 26 rfl ?_
         refine OpH.callR (ec rfl (ec rfl e0)) ca_42 (fun w hs => w_impl_RestOf e10_26 ((hs.mem mq3).2 _ (fun _ _ => rfl))) ?_
         rintro _ _ ⟨a10_2600, n10_2600, c10_2600, f10_2600, rfl, rfl⟩
         refine ⟨[_], rfl, ?_⟩
         refine WAE.rebase (H := []) ?_
         refine al1 27 rfl ?_
         refine OpH.callR (ec rfl (ec rfl e0)) ca_50 (fun w hs => w_spec_DamageOf e10_27 (Ow.rd (hs.mem mq1)) (Ow.rd (hs.mem mq0))) ?_
         rintro _ _ ⟨a10_2700, n10_2700, c10_2700, f10_2700, rfl, rfl⟩
         refine ⟨[_], rfl, ?_⟩
         refine WAE.rebase (H := []) ?_
         refine tk 28 rfl (OpV.field1 rfl ft_96_0 pt_94 rfl) ?_
         refine tk 29 rfl (OpV.inhF fun hin => OpV.lenO (xs := x10_27.Rects) rfl si_94 rfl (ownLen hin mq0)) ?_
         refine tk 30 rfl (OpV.eql rfl rfl) ?_
         refine tk 31 rfl (OpV.pickT rfl rfl) ?_
         refine tk 32 rfl (OpV.assign rfl) ?_
         refine WAE.done (by kernel_rfl) ?_ _
         exact En.wk _ _ (sc sn) (fun _ h => (h).sub (.cons _ (.cons _ (.cons _ (.cons _ (.cons _ (.cons _ (.cons _ (.cons _ (.cons _ (.slnil))))))))))) (KR10 () trivial)
        ·
         intro hs4
         obtain rfl := andO_f e10_31 hs4
         refine WAE.skip (i := 21) rfl (by kernel_rfl) (by kernel_rfl) (by kernel_rfl) rfl rfl rfl ?_
         refine WAE.skip (i := 22) rfl (by kernel_rfl) (by kernel_rfl) (by kernel_rfl) rfl rfl rfl ?_
         refine WAE.skip (i := 23) rfl (by kernel_rfl) (by kernel_rfl) (by kernel_rfl) rfl rfl rfl ?_
         refine WAE.skip (i := 24) rfl (by kernel_rfl) (by kernel_rfl) (by kernel_rfl) rfl rfl rfl ?_
         refine WAE.skip (i := 25) rfl (by kernel_rfl) (by kernel_rfl) (by kernel_rfl) rfl rfl rfl ?_
         refine WAE.skip (i := 26) rfl (by kernel_rfl) (by kernel_rfl) (by kernel_rfl) rfl rfl rfl ?_
         refine WAE.skip (i := 27) rfl (by kernel_rfl) (by kernel_rfl) (by kernel_rfl) rfl rfl rfl ?_
         refine WAE.skip (i := 28) rfl (by kernel_rfl) (by kernel_rfl) (by kernel_rfl) rfl rfl rfl ?_
         refine WAE.skip (i := 29) rfl (by kernel_rfl) (by kernel_rfl) (by kernel_rfl) rfl rfl rfl ?_
         refine WAE.skip (i := 30) rfl (by kernel_rfl) (by kernel_rfl) (by kernel_rfl) rfl rfl rfl ?_
         refine tk 31 rfl (OpV.pickF rfl rfl) ?_
         refine tk 32 rfl (OpV.assign rfl) ?_
         refine WAE.done (by kernel_rfl) ?_ _
         exact En.wk _ _ (sc sn) (fun _ h => (h).sub (.cons _ (.cons _ (.cons _ (.cons _ (.cons _ (.cons _ (.slnil)))))))) (KR10 () trivial)
      ·
       intro hs1
       obtain rfl := andO_f e10_10 hs1
       refine WAE.skip (i := 3) rfl (by kernel_rfl) (by kernel_rfl) (by kernel_rfl) rfl rfl rfl ?_
       refine WAE.skip (i := 4) rfl (by kernel_rfl) (by kernel_rfl) (by kernel_rfl) rfl rfl rfl ?_
       refine WAE.skip (i := 5) rfl (by kernel_rfl) (by kernel_rfl) (by kernel_rfl) rfl rfl rfl ?_
       refine WAE.skip (i := 6) rfl (by kernel_rfl) (by kernel_rfl) (by kernel_rfl) rfl rfl rfl ?_
       refine WAE.skip (i := 7) rfl (by kernel_rfl) (by kernel_rfl) (by kernel_rfl) rfl rfl rfl ?_
       refine WAE.skip (i := 8) rfl (by kernel_rfl) (by kernel_rfl) (by kernel_rfl) rfl rfl rfl ?_
       refine WAE.skip (i := 9) rfl (by kernel_rfl) (by kernel_rfl) (by kernel_rfl) rfl rfl rfl ?_
       refine tk 10 rfl (OpV.pickF rfl rfl) ?_
       refine tk 11 rfl (OpV.move rfl) ?_
       refine WAE.split (t := 66) rfl ?_ ?_
       ·
        intro hs5
        have hqhs5 := andO_t e10_19 hs5
        obtain ⟨x10_14, e10_14, hqhs5⟩ := bnd hqhs5
        obtain ⟨x10_17, e10_17, hqhs5⟩ := bnd hqhs5
        obtain ⟨x10_18, e10_18, hqhs5⟩ := bnd hqhs5
        obtain rfl := Option.some.inj hqhs5
        refine tk 12 rfl (OpV.loadAll rfl mq3 ag_62) ?_
        refine tk 13 rfl (OpV.loadAll rfl mq5 ag_64) ?_
        refine tk 15 rfl (OpV.loadAll rfl mq1 ag_62) ?_
        refine tk 16 rfl (OpV.loadAll rfl mq5 ag_64) ?_
        refine al1 14 rfl ?_
        refine OpH.callR (ec rfl (ec rfl e0)) ca_42 (fun w hs => w_impl_RestOf e10_14 ((hs.mem mq4).2 _ (fun _ _ => rfl))) ?_
        rintro _ _ ⟨a10_1400, n10_1400, c10_1400, f10_1400, rfl, rfl⟩
        refine ⟨[_], rfl, ?_⟩
        refine WAE.rebase (H := []) ?_
        refine al1 17 rfl ?_
        refine OpH.callR (ec rfl (ec rfl e0)) ca_42 (fun w hs => w_impl_RestOf e10_17 ((hs.mem mq3).2 _ (fun _ _ => rfl))) ?_
        rintro _ _ ⟨a10_1700, n10_1700, c10_1700, f10_1700, rfl, rfl⟩
        refine ⟨[_], rfl, ?_⟩
        refine WAE.rebase (H := []) ?_
        refine tk 18 rfl (OpV.call (ec rfl (ec rfl e0)) ca_49 (fun w hs => w_laws_sameScene e10_18 (Ow.rd (hs.mem mq1)) (Ow.rd (hs.mem mq0)))) ?_
        refine tk 19 rfl (OpV.pickT rfl rfl) ?_
        refine tk 20 rfl (OpV.move rfl) ?_
        refine WAE.split (t := 75) rfl ?_ ?_
        ·
         intro hs6
         have hqhs6 := andO_t e10_31 hs6
         obtain ⟨x10_23, e10_23, hqhs6⟩ := bnd hqhs6
         obtain ⟨x10_26, e10_26, hqhs6⟩ := bnd hqhs6
         obtain ⟨x10_27, e10_27, hqhs6⟩ := bnd hqhs6
         obtain rfl := Option.some.inj hqhs6
         refine tk 21 rfl (OpV.loadAll rfl mq5 ag_62) ?_
         refine tk 22 rfl (OpV.loadAll rfl mq7 ag_64) ?_
         refine tk 24 rfl (OpV.loadAll rfl mq3 ag_62) ?_
         refine tk 25 rfl (OpV.loadAll rfl mq7 ag_64) ?_
         refine al1 23 rfl ?_
         refine OpH.callR (ec rfl (ec rfl e0)) ca_51 (fun w hs => w_spec_RestOf e10_23 ((hs.mem mq6).2 _ (fun _ _ => rfl))) ?_
         rintro _ _ ⟨a10_2300, n10_2300, c10_2300, f10_2300, rfl, rfl⟩
         refine ⟨[_], rfl, ?_⟩
         refine WAE.rebase (H := []) ?_
         refine al1 26 rfl ?_
         refine OpH.callR (ec rfl (ec rfl e0)) ca_42 (fun w hs => w_impl_RestOf e10_26 ((hs.mem mq5).2 _ (fun _ _ => rfl))) ?_
         rintro _ _ ⟨a10_2600, n10_2600, c10_2600, f10_2600, rfl, rfl⟩
         refine ⟨[_], rfl, ?_⟩
         refine WAE.rebase (H := []) ?_
         refine al1 27 rfl ?_
         refine OpH.callR (ec rfl (ec rfl e0)) ca_50 (fun w hs => w_spec_DamageOf e10_27 (Ow.rd (hs.mem mq1)) (Ow.rd (hs.mem mq0))) ?_
         rintro _ _ ⟨a10_2700, n10_2700, c10_2700, f10_2700, rfl, rfl⟩
         refine ⟨[_], rfl, ?_⟩
         refine WAE.rebase (H := []) ?_
         refine tk 28 rfl (OpV.field1 rfl ft_96_0 pt_94 rfl) ?_
         refine tk 29 rfl (OpV.inhF fun hin => OpV.lenO (xs := x10_27.Rects) rfl si_94 rfl (ownLen hin mq0)) ?_
         refine tk 30 rfl (OpV.eql rfl rfl) ?_
         refine tk 31 rfl (OpV.pickT rfl rfl) ?_
         refine tk 32 rfl (OpV.assign rfl) ?_
         refine WAE.done (by kernel_rfl) ?_ _
         exact En.wk _ _ (sc sn) (fun _ h => (h).sub (.cons _ (.cons _ (.cons _ (.cons _ (.cons _ (.cons _ (.cons _ (.cons _ (.cons _ (.cons _ (.cons _ (.slnil))))))))))))) (KR10 () trivial)
        ·
         intro hs6
         obtain rfl := andO_f e10_31 hs6
         refine WAE.skip (i := 21) rfl (by kernel_rfl) (by kernel_rfl) (by kernel_rfl) rfl rfl rfl ?_
         refine WAE.skip (i := 22) rfl (by kernel_rfl) (by kernel_rfl) (by kernel_rfl) rfl rfl rfl ?_
         refine WAE.skip (i := 23) rfl (by kernel_rfl) (by kernel_rfl) (by kernel_rfl) rfl rfl rfl ?_
         refine WAE.skip (i := 24) rfl (by kernel_rfl) (by kernel_rfl) (by kernel_rfl) rfl rfl rfl ?_
         refine WAE.skip (i := 25) rfl (by kernel_rfl) (by kernel_rfl) (by kernel_rfl) rfl rfl rfl ?_
         refine WAE.skip (i := 26) rfl (by kernel_rfl) (by kernel_rfl) (by kernel_rfl) rfl rfl rfl ?_
         refine WAE.skip (i := 27) rfl (by kernel_rfl) (by kernel_rfl) (by kernel_rfl) rfl rfl rfl ?_
         refine WAE.skip (i := 28) rfl (by kernel_rfl) (by kernel_rfl) (by kernel_rfl) rfl rfl rfl ?_
         refine WAE.skip (i := 29) rfl (by kernel_rfl) (by kernel_rfl) (by kernel_rfl) rfl rfl rfl ?_
         refine WAE.skip (i := 30) rfl (by kernel_rfl) (by kernel_rfl) (by kernel_rfl) rfl rfl rfl ?_
         refine tk 31 rfl (OpV.pickF rfl rfl) ?_
         refine tk 32 rfl (OpV.assign rfl) ?_
         refine WAE.done (by kernel_rfl) ?_ _
         exact En.wk _ _ (sc sn) (fun _ h => (h).sub (.cons _ (.cons _ (.cons _ (.cons _ (.cons _ (.cons _ (.cons _ (.cons _ (.slnil)))))))))) (KR10 () trivial)
       ·
        intro hs5
        obtain rfl := andO_f e10_19 hs5
        refine WAE.skip (i := 12) rfl (by kernel_rfl) (by kernel_rfl) (by kernel_rfl) rfl rfl rfl ?_
        refine WAE.skip (i := 13) rfl (by kernel_rfl) (by kernel_rfl) (by kernel_rfl) rfl rfl rfl ?_
        refine WAE.skip (i := 14) rfl (by kernel_rfl) (by kernel_rfl) (by kernel_rfl) rfl rfl rfl ?_
        refine WAE.skip (i := 15) rfl (by kernel_rfl) (by kernel_rfl) (by kernel_rfl) rfl rfl rfl ?_
        refine WAE.skip (i := 16) rfl (by kernel_rfl) (by kernel_rfl) (by kernel_rfl) rfl rfl rfl ?_
        refine WAE.skip (i := 17) rfl (by kernel_rfl) (by kernel_rfl) (by kernel_rfl) rfl rfl rfl ?_
        refine WAE.skip (i := 18) rfl (by kernel_rfl) (by kernel_rfl) (by kernel_rfl) rfl rfl rfl ?_
        refine tk 19 rfl (OpV.pickF rfl rfl) ?_
        refine tk 20 rfl (OpV.move rfl) ?_
        refine WAE.split (t := 75) rfl ?_ ?_
        ·
         intro hs7
         have hqhs7 := andO_t e10_31 hs7
         obtain ⟨x10_23, e10_23, hqhs7⟩ := bnd hqhs7
         obtain ⟨x10_26, e10_26, hqhs7⟩ := bnd hqhs7
         obtain ⟨x10_27, e10_27, hqhs7⟩ := bnd hqhs7
         obtain rfl := Option.some.inj hqhs7
         refine tk 21 rfl (OpV.loadAll rfl mq3 ag_62) ?_
         refine tk 22 rfl (OpV.loadAll rfl mq5 ag_64) ?_
         refine tk 24 rfl (OpV.loadAll rfl mq1 ag_62) ?_
         refine tk 25 rfl (OpV.loadAll rfl mq5 ag_64) ?_
         refine al1 23 rfl ?_
         refine OpH.callR (ec rfl (ec rfl e0)) ca_51 (fun w hs => w_spec_RestOf e10_23 ((hs.mem mq4).2 _ (fun _ _ => rfl))) ?_
         rintro _ _ ⟨a10_2300, n10_2300, c10_2300, f10_2300, rfl, rfl⟩
         refine ⟨[_], rfl, ?_⟩
         refine WAE.rebase (H := []) ?_
         refine al1 26 rfl ?_
         refine OpH.callR (ec rfl (ec rfl e0)) ca_42 (fun w hs => w_impl_RestOf e10_26 ((hs.mem mq3).2 _ (fun _ _ => rfl))) ?_
         rintro _ _ ⟨a10_2600, n10_2600, c10_2600, f10_2600, rfl, rfl⟩
         refine ⟨[_], rfl, ?_⟩
         refine WAE.rebase (H := []) ?_
         refine al1 27 rfl ?_
         refine OpH.callR (ec rfl (ec rfl e0)) ca_50 (fun w hs => w_spec_DamageOf e10_27 (Ow.rd (hs.mem mq1)) (Ow.rd (hs.mem mq0))) ?_
         rintro _ _ ⟨a10_2700, n10_2700, c10_2700, f10_2700, rfl, rfl⟩
         refine ⟨[_], rfl, ?_⟩
         refine WAE.rebase (H := []) ?_
         refine tk 28 rfl (OpV.field1 rfl ft_96_0 pt_94 rfl) ?_
         refine tk 29 rfl (OpV.inhF fun hin => OpV.lenO (xs := x10_27.Rects) rfl si_94 rfl (ownLen hin mq0)) ?_
         refine tk 30 rfl (OpV.eql rfl rfl) ?_
         refine tk 31 rfl (OpV.pickT rfl rfl) ?_
         refine tk 32 rfl (OpV.assign rfl) ?_
         refine WAE.done (by kernel_rfl) ?_ _
         exact En.wk _ _ (sc sn) (fun _ h => (h).sub (.cons _ (.cons _ (.cons _ (.cons _ (.cons _ (.cons _ (.cons _ (.cons _ (.cons _ (.slnil))))))))))) (KR10 () trivial)
        ·
         intro hs7
         obtain rfl := andO_f e10_31 hs7
         refine WAE.skip (i := 21) rfl (by kernel_rfl) (by kernel_rfl) (by kernel_rfl) rfl rfl rfl ?_
         refine WAE.skip (i := 22) rfl (by kernel_rfl) (by kernel_rfl) (by kernel_rfl) rfl rfl rfl ?_
         refine WAE.skip (i := 23) rfl (by kernel_rfl) (by kernel_rfl) (by kernel_rfl) rfl rfl rfl ?_
         refine WAE.skip (i := 24) rfl (by kernel_rfl) (by kernel_rfl) (by kernel_rfl) rfl rfl rfl ?_
         refine WAE.skip (i := 25) rfl (by kernel_rfl) (by kernel_rfl) (by kernel_rfl) rfl rfl rfl ?_
         refine WAE.skip (i := 26) rfl (by kernel_rfl) (by kernel_rfl) (by kernel_rfl) rfl rfl rfl ?_
         refine WAE.skip (i := 27) rfl (by kernel_rfl) (by kernel_rfl) (by kernel_rfl) rfl rfl rfl ?_
         refine WAE.skip (i := 28) rfl (by kernel_rfl) (by kernel_rfl) (by kernel_rfl) rfl rfl rfl ?_
         refine WAE.skip (i := 29) rfl (by kernel_rfl) (by kernel_rfl) (by kernel_rfl) rfl rfl rfl ?_
         refine WAE.skip (i := 30) rfl (by kernel_rfl) (by kernel_rfl) (by kernel_rfl) rfl rfl rfl ?_
         refine tk 31 rfl (OpV.pickF rfl rfl) ?_
         refine tk 32 rfl (OpV.assign rfl) ?_
         refine WAE.done (by kernel_rfl) ?_ _
         exact En.wk _ _ (sc sn) (fun _ h => (h).sub (.cons _ (.cons _ (.cons _ (.cons _ (.cons _ (.cons _ (.slnil)))))))) (KR10 () trivial)
    ·
     intro KR8
     refine WC.drawnH [] ([_, _, _, _, _]) (fun _ h => h) (by kernel_rfl) ?_
     refine tk 0 rfl (OpV.loadAll rfl mq0 ag_62) ?_
     refine tk 1 rfl (OpV.move rfl) ?_
     refine tk 2 rfl (OpV.call (ec rfl (ec rfl e0)) ca_32 (fun w hs => w_laws_at e8_2 (r0_0.ext hs.below))) ?_
     refine tk 3 rfl (OpV.remR rfl rfl rfl) ?_
     refine tk 4 rfl (OpV.subR rfl rfl) ?_
     refine tk 5 rfl (OpV.move rfl) ?_
     refine tk 6 rfl (OpV.call (ec rfl (ec rfl e0)) ca_32 (fun w hs => w_laws_at e8_6 (r0_0.ext hs.below))) ?_
     refine tk 7 rfl (OpV.remR rfl rfl rfl) ?_
     refine tk 8 rfl (OpV.subR rfl rfl) ?_
     refine tk 9 rfl (OpV.build (evps.cons rfl (evps.cons rfl (evps.cons rfl (evps.cons rfl (evps.nil))))) (bd_91_0_1_2_3 _ _ _ _)) ?_
     refine WAE.all (rs := [10, 14]) (by kernel_rfl) rfl (AllR.cons rfl rfl rfl rfl ?_ (AllR.cons rfl rfl rfl rfl ?_ AllR.nil))
     ·
      refine OpH.callR (ec rfl (ec rfl e0)) ca_47 (fun w hs => w_spec_DoEdit e8_10 ((hs.mem mq1).2 _ (fun _ _ => rfl)) (Rd.nil _)) ?_
      rintro _ _ ⟨a8_1000, n8_1000, c8_1000, f8_1000, rfl, rfl⟩
      refine ⟨[_], rfl, ?_⟩
      refine WAE.rebase (H := []) ?_
      refine tk 11 rfl (OpV.move rfl) ?_
      refine tk 12 rfl (OpV.extract rfl rfl) ?_
      refine tk 13 rfl (OpV.extract rfl rfl) ?_
      refine al1 14 rfl ?_
      refine OpH.alloc zc_62 ?_
      intro b8_14
      refine ⟨[_], rfl, ?_⟩
      refine al0 15 rfl ?_
      refine OpH.storeTo (A := []) [_, _, _, _] rfl rfl rfl ts_62 rfl rfl rfl ?_
      refine ⟨[_], rfl, ?_⟩
      refine WAE.rebase (H := []) ?_
      refine tk 16 rfl (OpV.assign rfl) ?_
      refine WAE.done (by kernel_rfl) ?_ _
      exact En.wk _ _ (sc (sc (sc sn))) (fun _ h => (h).sub (.cons_cons _ (.cons_cons _ (.cons_cons _ (.cons_cons _ (.cons_cons _ (.cons _ (.cons _ (.slnil))))))))) (KR8 (b8_14, a8_1000, n8_1000, c8_1000, f8_1000) trivial)
     ·
      refine OpH.alloc zc_62 ?_
      intro b8_14
      refine ⟨[_], rfl, ?_⟩
      refine al1 10 rfl ?_
      refine OpH.callR (ec rfl (ec rfl e0)) ca_47 (fun w hs => w_spec_DoEdit e8_10 ((hs.mem mq2).2 _ (fun _ _ => rfl)) (Rd.nil _)) ?_
      rintro _ _ ⟨a8_1000, n8_1000, c8_1000, f8_1000, rfl, rfl⟩
      refine ⟨[_, _], rfl, ?_⟩
      refine tk 11 rfl (OpV.move rfl) ?_
      refine tk 12 rfl (OpV.extract rfl rfl) ?_
      refine tk 13 rfl (OpV.extract rfl rfl) ?_
      refine al0 15 rfl ?_
      refine OpH.storeTo (A := [_]) [_, _, _, _] rfl rfl rfl ts_62 rfl rfl rfl ?_
      refine ⟨[_, _], rfl, ?_⟩
      refine WAE.rebase (H := []) ?_
      refine tk 16 rfl (OpV.assign rfl) ?_
      refine WAE.done (by kernel_rfl) ?_ _
      exact En.wk _ _ (sc (sc (sc sn))) (fun _ h => ((((((h).pm 4).pm 4).pm 4).pm 3).pm 4).sub (.cons_cons _ (.cons_cons _ (.cons_cons _ (.cons_cons _ (.cons_cons _ (.cons _ (.cons _ (.slnil))))))))) (KR8 (b8_14, a8_1000, n8_1000, c8_1000, f8_1000) trivial)
  ·
   intro KR5
   refine WC.drawnH [] ([_, _, _]) (fun _ h => h) (by kernel_rfl) ?_
   refine tk 0 rfl (OpV.loadAll rfl mq1 ag_62) ?_
   refine tk 1 rfl (OpV.move rfl) ?_
   refine tk 2 rfl (OpV.call (ec rfl (ec rfl e0)) ca_32 (fun w hs => w_laws_at e5_2 (r0_0.ext hs.below))) ?_
   refine tk 3 rfl (OpV.addR rfl rfl) ?_
   refine WAE.all (rs := [4, 10]) (by kernel_rfl) rfl (AllR.cons rfl rfl rfl rfl ?_ (AllR.cons rfl rfl rfl rfl ?_ AllR.nil))
   ·
    refine OpH.callR (ec rfl (ec rfl (ec rfl e0))) ca_38 (fun w hs => w_spec_NewImage e5_4) ?_
    rintro _ _ ⟨a5_400, n5_400, c5_400, f5_400, rfl, rfl⟩
    refine ⟨[_], rfl, ?_⟩
    refine WAE.rebase (H := []) ?_
    refine tk 5 rfl (OpV.build (evps.cons rfl (evps.cons rfl (evps.cons rfl (evps.cons rfl (evps.cons rfl (evps.nil)))))) (bd_91_0_1_2_3_4 _ _ _ _ _ _ _ _ _)) ?_
    refine WAE.all (rs := [6, 10]) (by kernel_rfl) rfl (AllR.cons rfl rfl rfl rfl ?_ (AllR.cons rfl rfl rfl rfl ?_ AllR.nil))
    ·
     refine OpH.callR (ec rfl (ec rfl e0)) ca_47 (fun w hs => w_spec_DoEdit e5_6 ((hs.mem mq3).2 _ (fun _ _ => rfl)) (Ow.rd (hs.mem mq0))) ?_
     rintro _ _ ⟨a5_600, n5_600, c5_600, f5_600, rfl, rfl⟩
     refine ⟨[_], rfl, ?_⟩
     refine WAE.rebase (H := []) ?_
     refine tk 7 rfl (OpV.move rfl) ?_
     refine tk 8 rfl (OpV.extract rfl rfl) ?_
     refine tk 9 rfl (OpV.extract rfl rfl) ?_
     refine al1 10 rfl ?_
     refine OpH.alloc zc_62 ?_
     intro b5_10
     refine ⟨[_], rfl, ?_⟩
     refine al0 11 rfl ?_
     refine OpH.storeTo (A := []) [_, _, _, _] rfl rfl rfl ts_62 rfl rfl rfl ?_
     refine ⟨[_], rfl, ?_⟩
     refine WAE.rebase (H := []) ?_
     refine tk 12 rfl (OpV.assign rfl) ?_
     refine WAE.done (by kernel_rfl) ?_ _
     exact En.wk _ _ (sc (sc (sc (sc (sc sn))))) (fun _ h => ((((((h).pm 5).pm 5).pm 5).pm 4).pm 4).sub (.cons_cons _ (.cons_cons _ (.cons_cons _ (.cons_cons _ (.cons_cons _ (.cons _ (.slnil)))))))) (KR5 (b5_10, a5_600, n5_600, c5_600, f5_600) trivial)
    ·
     refine OpH.alloc zc_62 ?_
     intro b5_10
     refine ⟨[_], rfl, ?_⟩
     refine al1 6 rfl ?_
     refine OpH.callR (ec rfl (ec rfl e0)) ca_47 (fun w hs => w_spec_DoEdit e5_6 ((hs.mem mq4).2 _ (fun _ _ => rfl)) (Ow.rd (hs.mem mq1))) ?_
     rintro _ _ ⟨a5_600, n5_600, c5_600, f5_600, rfl, rfl⟩
     refine ⟨[_, _], rfl, ?_⟩
     refine tk 7 rfl (OpV.move rfl) ?_
     refine tk 8 rfl (OpV.extract rfl rfl) ?_
     refine tk 9 rfl (OpV.extract rfl rfl) ?_
     refine al0 11 rfl ?_
     refine OpH.storeTo (A := [_]) [_, _, _, _] rfl rfl rfl ts_62 rfl rfl rfl ?_
     refine ⟨[_, _], rfl, ?_⟩
     refine WAE.rebase (H := []) ?_
     refine tk 12 rfl (OpV.assign rfl) ?_
     refine WAE.done (by kernel_rfl) ?_ _
     exact En.wk _ _ (sc (sc (sc (sc (sc sn))))) (fun _ h => ((((((h).pm 5).pm 5).pm 5).pm 3).pm 4).sub (.cons_cons _ (.cons_cons _ (.cons_cons _ (.cons_cons _ (.cons_cons _ (.cons _ (.slnil)))))))) (KR5 (b5_10, a5_600, n5_600, c5_600, f5_600) trivial)
   ·
    refine OpH.alloc zc_62 ?_
    intro b5_10
    refine ⟨[_], rfl, ?_⟩
    refine al1 4 rfl ?_
    refine OpH.callR (ec rfl (ec rfl (ec rfl e0))) ca_38 (fun w hs => w_spec_NewImage e5_4) ?_
    rintro _ _ ⟨a5_400, n5_400, c5_400, f5_400, rfl, rfl⟩
    refine ⟨[_, _], rfl, ?_⟩
    refine tk 5 rfl (OpV.build (evps.cons rfl (evps.cons rfl (evps.cons rfl (evps.cons rfl (evps.cons rfl (evps.nil)))))) (bd_91_0_1_2_3_4 _ _ _ _ _ _ _ _ _)) ?_
    refine al1 6 rfl ?_
    refine OpH.callR (ec rfl (ec rfl e0)) ca_47 (fun w hs => w_spec_DoEdit e5_6 ((hs.mem mq4).2 _ (fun _ _ => rfl)) (Ow.rd (hs.mem mq0))) ?_
    rintro _ _ ⟨a5_600, n5_600, c5_600, f5_600, rfl, rfl⟩
    refine ⟨[_, _, _], rfl, ?_⟩
    refine tk 7 rfl (OpV.move rfl) ?_
    refine tk 8 rfl (OpV.extract rfl rfl) ?_
    refine tk 9 rfl (OpV.extract rfl rfl) ?_
    refine al0 11 rfl ?_
    refine OpH.storeTo (A := [_, _]) [_, _, _, _] rfl rfl rfl ts_62 rfl rfl rfl ?_
    refine ⟨[_, _, _], rfl, ?_⟩
    refine WAE.rebase (H := []) ?_
    refine tk 12 rfl (OpV.assign rfl) ?_
    refine WAE.done (by kernel_rfl) ?_ _
    exact En.wk _ _ (sc (sc (sc (sc (sc sn))))) (fun _ h => ((((((h).pm 5).pm 5).pm 5).pm 3).pm 5).sub (.cons_cons _ (.cons_cons _ (.cons_cons _ (.cons_cons _ (.cons_cons _ (.cons _ (.slnil)))))))) (KR5 (b5_10, a5_600, n5_600, c5_600, f5_600) trivial)

end Go.Proofs.Ytmhalmnbgkpmnaa
