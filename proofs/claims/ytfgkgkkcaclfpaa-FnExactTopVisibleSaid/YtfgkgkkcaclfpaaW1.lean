/- Walks: the program computes the pure functions. -/
import Derived.Test.YtfgkgkkcaclfpaaDefs
import Derived.Test.YtfgkgkkcaclfpaaFacts
namespace Go.Proofs.Ytfgkgkkcaclfpaa
open Go.RowKit K
set_option maxRecDepth 100000
set_option maxHeartbeats 4000000

theorem w_laws_szModeS {a_p0 : List ModeT} {left_p1 : Int} {r : Int} {q0_0 : Option Addr} {n0_0 k0_0 : Nat} (h : laws_szModeS a_p0 left_p1 = some r) {w : World} (r0_0 : Rd tMode w q0_0 n0_0 k0_0 a_p0)  :
    Calls Try.prog 82 #[.slice q0_0 n0_0 k0_0, .int .i64 left_p1] w (fun en w' => en = .returned (.int .i64 r) ∧ Ext w w') := by
  obtain rfl := r0_0.1
  unfold laws_szModeS at h
  refine enter (vs := [_, _]) Try.func82 rfl rfl rfl rfl ?_
  refine WC.seq ?_
  refine WC.region ?_
  refine Lt.ofWL.step rfl rfl rfl (OpV.assign rfl) ?_
  refine WL.nil ?_
  refine En.next ?_
  refine WC.seq ?_
  refine WC.region ?_
  refine Lt.ofWL.step rfl rfl rfl (OpV.move rfl) ?_
  refine Lt.ofWL.step rfl rfl rfl (OpV.move rfl) ?_
  refine Lt.ofWL.step rfl rfl rfl (OpV.len rfl si_39 rfl) ?_
  refine Lt.ofWL.step rfl rfl rfl (OpV.subR rfl rfl) ?_
  refine Lt.ofWL.step rfl rfl rfl (OpV.assign rfl) ?_
  refine WL.nil ?_
  refine En.next ?_
  refine WC.seq ?_
  refine WC.seq ?_
  refine WC.region ?_
  refine Lt.ofWL.step rfl rfl rfl (OpV.move rfl) ?_
  refine Lt.ofWL.step rfl rfl rfl (OpV.lss rfl rfl) ?_
  refine WL.nil ?_
  refine En.next ?_
  refine WC.cond rfl ?_ ?_
  ·
    intro hc_1
    replace h := ifO_t hc_1 h
    refine WC.seq ?_
    refine WC.region ?_
    refine Lt.ofWL.step rfl rfl rfl (OpV.assign rfl) ?_
    refine WL.nil ?_
    refine En.next ?_
    refine WC.ret ?_
    refine En.then_ret ?_
    refine En.ret1 rfl (Res.tmp rfl) ?_
    obtain rfl := Option.some.inj h
    intro w' hs
    exact ⟨rfl, hs.below⟩
  ·
    intro hc_1
    replace h := ifO_f hc_1 h
    refine WC.skip ?_
    refine En.next ?_
    refine WC.seq ?_
    refine WC.region ?_
    refine Lt.ofWL.step rfl rfl rfl (OpV.move rfl) ?_
    refine Lt.ofWL.step rfl rfl rfl (OpV.assign rfl) ?_
    refine WL.nil ?_
    refine En.next ?_
    refine WC.ret ?_
    refine En.ret1 rfl (Res.tmp rfl) ?_
    obtain rfl := Option.some.inj h
    intro w' hs
    exact ⟨rfl, hs.below⟩

theorem w_laws_szMonitor {a_p0 : MonitorT} {left_p1 : Int} {r : Int} {q0_0 : Option Addr} {n0_0 k0_0 : Nat} (h : laws_szMonitor a_p0 left_p1 = some r) {w : World} (r0_0 : Rd tMode w q0_0 n0_0 k0_0 a_p0.Modes)  :
    Calls Try.prog 23 #[.agg #[.string a_p0.Name, .slice q0_0 n0_0 k0_0, .int .i64 a_p0.Stretch], .int .i64 left_p1] w (fun en w' => en = .returned (.int .i64 r) ∧ Ext w w') := by
  obtain rfl := r0_0.1
  unfold laws_szMonitor at h
  refine enter (vs := [_, _]) Try.func23 rfl rfl rfl rfl ?_
  refine WC.seq ?_
  refine WC.region ?_
  refine WL.heavy rfl rfl rfl (OpH.box rfl rfl ?_)
  intro b0_0
  refine Lt.ofWL.step rfl rfl rfl (OpV.assign rfl) ?_
  refine WL.nil ?_
  refine En.next ?_
  refine WC.seq ?_
  refine WC.region ?_
  refine Lt.ofWL.step rfl rfl rfl (OpV.move rfl) ?_
  refine Lt.ofWL.step rfl rfl rfl (OpV.fieldAddr rfl fo_41_0) ?_
  refine Lt.ofWL.step rfl rfl rfl (OpV.loadBox rfl pt_9 (.head _) rfl) ?_
  refine Lt.ofWL.step rfl rfl rfl (OpV.lenS rfl us_9 rfl) ?_
  refine Lt.ofWL.step rfl rfl rfl (OpV.subR rfl rfl) ?_
  refine Lt.ofWL.step rfl rfl rfl (OpV.assign rfl) ?_
  refine WL.nil ?_
  refine En.next ?_
  refine WC.seq ?_
  refine WC.seq ?_
  refine WC.region ?_
  refine Lt.ofWL.step rfl rfl rfl (OpV.move rfl) ?_
  refine Lt.ofWL.step rfl rfl rfl (OpV.lss rfl rfl) ?_
  refine WL.nil ?_
  refine En.next ?_
  refine WC.cond rfl ?_ ?_
  ·
    intro hc_1
    replace h := ifO_t hc_1 h
    refine WC.seq ?_
    refine WC.region ?_
    refine Lt.ofWL.step rfl rfl rfl (OpV.assign rfl) ?_
    refine WL.nil ?_
    refine En.next ?_
    refine WC.ret ?_
    refine En.then_ret ?_
    refine En.ret1 rfl (Res.tmp rfl) ?_
    obtain rfl := Option.some.inj h
    intro w' hs
    exact ⟨rfl, hs.below⟩
  ·
    intro hc_1
    replace h := ifO_f hc_1 h
    refine WC.skip ?_
    refine En.next ?_
    refine WC.seq ?_
    obtain ⟨x4_3, e4_3, h⟩ := bnd h
    refine WC.region ?_
    refine Lt.ofWL.step rfl rfl rfl (OpV.fieldAddr rfl fo_41_1) ?_
    refine Lt.ofWL.step rfl rfl rfl (OpV.loadBox rfl pt_39 (.head _) rfl) ?_
    refine Lt.ofWL.step rfl rfl rfl (OpV.move rfl) ?_
    refine Lt.ofWL.step rfl rfl rfl (OpV.call (evs.cons rfl (evs.cons rfl (evs.nil))) ca_82 (fun w hs => w_laws_szModeS e4_3 (r0_0.ext hs.below))) ?_
    refine Lt.ofWL.step rfl rfl rfl (OpV.assign rfl) ?_
    refine WL.nil ?_
    refine En.next ?_
    refine WC.seq ?_
    refine WC.seq ?_
    refine WC.region ?_
    refine Lt.ofWL.step rfl rfl rfl (OpV.move rfl) ?_
    refine Lt.ofWL.step rfl rfl rfl (OpV.lss rfl rfl) ?_
    refine WL.nil ?_
    refine En.next ?_
    refine WC.cond rfl ?_ ?_
    ·
      intro hc_2
      replace h := ifO_t hc_2 h
      refine WC.seq ?_
      refine WC.region ?_
      refine Lt.ofWL.step rfl rfl rfl (OpV.assign rfl) ?_
      refine WL.nil ?_
      refine En.next ?_
      refine WC.ret ?_
      refine En.then_ret ?_
      refine En.ret1 rfl (Res.tmp rfl) ?_
      obtain rfl := Option.some.inj h
      intro w' hs
      exact ⟨rfl, hs.below⟩
    ·
      intro hc_2
      replace h := ifO_f hc_2 h
      refine WC.skip ?_
      refine En.next ?_
      refine WC.seq ?_
      refine WC.region ?_
      refine Lt.ofWL.step rfl rfl rfl (OpV.move rfl) ?_
      refine Lt.ofWL.step rfl rfl rfl (OpV.assign rfl) ?_
      refine WL.nil ?_
      refine En.next ?_
      refine WC.ret ?_
      refine En.ret1 rfl (Res.tmp rfl) ?_
      obtain rfl := Option.some.inj h
      intro w' hs
      exact ⟨rfl, hs.below⟩

theorem w_laws_toMode {a_p0 : ModeT} {r : ModeT}  (h : laws_toMode a_p0 = some r) {w : World}   :
    Calls Try.prog 121 #[.agg #[.int .i64 a_p0.Clock, .int .i64 a_p0.W, .int .i64 a_p0.HFront, .int .i64 a_p0.HSync, .int .i64 a_p0.HBack, .int .i64 a_p0.H, .int .i64 a_p0.VFront, .int .i64 a_p0.VSync, .int .i64 a_p0.VBack]] w (fun en w' => en = .returned (.agg #[.int .i64 r.Clock, .int .i64 r.W, .int .i64 r.HFront, .int .i64 r.HSync, .int .i64 r.HBack, .int .i64 r.H, .int .i64 r.VFront, .int .i64 r.VSync, .int .i64 r.VBack]) ∧ Ext w w') := by
  unfold laws_toMode at h
  refine enter (vs := [_]) Try.func121 rfl rfl rfl rfl ?_
  refine WC.seq ?_
  refine WC.region ?_
  refine WL.heavy rfl rfl rfl (OpH.box rfl rfl ?_)
  intro b0_0
  refine WL.heavy rfl rfl rfl (OpH.alloc zc_30 ?_)
  intro b0_1
  refine WL.nil ?_
  refine En.next ?_
  refine WC.seq ?_
  refine WC.region ?_
  refine WL.heavy rfl rfl rfl (OpH.alloc zc_30 ?_)
  intro b1_0
  refine WL.nil ?_
  refine En.next ?_
  refine WC.seq ?_
  refine WC.region ?_
  refine Lt.ofWL.step rfl rfl rfl (OpV.fieldAddr rfl fo_160_0) ?_
  refine Lt.ofWL.step rfl rfl rfl (OpV.loadBox rfl pt_3 (.tail _ (.tail _ (.head _))) rfl) ?_
  refine Lt.ofWL.step rfl rfl rfl (OpV.fieldAddr rfl fo_30_0) ?_
  refine WL.heavy0 rfl rfl (OpH.storeTo (A := []) [_, _, _, _, _, _, _, _, _] rfl rfl rfl ts_3 rfl rfl rfl ?_)
  refine WL.nil ?_
  refine En.next ?_
  refine WC.seq ?_
  refine WC.region ?_
  refine Lt.ofWL.step rfl rfl rfl (OpV.fieldAddr rfl fo_160_1) ?_
  refine Lt.ofWL.step rfl rfl rfl (OpV.loadBox rfl pt_3 (.tail _ (.tail _ (.head _))) rfl) ?_
  refine Lt.ofWL.step rfl rfl rfl (OpV.fieldAddr rfl fo_30_1) ?_
  refine WL.heavy0 rfl rfl (OpH.storeTo (A := []) [_, _, _, _, _, _, _, _, _] rfl rfl rfl ts_3 rfl rfl rfl ?_)
  refine WL.nil ?_
  refine En.next ?_
  refine WC.seq ?_
  refine WC.region ?_
  refine Lt.ofWL.step rfl rfl rfl (OpV.fieldAddr rfl fo_160_2) ?_
  refine Lt.ofWL.step rfl rfl rfl (OpV.loadBox rfl pt_3 (.tail _ (.tail _ (.head _))) rfl) ?_
  refine Lt.ofWL.step rfl rfl rfl (OpV.fieldAddr rfl fo_30_2) ?_
  refine WL.heavy0 rfl rfl (OpH.storeTo (A := []) [_, _, _, _, _, _, _, _, _] rfl rfl rfl ts_3 rfl rfl rfl ?_)
  refine WL.nil ?_
  refine En.next ?_
  refine WC.seq ?_
  refine WC.region ?_
  refine Lt.ofWL.step rfl rfl rfl (OpV.fieldAddr rfl fo_160_3) ?_
  refine Lt.ofWL.step rfl rfl rfl (OpV.loadBox rfl pt_3 (.tail _ (.tail _ (.head _))) rfl) ?_
  refine Lt.ofWL.step rfl rfl rfl (OpV.fieldAddr rfl fo_30_3) ?_
  refine WL.heavy0 rfl rfl (OpH.storeTo (A := []) [_, _, _, _, _, _, _, _, _] rfl rfl rfl ts_3 rfl rfl rfl ?_)
  refine WL.nil ?_
  refine En.next ?_
  refine WC.seq ?_
  refine WC.region ?_
  refine Lt.ofWL.step rfl rfl rfl (OpV.fieldAddr rfl fo_160_4) ?_
  refine Lt.ofWL.step rfl rfl rfl (OpV.loadBox rfl pt_3 (.tail _ (.tail _ (.head _))) rfl) ?_
  refine Lt.ofWL.step rfl rfl rfl (OpV.fieldAddr rfl fo_30_4) ?_
  refine WL.heavy0 rfl rfl (OpH.storeTo (A := []) [_, _, _, _, _, _, _, _, _] rfl rfl rfl ts_3 rfl rfl rfl ?_)
  refine WL.nil ?_
  refine En.next ?_
  refine WC.seq ?_
  refine WC.region ?_
  refine Lt.ofWL.step rfl rfl rfl (OpV.fieldAddr rfl fo_160_5) ?_
  refine Lt.ofWL.step rfl rfl rfl (OpV.loadBox rfl pt_3 (.tail _ (.tail _ (.head _))) rfl) ?_
  refine Lt.ofWL.step rfl rfl rfl (OpV.fieldAddr rfl fo_30_5) ?_
  refine WL.heavy0 rfl rfl (OpH.storeTo (A := []) [_, _, _, _, _, _, _, _, _] rfl rfl rfl ts_3 rfl rfl rfl ?_)
  refine WL.nil ?_
  refine En.next ?_
  refine WC.seq ?_
  refine WC.region ?_
  refine Lt.ofWL.step rfl rfl rfl (OpV.fieldAddr rfl fo_160_6) ?_
  refine Lt.ofWL.step rfl rfl rfl (OpV.loadBox rfl pt_3 (.tail _ (.tail _ (.head _))) rfl) ?_
  refine Lt.ofWL.step rfl rfl rfl (OpV.fieldAddr rfl fo_30_6) ?_
  refine WL.heavy0 rfl rfl (OpH.storeTo (A := []) [_, _, _, _, _, _, _, _, _] rfl rfl rfl ts_3 rfl rfl rfl ?_)
  refine WL.nil ?_
  refine En.next ?_
  refine WC.seq ?_
  refine WC.region ?_
  refine Lt.ofWL.step rfl rfl rfl (OpV.fieldAddr rfl fo_160_7) ?_
  refine Lt.ofWL.step rfl rfl rfl (OpV.loadBox rfl pt_3 (.tail _ (.tail _ (.head _))) rfl) ?_
  refine Lt.ofWL.step rfl rfl rfl (OpV.fieldAddr rfl fo_30_7) ?_
  refine WL.heavy0 rfl rfl (OpH.storeTo (A := []) [_, _, _, _, _, _, _, _, _] rfl rfl rfl ts_3 rfl rfl rfl ?_)
  refine WL.nil ?_
  refine En.next ?_
  refine WC.seq ?_
  refine WC.region ?_
  refine Lt.ofWL.step rfl rfl rfl (OpV.fieldAddr rfl fo_160_8) ?_
  refine Lt.ofWL.step rfl rfl rfl (OpV.loadBox rfl pt_3 (.tail _ (.tail _ (.head _))) rfl) ?_
  refine Lt.ofWL.step rfl rfl rfl (OpV.fieldAddr rfl fo_30_8) ?_
  refine WL.heavy0 rfl rfl (OpH.storeTo (A := []) [_, _, _, _, _, _, _, _, _] rfl rfl rfl ts_3 rfl rfl rfl ?_)
  refine WL.nil ?_
  refine En.next ?_
  refine WC.seq ?_
  refine WC.region ?_
  refine Lt.ofWL.step rfl rfl rfl (OpV.loadAll rfl (.head _) ag_30) ?_
  refine WL.heavy0 rfl rfl (OpH.storeTo (A := [_]) [_, _, _, _, _, _, _, _, _] rfl rfl rfl ts_30 rfl rfl rfl ?_)
  refine WL.nil ?_
  refine En.next ?_
  refine WC.ret ?_
  refine En.ret1 rfl (Res.cell rfl (.tail _ (.head _)) ag_30) ?_
  obtain rfl := Option.some.inj h
  intro w' hs
  exact ⟨rfl, hs.below⟩

theorem w_laws_toModeS {a_p0 : List ModeT} {r : (List ModeT)} {q0_0 : Option Addr} {n0_0 k0_0 : Nat} (h : laws_toModeS a_p0 = some r) {w : World} (r0_0 : Rd tMode w q0_0 n0_0 k0_0 a_p0)  :
    Calls Try.prog 85 #[.slice q0_0 n0_0 k0_0] w (fun en w' => ∃ rv G, en = .returned rv ∧ (∃ (a0_0 : Option Addr) (n0_0 : Nat) (c0_0 : Nat) (f0_0 : List Nat), rv = .slice a0_0 n0_0 c0_0 ∧ G = [Chunk.own tMode f0_0 a0_0 n0_0 c0_0 r]) ∧ St w G w') := by
  obtain rfl := r0_0.1
  unfold laws_toModeS at h
  refine enter (vs := [_]) Try.func85 rfl rfl rfl rfl ?_
  refine WC.seq ?_
  refine WC.region ?_
  refine Lt.ofWL.step rfl rfl rfl (OpV.assign rfl) ?_
  refine WL.nil ?_
  refine En.next ?_
  refine WC.seq ?_
  obtain ⟨x1_2, e1_2, h⟩ := bnd h
  refine WC.region ?_
  refine Lt.ofWL.step rfl rfl rfl (OpV.move rfl) ?_
  refine Lt.ofWL.step rfl rfl rfl (OpV.len rfl si_39 rfl) ?_
  refine WL.heavy rfl rfl rfl (OpH.makeO (A := tMode) rfl rfl mi_24 (fun w => tMode_flat.ow w (ModeT.mk 0 0 0 0 0 0 0 0 0)) (by decide) e1_2 ⟨Int.le_refl _, (mkO_some e1_2).1.2⟩ ?_)
  intro b1_2
  refine Lt.ofWL.step rfl rfl rfl (OpV.assign rfl) ?_
  refine WL.nil ?_
  refine En.next ?_
  refine WC.seq ?_
  refine WC.seq ?_
  refine WC.region ?_
  refine Lt.ofWL.step rfl rfl rfl (OpV.assign rfl) ?_
  refine WL.nil ?_
  refine En.next ?_
  refine WC.block ?_
  obtain ⟨zy0, ezy0, h⟩ := bnd h
  refine WC.cut (X := ((List ModeT)) × ((List Nat))) (.exit 0) (fun x => zy0 = x.1) (fun x => match x with | (out_0e, fout_0e) => [(3, .slice (some ⟨b1_2, 0, .none⟩) x1_2.length ((a_p0.length : Int).toNat))]) (fun x => match x with | (out_0e, fout_0e) => [Chunk.own tMode fout_0e (some ⟨b1_2, 0, .none⟩) x1_2.length ((a_p0.length : Int).toNat) out_0e]) ?_ ?_
  ·
    rintro ⟨out_0e, fout_0e⟩ hx
    replace hx : out_0e = zy0 := hx.symm
    subst hx
    show En _ _ _ _ [(3, .slice (some ⟨b1_2, 0, .none⟩) x1_2.length ((a_p0.length : Int).toNat))] [Chunk.own tMode fout_0e (some ⟨b1_2, 0, .none⟩) x1_2.length ((a_p0.length : Int).toNat) out_0e]
    refine En.block_exit ?_
    refine En.next ?_
    refine WC.seq ?_
    refine WC.region ?_
    refine Lt.ofWL.step rfl rfl rfl (OpV.move rfl) ?_
    refine Lt.ofWL.step rfl rfl rfl (OpV.assign rfl) ?_
    refine WL.nil ?_
    refine En.next ?_
    refine WC.ret ?_
    refine En.ret1 rfl (Res.tmp rfl) ?_
    obtain rfl := Option.some.inj h
    intro w' hs
    have hs := hs
    exact ⟨_, _, rfl, ⟨(some ⟨b1_2, 0, .none⟩), x1_2.length, ((a_p0.length : Int).toNat), fout_0e, rfl, rfl⟩, hs⟩
  ·
    intro zK0_0
    refine WC.loopP (G := (List Nat)) (fun s g => match s, g with | (out_0, i_0), fout_0 => [(0, .slice q0_0 a_p0.length k0_0), (3, .slice (some ⟨b1_2, 0, .none⟩) x1_2.length ((a_p0.length : Int).toNat)), (4, .int .i64 i_0)]) (fun s g => match s, g with | (out_0, i_0), fout_0 => [Chunk.own tMode fout_0 (some ⟨b1_2, 0, .none⟩) x1_2.length ((a_p0.length : Int).toNat) out_0]) (x1_2, 0) [b1_2] ezy0 (by exact Sub.cons rfl (Sub.cons rfl (Sub.cons rfl (Sub.nil _)))) (by exact (fun _ h => h)) ?_
    rintro zm0 ⟨out_0, i_0⟩ fout_0 zo0 zf0 zb0 ze0
    have zh0 : laws_toModeS_L0 a_p0 out_0 i_0 = some zo0 := zf0
    unfold laws_toModeS_L0 at zh0
    show WC _ _ _ _ _ [(0, .slice q0_0 a_p0.length k0_0), (3, .slice (some ⟨b1_2, 0, .none⟩) x1_2.length ((a_p0.length : Int).toNat)), (4, .int .i64 i_0)] [Chunk.own tMode fout_0 (some ⟨b1_2, 0, .none⟩) x1_2.length ((a_p0.length : Int).toNat) out_0]
    refine WC.seq ?_
    refine WC.seq ?_
    refine WC.region ?_
    refine Lt.ofWL.step rfl rfl rfl (OpV.move rfl) ?_
    refine Lt.ofWL.step rfl rfl rfl (OpV.move rfl) ?_
    refine Lt.ofWL.step rfl rfl rfl (OpV.len rfl si_39 rfl) ?_
    refine Lt.ofWL.step rfl rfl rfl (OpV.lss rfl rfl) ?_
    refine WL.nil ?_
    refine En.next ?_
    refine WC.cond rfl ?_ ?_
    ·
      intro hc_1
      replace zh0 := ifO_t hc_1 zh0
      refine WC.skip ?_
      refine En.next ?_
      refine WC.seq ?_
      refine WC.block ?_
      refine WC.inh fun hin5 => ?_
      obtain ⟨x5_4, e5_4, zh0⟩ := bnd zh0
      obtain ⟨g5_4, o5_4, _, ha5_4, rfl, hd5_4⟩ := Rd.atIdx r0_0 e5_4
      replace hd5_4 : ∀ (j : Nat) v, ([.int .i64 x5_4.Clock, .int .i64 x5_4.W, .int .i64 x5_4.HFront, .int .i64 x5_4.HSync, .int .i64 x5_4.HBack, .int .i64 x5_4.H, .int .i64 x5_4.VFront, .int .i64 x5_4.VSync, .int .i64 x5_4.VBack] : List Value)[j]? = some v → w.cell? ⟨g5_4, o5_4 + i_0.toNat * 9 + j, .none⟩ = some v := hd5_4
      obtain ⟨x5_6, e5_6, zh0⟩ := bnd zh0
      have hn5_7 := ownLen hin5 (.head _)
      obtain ⟨x5_8, e5_8, zh0⟩ := bnd zh0
      obtain ⟨g5_7, ha5_7⟩ := ownAddrU hin5 (.head _) e5_8
      refine WC.region ?_
      refine Lt.ofWL.step rfl rfl rfl (OpV.move rfl) ?_
      refine Lt.ofWL.step rfl rfl rfl (OpV.move rfl) ?_
      refine Lt.ofWL.step rfl rfl rfl (OpV.move rfl) ?_
      refine Lt.ofWL.step rfl rfl rfl (OpV.move rfl) ?_
      refine Lt.ofWL.step rfl rfl rfl (OpV.idxA rfl rfl se_39 ha5_4 ⟨(idx_some e5_4).1, (idx_some e5_4).2.1⟩) ?_
      refine Lt.ofWL.step rfl rfl rfl (OpV.loadN rfl ag_160 rfl (fun w hs => hs.cellsAt hd5_4)) ?_
      refine Lt.ofWL.step rfl rfl rfl (OpV.call (evs.cons rfl (evs.nil)) ca_121 (fun w hs => w_laws_toMode e5_6)) ?_
      refine Lt.ofWL.step rfl rfl rfl (OpV.idxA rfl rfl se_24 ha5_7 ⟨(upd_some e5_8).1.1, by rw [hn5_7]; exact (upd_some e5_8).1.2⟩) ?_
      refine WL.wkF (fun _ h => St.elFlat tMode_flat x5_6 h) ?_
      refine WL.heavy0 rfl rfl (OpH.setEl (A := tMode) ha5_7 rfl rfl rfl ts_30 e5_8 ?_)
      intro f5_8
      refine WL.nil ?_
      refine En.block_norm ?_
      refine En.next ?_
      refine WC.region ?_
      refine Lt.ofWL.step rfl rfl rfl (OpV.move rfl) ?_
      refine Lt.ofWL.step rfl rfl rfl (OpV.addR rfl rfl) ?_
      refine Lt.ofWL.step rfl rfl rfl (OpV.assign rfl) ?_
      refine WL.nil ?_
      exact En.backP zb0 zh0 f5_8 (Sub.cons rfl (Sub.cons rfl (Sub.cons rfl (Sub.nil _)))) (fun _ h => h)
    ·
      intro hc_1
      replace zh0 := ifO_f hc_1 zh0
      refine WC.exit ?_
      refine En.then_exit ?_
      refine En.then_exit ?_
      have hx := exitP ze0 zh0
      exact En.wk _ _ (Sub.cons rfl (Sub.nil _)) (fun _ h => h) (zK0_0 (out_0, fout_0) hx.symm)

theorem w_laws_toMonitor {a_p0 : MonitorT} {r : MonitorT} {q0_0 : Option Addr} {n0_0 k0_0 : Nat} (h : laws_toMonitor a_p0 = some r) {w : World} (r0_0 : Rd tMode w q0_0 n0_0 k0_0 a_p0.Modes)  :
    Calls Try.prog 25 #[.agg #[.string a_p0.Name, .slice q0_0 n0_0 k0_0, .int .i64 a_p0.Stretch]] w (fun en w' => ∃ rv G, en = .returned rv ∧ (∃ (a0_0 : Option Addr) (n0_0 : Nat) (c0_0 : Nat) (f0_0 : List Nat), rv = .agg #[.string r.Name, .slice a0_0 n0_0 c0_0, .int .i64 r.Stretch] ∧ G = [Chunk.own tMode f0_0 a0_0 n0_0 c0_0 r.Modes]) ∧ St w G w') := by
  obtain rfl := r0_0.1
  unfold laws_toMonitor at h
  refine enter (vs := [_]) Try.func25 rfl rfl rfl rfl ?_
  refine WC.seq ?_
  refine WC.region ?_
  refine WL.heavy rfl rfl rfl (OpH.box rfl rfl ?_)
  intro b0_0
  refine WL.heavy rfl rfl rfl (OpH.alloc zc_26 ?_)
  intro b0_1
  refine WL.nil ?_
  refine En.next ?_
  refine WC.seq ?_
  refine WC.region ?_
  refine WL.heavy rfl rfl rfl (OpH.alloc zc_26 ?_)
  intro b1_0
  refine WL.nil ?_
  refine En.next ?_
  refine WC.seq ?_
  refine WC.region ?_
  refine Lt.ofWL.step rfl rfl rfl (OpV.fieldAddr rfl fo_41_0) ?_
  refine Lt.ofWL.step rfl rfl rfl (OpV.loadBox rfl pt_9 (.tail _ (.tail _ (.head _))) rfl) ?_
  refine Lt.ofWL.step rfl rfl rfl (OpV.fieldAddr rfl fo_26_0) ?_
  refine WL.heavy0 rfl rfl (OpH.storeTo (A := []) [_, _, _] rfl rfl rfl ts_9 rfl rfl rfl ?_)
  refine WL.nil ?_
  refine En.next ?_
  refine WC.seq ?_
  obtain ⟨x3_2, e3_2, h⟩ := bnd h
  refine WC.region ?_
  refine Lt.ofWL.step rfl rfl rfl (OpV.fieldAddr rfl fo_41_1) ?_
  refine Lt.ofWL.step rfl rfl rfl (OpV.loadBox rfl pt_39 (.tail _ (.tail _ (.head _))) rfl) ?_
  refine WL.heavy rfl rfl rfl (OpH.callR (evs.cons rfl (evs.nil)) ca_85 (fun w hs => w_laws_toModeS e3_2 (r0_0.ext hs.below)) ?_)
  rintro _ _ ⟨a3_200, n3_200, c3_200, f3_200, rfl, rfl⟩
  refine Lt.ofWL.step rfl rfl rfl (OpV.fieldAddr rfl fo_26_1) ?_
  refine WL.heavy0 rfl rfl (OpH.storeTo (A := [_]) [_, _, _] rfl rfl rfl ts_24 rfl rfl rfl ?_)
  refine WL.nil ?_
  refine En.next ?_
  refine WC.seq ?_
  refine WC.region ?_
  refine Lt.ofWL.step rfl rfl rfl (OpV.fieldAddr rfl fo_41_2) ?_
  refine Lt.ofWL.step rfl rfl rfl (OpV.loadBox rfl pt_3 (.tail _ (.tail _ (.tail _ (.head _)))) rfl) ?_
  refine Lt.ofWL.step rfl rfl rfl (OpV.fieldAddr rfl fo_26_2) ?_
  refine WL.heavy0 rfl rfl (OpH.storeTo (A := [_]) [_, _, _] rfl rfl rfl ts_3 rfl rfl rfl ?_)
  refine WL.nil ?_
  refine En.next ?_
  refine WC.seq ?_
  refine WC.region ?_
  refine Lt.ofWL.step rfl rfl rfl (OpV.loadAll rfl (.tail _ (.head _)) ag_26) ?_
  refine WL.heavy0 rfl rfl (OpH.storeTo (A := [_, _]) [_, _, _] rfl rfl rfl ts_26 rfl rfl rfl ?_)
  refine WL.nil ?_
  refine En.next ?_
  refine WC.ret ?_
  refine En.ret1 rfl (Res.cell rfl (.tail _ (.tail _ (.head _))) ag_26) ?_
  obtain rfl := Option.some.inj h
  intro w' hs
  have hs := (hs).sub (.cons_cons _ (.cons _ (.cons _ (.cons _ (.slnil)))))
  exact ⟨_, _, rfl, ⟨a3_200, n3_200, c3_200, f3_200, rfl, rfl⟩, hs⟩

theorem w_spec_l01In {x_p0 : Int} {least_p1 : Int} {most_p2 : Int} {r : Bool}  (h : spec_l01In x_p0 least_p1 most_p2 = some r) {w : World}   :
    Calls Try.prog 83 #[.int .i64 x_p0, .int .i64 least_p1, .int .i64 most_p2] w (fun en w' => en = .returned (.bool r) ∧ Ext w w') := by
  unfold spec_l01In at h
  refine enter (vs := [_, _, _]) Try.func83 rfl rfl rfl rfl ?_
  refine WC.seq ?_
  refine WC.region ?_
  refine Lt.ofWL.step rfl rfl rfl (OpV.assign rfl) ?_
  refine WL.nil ?_
  refine En.next ?_
  refine WC.seq ?_
  refine WC.region ?_
  refine Lt.ofWL.step rfl rfl rfl (OpV.move rfl) ?_
  refine Lt.ofWL.step rfl rfl rfl (OpV.move rfl) ?_
  refine Lt.ofWL.step rfl rfl rfl (OpV.geq rfl rfl) ?_
  refine Lt.ofWL.step rfl rfl rfl (OpV.move rfl) ?_
  refine Lt.ofWL.and 10 14 13 (p := ?pz1) (rest := ?qz1) (B := ?Bz1) rfl ?Tz1 ?Fz1 ?az1 ?bz1 ?cz1 ?dz1 ?ez1
  case Tz1 =>
    intro hcz1 hkz1
    refine Lt.ofWL.step rfl rfl rfl (OpV.move rfl) ?_
    refine Lt.ofWL.step rfl rfl rfl (OpV.move rfl) ?_
    refine Lt.ofWL.step rfl rfl rfl (OpV.leq rfl rfl) ?_
    refine hkz1 _ ?_ ?_
    exact rfl
    repeat (first | exact Sub.refl _ | refine Sub.skip rfl ?_)
  case Fz1 =>
    intro hcz1 hkz1
    refine Lt.ofWL.skip rfl rfl rfl ?_
    refine Lt.ofWL.skip rfl rfl rfl ?_
    refine Lt.ofWL.skip rfl rfl rfl ?_
    refine hkz1 _ ?_
    repeat (first | exact Sub.refl _ | refine Sub.skip rfl ?_)
  case az1 => exact rfl
  case bz1 => exact rfl
  case cz1 => exact rfl
  case dz1 => exact rfl
  refine Lt.ofWL.step rfl rfl rfl (OpV.assign rfl) ?_
  refine WL.nil ?_
  refine En.next ?_
  refine WC.ret ?_
  refine En.ret1 rfl (Res.tmp rfl) ?_
  obtain rfl := Option.some.inj h
  intro w' hs
  exact ⟨rfl, hs.below⟩

theorem w_spec_ModeOk {m_p0 : ModeT} {r : Bool}  (h : spec_ModeOk m_p0 = some r) {w : World}   :
    Calls Try.prog 84 #[.agg #[.int .i64 m_p0.Clock, .int .i64 m_p0.W, .int .i64 m_p0.HFront, .int .i64 m_p0.HSync, .int .i64 m_p0.HBack, .int .i64 m_p0.H, .int .i64 m_p0.VFront, .int .i64 m_p0.VSync, .int .i64 m_p0.VBack]] w (fun en w' => en = .returned (.bool r) ∧ Ext w w') := by
  unfold spec_ModeOk at h
  refine enter (vs := [_]) Try.func84 rfl rfl rfl rfl ?_
  refine WC.seq ?_
  refine WC.region ?_
  refine WL.heavy rfl rfl rfl (OpH.box rfl rfl ?_)
  intro b0_0
  refine Lt.ofWL.step rfl rfl rfl (OpV.assign rfl) ?_
  refine WL.nil ?_
  refine En.next ?_
  refine WC.seq ?_
  obtain ⟨x1_2, e1_2, h⟩ := bnd h
  obtain ⟨q1_7, e1_7, h⟩ := bnd h
  obtain ⟨q1_12, e1_12, h⟩ := bnd h
  obtain ⟨q1_17, e1_17, h⟩ := bnd h
  obtain ⟨q1_22, e1_22, h⟩ := bnd h
  obtain ⟨q1_27, e1_27, h⟩ := bnd h
  obtain ⟨q1_32, e1_32, h⟩ := bnd h
  obtain ⟨q1_37, e1_37, h⟩ := bnd h
  obtain ⟨q1_42, e1_42, h⟩ := bnd h
  refine WC.region ?_
  refine Lt.ofWL.step rfl rfl rfl (OpV.fieldAddr rfl fo_30_0) ?_
  refine Lt.ofWL.step rfl rfl rfl (OpV.loadBox rfl pt_3 (.head _) rfl) ?_
  refine Lt.ofWL.step rfl rfl rfl (OpV.call (evs.cons rfl (evs.cons rfl (evs.cons rfl (evs.nil)))) ca_83 (fun w hs => w_spec_l01In e1_2)) ?_
  refine Lt.ofWL.step rfl rfl rfl (OpV.move rfl) ?_
  refine Lt.ofWL.andQ 6 10 9 (p := ?pz1) (rest := ?qz1) (B := q1_7) rfl (fun hz => andO_f e1_7 hz) ?Tz1 ?Fz1 ?az1 ?bz1 ?cz1 ?dz1 ?ez1
  case Tz1 =>
    intro hcz1 hkz1
    have hqz1 := andO_t e1_7 hcz1
    obtain ⟨x1_6, e1_6, hqz1⟩ := bnd hqz1
    obtain rfl := Option.some.inj hqz1
    refine Lt.ofWL.step rfl rfl rfl (OpV.fieldAddr rfl fo_30_1) ?_
    refine Lt.ofWL.step rfl rfl rfl (OpV.loadBox rfl pt_3 (.head _) rfl) ?_
    refine Lt.ofWL.step rfl rfl rfl (OpV.call (evs.cons rfl (evs.cons rfl (evs.cons rfl (evs.nil)))) ca_83 (fun w hs => w_spec_l01In e1_6)) ?_
    refine hkz1 _ ?_ ?_
    exact rfl
    repeat (first | exact Sub.refl _ | refine Sub.skip rfl ?_)
  case Fz1 =>
    intro hcz1 hkz1
    refine Lt.ofWL.skip rfl rfl rfl ?_
    refine Lt.ofWL.skip rfl rfl rfl ?_
    refine Lt.ofWL.skip rfl rfl rfl ?_
    refine hkz1 _ ?_
    repeat (first | exact Sub.refl _ | refine Sub.skip rfl ?_)
  case az1 => exact rfl
  case bz1 => exact rfl
  case cz1 => exact rfl
  case dz1 => exact rfl
  refine Lt.ofWL.step rfl rfl rfl (OpV.move rfl) ?_
  refine Lt.ofWL.andQ 11 15 14 (p := ?pz2) (rest := ?qz2) (B := q1_12) rfl (fun hz => andO_f e1_12 hz) ?Tz2 ?Fz2 ?az2 ?bz2 ?cz2 ?dz2 ?ez2
  case Tz2 =>
    intro hcz2 hkz2
    have hqz2 := andO_t e1_12 hcz2
    obtain ⟨x1_11, e1_11, hqz2⟩ := bnd hqz2
    obtain rfl := Option.some.inj hqz2
    refine Lt.ofWL.step rfl rfl rfl (OpV.fieldAddr rfl fo_30_5) ?_
    refine Lt.ofWL.step rfl rfl rfl (OpV.loadBox rfl pt_3 (.head _) rfl) ?_
    refine Lt.ofWL.step rfl rfl rfl (OpV.call (evs.cons rfl (evs.cons rfl (evs.cons rfl (evs.nil)))) ca_83 (fun w hs => w_spec_l01In e1_11)) ?_
    refine hkz2 _ ?_ ?_
    exact rfl
    repeat (first | exact Sub.refl _ | refine Sub.skip rfl ?_)
  case Fz2 =>
    intro hcz2 hkz2
    refine Lt.ofWL.skip rfl rfl rfl ?_
    refine Lt.ofWL.skip rfl rfl rfl ?_
    refine Lt.ofWL.skip rfl rfl rfl ?_
    refine hkz2 _ ?_
    repeat (first | exact Sub.refl _ | refine Sub.skip rfl ?_)
  case az2 => exact rfl
  case bz2 => exact rfl
  case cz2 => exact rfl
  case dz2 => exact rfl
  refine Lt.ofWL.step rfl rfl rfl (OpV.move rfl) ?_
  refine Lt.ofWL.andQ 16 20 19 (p := ?pz3) (rest := ?qz3) (B := q1_17) rfl (fun hz => andO_f e1_17 hz) ?Tz3 ?Fz3 ?az3 ?bz3 ?cz3 ?dz3 ?ez3
  case Tz3 =>
    intro hcz3 hkz3
    have hqz3 := andO_t e1_17 hcz3
    obtain ⟨x1_16, e1_16, hqz3⟩ := bnd hqz3
    obtain rfl := Option.some.inj hqz3
    refine Lt.ofWL.step rfl rfl rfl (OpV.fieldAddr rfl fo_30_3) ?_
    refine Lt.ofWL.step rfl rfl rfl (OpV.loadBox rfl pt_3 (.head _) rfl) ?_
    refine Lt.ofWL.step rfl rfl rfl (OpV.call (evs.cons rfl (evs.cons rfl (evs.cons rfl (evs.nil)))) ca_83 (fun w hs => w_spec_l01In e1_16)) ?_
    refine hkz3 _ ?_ ?_
    exact rfl
    repeat (first | exact Sub.refl _ | refine Sub.skip rfl ?_)
  case Fz3 =>
    intro hcz3 hkz3
    refine Lt.ofWL.skip rfl rfl rfl ?_
    refine Lt.ofWL.skip rfl rfl rfl ?_
    refine Lt.ofWL.skip rfl rfl rfl ?_
    refine hkz3 _ ?_
    repeat (first | exact Sub.refl _ | refine Sub.skip rfl ?_)
  case az3 => exact rfl
  case bz3 => exact rfl
  case cz3 => exact rfl
  case dz3 => exact rfl
  refine Lt.ofWL.step rfl rfl rfl (OpV.move rfl) ?_
  refine Lt.ofWL.andQ 21 25 24 (p := ?pz4) (rest := ?qz4) (B := q1_22) rfl (fun hz => andO_f e1_22 hz) ?Tz4 ?Fz4 ?az4 ?bz4 ?cz4 ?dz4 ?ez4
  case Tz4 =>
    intro hcz4 hkz4
    have hqz4 := andO_t e1_22 hcz4
    obtain ⟨x1_21, e1_21, hqz4⟩ := bnd hqz4
    obtain rfl := Option.some.inj hqz4
    refine Lt.ofWL.step rfl rfl rfl (OpV.fieldAddr rfl fo_30_7) ?_
    refine Lt.ofWL.step rfl rfl rfl (OpV.loadBox rfl pt_3 (.head _) rfl) ?_
    refine Lt.ofWL.step rfl rfl rfl (OpV.call (evs.cons rfl (evs.cons rfl (evs.cons rfl (evs.nil)))) ca_83 (fun w hs => w_spec_l01In e1_21)) ?_
    refine hkz4 _ ?_ ?_
    exact rfl
    repeat (first | exact Sub.refl _ | refine Sub.skip rfl ?_)
  case Fz4 =>
    intro hcz4 hkz4
    refine Lt.ofWL.skip rfl rfl rfl ?_
    refine Lt.ofWL.skip rfl rfl rfl ?_
    refine Lt.ofWL.skip rfl rfl rfl ?_
    refine hkz4 _ ?_
    repeat (first | exact Sub.refl _ | refine Sub.skip rfl ?_)
  case az4 => exact rfl
  case bz4 => exact rfl
  case cz4 => exact rfl
  case dz4 => exact rfl
  refine Lt.ofWL.step rfl rfl rfl (OpV.move rfl) ?_
  refine Lt.ofWL.andQ 26 30 29 (p := ?pz5) (rest := ?qz5) (B := q1_27) rfl (fun hz => andO_f e1_27 hz) ?Tz5 ?Fz5 ?az5 ?bz5 ?cz5 ?dz5 ?ez5
  case Tz5 =>
    intro hcz5 hkz5
    have hqz5 := andO_t e1_27 hcz5
    obtain ⟨x1_26, e1_26, hqz5⟩ := bnd hqz5
    obtain rfl := Option.some.inj hqz5
    refine Lt.ofWL.step rfl rfl rfl (OpV.fieldAddr rfl fo_30_2) ?_
    refine Lt.ofWL.step rfl rfl rfl (OpV.loadBox rfl pt_3 (.head _) rfl) ?_
    refine Lt.ofWL.step rfl rfl rfl (OpV.call (evs.cons rfl (evs.cons rfl (evs.cons rfl (evs.nil)))) ca_83 (fun w hs => w_spec_l01In e1_26)) ?_
    refine hkz5 _ ?_ ?_
    exact rfl
    repeat (first | exact Sub.refl _ | refine Sub.skip rfl ?_)
  case Fz5 =>
    intro hcz5 hkz5
    refine Lt.ofWL.skip rfl rfl rfl ?_
    refine Lt.ofWL.skip rfl rfl rfl ?_
    refine Lt.ofWL.skip rfl rfl rfl ?_
    refine hkz5 _ ?_
    repeat (first | exact Sub.refl _ | refine Sub.skip rfl ?_)
  case az5 => exact rfl
  case bz5 => exact rfl
  case cz5 => exact rfl
  case dz5 => exact rfl
  refine Lt.ofWL.step rfl rfl rfl (OpV.move rfl) ?_
  refine Lt.ofWL.andQ 31 35 34 (p := ?pz6) (rest := ?qz6) (B := q1_32) rfl (fun hz => andO_f e1_32 hz) ?Tz6 ?Fz6 ?az6 ?bz6 ?cz6 ?dz6 ?ez6
  case Tz6 =>
    intro hcz6 hkz6
    have hqz6 := andO_t e1_32 hcz6
    obtain ⟨x1_31, e1_31, hqz6⟩ := bnd hqz6
    obtain rfl := Option.some.inj hqz6
    refine Lt.ofWL.step rfl rfl rfl (OpV.fieldAddr rfl fo_30_4) ?_
    refine Lt.ofWL.step rfl rfl rfl (OpV.loadBox rfl pt_3 (.head _) rfl) ?_
    refine Lt.ofWL.step rfl rfl rfl (OpV.call (evs.cons rfl (evs.cons rfl (evs.cons rfl (evs.nil)))) ca_83 (fun w hs => w_spec_l01In e1_31)) ?_
    refine hkz6 _ ?_ ?_
    exact rfl
    repeat (first | exact Sub.refl _ | refine Sub.skip rfl ?_)
  case Fz6 =>
    intro hcz6 hkz6
    refine Lt.ofWL.skip rfl rfl rfl ?_
    refine Lt.ofWL.skip rfl rfl rfl ?_
    refine Lt.ofWL.skip rfl rfl rfl ?_
    refine hkz6 _ ?_
    repeat (first | exact Sub.refl _ | refine Sub.skip rfl ?_)
  case az6 => exact rfl
  case bz6 => exact rfl
  case cz6 => exact rfl
  case dz6 => exact rfl
  refine Lt.ofWL.step rfl rfl rfl (OpV.move rfl) ?_
  refine Lt.ofWL.andQ 36 40 39 (p := ?pz7) (rest := ?qz7) (B := q1_37) rfl (fun hz => andO_f e1_37 hz) ?Tz7 ?Fz7 ?az7 ?bz7 ?cz7 ?dz7 ?ez7
  case Tz7 =>
    intro hcz7 hkz7
    have hqz7 := andO_t e1_37 hcz7
    obtain ⟨x1_36, e1_36, hqz7⟩ := bnd hqz7
    obtain rfl := Option.some.inj hqz7
    refine Lt.ofWL.step rfl rfl rfl (OpV.fieldAddr rfl fo_30_6) ?_
    refine Lt.ofWL.step rfl rfl rfl (OpV.loadBox rfl pt_3 (.head _) rfl) ?_
    refine Lt.ofWL.step rfl rfl rfl (OpV.call (evs.cons rfl (evs.cons rfl (evs.cons rfl (evs.nil)))) ca_83 (fun w hs => w_spec_l01In e1_36)) ?_
    refine hkz7 _ ?_ ?_
    exact rfl
    repeat (first | exact Sub.refl _ | refine Sub.skip rfl ?_)
  case Fz7 =>
    intro hcz7 hkz7
    refine Lt.ofWL.skip rfl rfl rfl ?_
    refine Lt.ofWL.skip rfl rfl rfl ?_
    refine Lt.ofWL.skip rfl rfl rfl ?_
    refine hkz7 _ ?_
    repeat (first | exact Sub.refl _ | refine Sub.skip rfl ?_)
  case az7 => exact rfl
  case bz7 => exact rfl
  case cz7 => exact rfl
  case dz7 => exact rfl
  refine Lt.ofWL.step rfl rfl rfl (OpV.move rfl) ?_
  refine Lt.ofWL.andQ 41 45 44 (p := ?pz8) (rest := ?qz8) (B := q1_42) rfl (fun hz => andO_f e1_42 hz) ?Tz8 ?Fz8 ?az8 ?bz8 ?cz8 ?dz8 ?ez8
  case Tz8 =>
    intro hcz8 hkz8
    have hqz8 := andO_t e1_42 hcz8
    obtain ⟨x1_41, e1_41, hqz8⟩ := bnd hqz8
    obtain rfl := Option.some.inj hqz8
    refine Lt.ofWL.step rfl rfl rfl (OpV.fieldAddr rfl fo_30_8) ?_
    refine Lt.ofWL.step rfl rfl rfl (OpV.loadBox rfl pt_3 (.head _) rfl) ?_
    refine Lt.ofWL.step rfl rfl rfl (OpV.call (evs.cons rfl (evs.cons rfl (evs.cons rfl (evs.nil)))) ca_83 (fun w hs => w_spec_l01In e1_41)) ?_
    refine hkz8 _ ?_ ?_
    exact rfl
    repeat (first | exact Sub.refl _ | refine Sub.skip rfl ?_)
  case Fz8 =>
    intro hcz8 hkz8
    refine Lt.ofWL.skip rfl rfl rfl ?_
    refine Lt.ofWL.skip rfl rfl rfl ?_
    refine Lt.ofWL.skip rfl rfl rfl ?_
    refine hkz8 _ ?_
    repeat (first | exact Sub.refl _ | refine Sub.skip rfl ?_)
  case az8 => exact rfl
  case bz8 => exact rfl
  case cz8 => exact rfl
  case dz8 => exact rfl
  refine Lt.ofWL.step rfl rfl rfl (OpV.assign rfl) ?_
  refine WL.nil ?_
  refine En.next ?_
  refine WC.ret ?_
  refine En.ret1 rfl (Res.tmp rfl) ?_
  obtain rfl := Option.some.inj h
  intro w' hs
  exact ⟨rfl, hs.below⟩

theorem w_spec_MonitorOk {m_p0 : MonitorT} {r : Bool} {q0_0 : Option Addr} {n0_0 k0_0 : Nat} (h : spec_MonitorOk m_p0 = some r) {w : World} (r0_0 : Rd tMode w q0_0 n0_0 k0_0 m_p0.Modes)  :
    Calls Try.prog 24 #[.agg #[.string m_p0.Name, .slice q0_0 n0_0 k0_0, .int .i64 m_p0.Stretch]] w (fun en w' => en = .returned (.bool r) ∧ Ext w w') := by
  obtain rfl := r0_0.1
  unfold spec_MonitorOk at h
  refine enter (vs := [_]) Try.func24 rfl rfl rfl rfl ?_
  refine WC.seq ?_
  refine WC.region ?_
  refine WL.heavy rfl rfl rfl (OpH.box rfl rfl ?_)
  intro b0_0
  refine Lt.ofWL.step rfl rfl rfl (OpV.assign rfl) ?_
  refine WL.nil ?_
  refine En.next ?_
  refine WC.seq ?_
  refine WC.seq ?_
  obtain ⟨x1_3, e1_3, h⟩ := bnd h
  obtain ⟨q1_11, e1_11, h⟩ := bnd h
  obtain ⟨q1_17, e1_17, h⟩ := bnd h
  refine WC.region ?_
  refine Lt.ofWL.step rfl rfl rfl (OpV.fieldAddr rfl fo_26_0) ?_
  refine Lt.ofWL.step rfl rfl rfl (OpV.loadBox rfl pt_9 (.head _) rfl) ?_
  refine Lt.ofWL.step rfl rfl rfl (OpV.lenS rfl us_9 rfl) ?_
  refine Lt.ofWL.step rfl rfl rfl (OpV.call (evs.cons rfl (evs.cons rfl (evs.cons rfl (evs.nil)))) ca_83 (fun w hs => w_spec_l01In e1_3)) ?_
  refine Lt.ofWL.step rfl rfl rfl (OpV.not rfl) ?_
  refine Lt.ofWL.step rfl rfl rfl (OpV.move rfl) ?_
  refine Lt.ofWL.orQ 10 16 15 (p := ?pz1) (rest := ?qz1) (B := q1_11) rfl (fun hz => orO_t e1_11 hz) ?Tz1 ?Fz1 ?az1 ?bz1 ?cz1 ?dz1 ?ez1
  case Tz1 =>
    intro hcz1 hkz1
    refine Lt.ofWL.skip rfl rfl rfl ?_
    refine Lt.ofWL.skip rfl rfl rfl ?_
    refine Lt.ofWL.skip rfl rfl rfl ?_
    refine Lt.ofWL.skip rfl rfl rfl ?_
    refine Lt.ofWL.skip rfl rfl rfl ?_
    refine hkz1 _ ?_
    repeat (first | exact Sub.refl _ | refine Sub.skip rfl ?_)
  case Fz1 =>
    intro hcz1 hkz1
    have hqz1 := orO_f e1_11 hcz1
    obtain ⟨x1_9, e1_9, hqz1⟩ := bnd hqz1
    obtain rfl := Option.some.inj hqz1
    refine Lt.ofWL.step rfl rfl rfl (OpV.fieldAddr rfl fo_26_1) ?_
    refine Lt.ofWL.step rfl rfl rfl (OpV.loadBox rfl pt_24 (.head _) rfl) ?_
    refine Lt.ofWL.step rfl rfl rfl (OpV.len rfl si_24 rfl) ?_
    refine Lt.ofWL.step rfl rfl rfl (OpV.call (evs.cons rfl (evs.cons rfl (evs.cons rfl (evs.nil)))) ca_83 (fun w hs => w_spec_l01In e1_9)) ?_
    refine Lt.ofWL.step rfl rfl rfl (OpV.not rfl) ?_
    refine hkz1 _ ?_ ?_
    exact rfl
    repeat (first | exact Sub.refl _ | refine Sub.skip rfl ?_)
  case az1 => exact rfl
  case bz1 => exact rfl
  case cz1 => exact rfl
  case dz1 => exact rfl
  refine Lt.ofWL.step rfl rfl rfl (OpV.move rfl) ?_
  refine Lt.ofWL.orQ 17 22 21 (p := ?pz2) (rest := ?qz2) (B := q1_17) rfl (fun hz => orO_t e1_17 hz) ?Tz2 ?Fz2 ?az2 ?bz2 ?cz2 ?dz2 ?ez2
  case Tz2 =>
    intro hcz2 hkz2
    refine Lt.ofWL.skip rfl rfl rfl ?_
    refine Lt.ofWL.skip rfl rfl rfl ?_
    refine Lt.ofWL.skip rfl rfl rfl ?_
    refine Lt.ofWL.skip rfl rfl rfl ?_
    refine hkz2 _ ?_
    repeat (first | exact Sub.refl _ | refine Sub.skip rfl ?_)
  case Fz2 =>
    intro hcz2 hkz2
    have hqz2 := orO_f e1_17 hcz2
    obtain ⟨x1_15, e1_15, hqz2⟩ := bnd hqz2
    obtain rfl := Option.some.inj hqz2
    refine Lt.ofWL.step rfl rfl rfl (OpV.fieldAddr rfl fo_26_2) ?_
    refine Lt.ofWL.step rfl rfl rfl (OpV.loadBox rfl pt_3 (.head _) rfl) ?_
    refine Lt.ofWL.step rfl rfl rfl (OpV.call (evs.cons rfl (evs.cons rfl (evs.cons rfl (evs.nil)))) ca_83 (fun w hs => w_spec_l01In e1_15)) ?_
    refine Lt.ofWL.step rfl rfl rfl (OpV.not rfl) ?_
    refine hkz2 _ ?_ ?_
    exact rfl
    repeat (first | exact Sub.refl _ | refine Sub.skip rfl ?_)
  case az2 => exact rfl
  case bz2 => exact rfl
  case cz2 => exact rfl
  case dz2 => exact rfl
  refine WL.nil ?_
  refine En.next ?_
  refine WC.cond rfl ?_ ?_
  ·
    intro hc_1
    replace h := ifO_t hc_1 h
    refine WC.seq ?_
    refine WC.region ?_
    refine Lt.ofWL.step rfl rfl rfl (OpV.assign rfl) ?_
    refine WL.nil ?_
    refine En.next ?_
    refine WC.ret ?_
    refine En.then_ret ?_
    refine En.ret1 rfl (Res.tmp rfl) ?_
    obtain rfl := Option.some.inj h
    intro w' hs
    exact ⟨rfl, hs.below⟩
  ·
    intro hc_1
    replace h := ifO_f hc_1 h
    refine WC.skip ?_
    refine En.next ?_
    refine WC.seq ?_
    refine WC.seq ?_
    refine WC.region ?_
    refine Lt.ofWL.step rfl rfl rfl (OpV.assign rfl) ?_
    refine WL.nil ?_
    refine En.next ?_
    refine WC.block ?_
    obtain ⟨zy0, ezy0, h⟩ := bnd h
    refine WC.cut (X := (Unit) × (Unit)) (.exit 0) (fun x => zy0 = .inl x.1) (fun x => match x with | ((), ()) => [(1, .pointer (some ⟨b0_0, 0, .none⟩))]) (fun x => match x with | ((), ()) => [Chunk.box b0_0 26 [.string m_p0.Name, .slice q0_0 m_p0.Modes.length k0_0, .int .i64 m_p0.Stretch]]) ?_ ?_
    ·
      rintro ⟨⟨⟩, ⟨⟩⟩ hx
      replace hx : .inl () = zy0 := hx.symm
      subst hx
      replace h := fork_l h
      show En _ _ _ _ [(1, .pointer (some ⟨b0_0, 0, .none⟩))] [Chunk.box b0_0 26 [.string m_p0.Name, .slice q0_0 m_p0.Modes.length k0_0, .int .i64 m_p0.Stretch]]
      refine En.block_exit ?_
      refine En.next ?_
      refine WC.seq ?_
      refine WC.seq ?_
      refine WC.region ?_
      refine Lt.ofWL.step rfl rfl rfl (OpV.assign rfl) ?_
      refine WL.nil ?_
      refine En.next ?_
      refine WC.block ?_
      obtain ⟨zy1, ezy1, h⟩ := bnd h
      refine WC.cut (X := (Unit) × (Unit)) (.exit 2) (fun x => zy1 = .inl x.1) (fun x => match x with | ((), ()) => []) (fun x => match x with | ((), ()) => []) ?_ ?_
      ·
        rintro ⟨⟨⟩, ⟨⟩⟩ hx
        replace hx : .inl () = zy1 := hx.symm
        subst hx
        replace h := fork_l h
        show En _ _ _ _ [] []
        refine En.block_exit ?_
        refine En.next ?_
        refine WC.seq ?_
        refine WC.region ?_
        refine Lt.ofWL.step rfl rfl rfl (OpV.assign rfl) ?_
        refine WL.nil ?_
        refine En.next ?_
        refine WC.ret ?_
        refine En.ret1 rfl (Res.tmp rfl) ?_
        obtain rfl := Option.some.inj h
        intro w' hs
        exact ⟨rfl, hs.below⟩
      ·
        intro zK1_0
        refine WC.loopP (G := Unit) (fun s g => match s, g with | k_1, () => [(1, .pointer (some ⟨b0_0, 0, .none⟩)), (4, .int .i64 k_1)]) (fun s g => match s, g with | k_1, () => [Chunk.box b0_0 26 [.string m_p0.Name, .slice q0_0 m_p0.Modes.length k0_0, .int .i64 m_p0.Stretch]]) 0 () ezy1 (by exact Sub.cons rfl (Sub.cons rfl (Sub.nil _))) (by exact (fun _ h => h)) ?_
        rintro zm1 k_1 ⟨⟩ zo1 zf1 zb1 ze1
        have zh1 : spec_MonitorOk_L1 m_p0 k_1 = some zo1 := zf1
        unfold spec_MonitorOk_L1 at zh1
        show WC _ _ _ _ _ [(1, .pointer (some ⟨b0_0, 0, .none⟩)), (4, .int .i64 k_1)] [Chunk.box b0_0 26 [.string m_p0.Name, .slice q0_0 m_p0.Modes.length k0_0, .int .i64 m_p0.Stretch]]
        refine WC.seq ?_
        refine WC.seq ?_
        refine WC.region ?_
        refine Lt.ofWL.step rfl rfl rfl (OpV.move rfl) ?_
        refine Lt.ofWL.step rfl rfl rfl (OpV.fieldAddr rfl fo_26_1) ?_
        refine Lt.ofWL.step rfl rfl rfl (OpV.loadBox rfl pt_24 (.head _) rfl) ?_
        refine Lt.ofWL.step rfl rfl rfl (OpV.len rfl si_24 rfl) ?_
        refine Lt.ofWL.step rfl rfl rfl (OpV.lss rfl rfl) ?_
        refine WL.nil ?_
        refine En.next ?_
        refine WC.cond rfl ?_ ?_
        ·
          intro hc_2
          replace zh1 := ifO_t hc_2 zh1
          refine WC.skip ?_
          refine En.next ?_
          refine WC.seq ?_
          refine WC.block ?_
          refine WC.seq ?_
          obtain ⟨x11_3, e11_3, zh1⟩ := bnd zh1
          obtain ⟨g11_3, o11_3, _, ha11_3, rfl, hd11_3⟩ := Rd.atIdx r0_0 e11_3
          replace hd11_3 : ∀ (j : Nat) v, ([.int .i64 x11_3.Clock, .int .i64 x11_3.W, .int .i64 x11_3.HFront, .int .i64 x11_3.HSync, .int .i64 x11_3.HBack, .int .i64 x11_3.H, .int .i64 x11_3.VFront, .int .i64 x11_3.VSync, .int .i64 x11_3.VBack] : List Value)[j]? = some v → w.cell? ⟨g11_3, o11_3 + k_1.toNat * 9 + j, .none⟩ = some v := hd11_3
          obtain ⟨x11_5, e11_5, zh1⟩ := bnd zh1
          refine WC.region ?_
          refine Lt.ofWL.step rfl rfl rfl (OpV.fieldAddr rfl fo_26_1) ?_
          refine Lt.ofWL.step rfl rfl rfl (OpV.loadBox rfl pt_24 (.head _) rfl) ?_
          refine Lt.ofWL.step rfl rfl rfl (OpV.move rfl) ?_
          refine Lt.ofWL.step rfl rfl rfl (OpV.idxA rfl rfl se_24 ha11_3 ⟨(idx_some e11_3).1, (idx_some e11_3).2.1⟩) ?_
          refine Lt.ofWL.step rfl rfl rfl (OpV.loadN rfl ag_30 rfl (fun w hs => hs.cellsAt hd11_3)) ?_
          refine Lt.ofWL.step rfl rfl rfl (OpV.call (evs.cons rfl (evs.nil)) ca_84 (fun w hs => w_spec_ModeOk e11_5)) ?_
          refine Lt.ofWL.step rfl rfl rfl (OpV.not rfl) ?_
          refine WL.nil ?_
          refine En.next ?_
          refine WC.cond rfl ?_ ?_
          ·
            intro hc_3
            replace zh1 := ifO_t hc_3 zh1
            refine WC.seq ?_
            refine WC.region ?_
            refine Lt.ofWL.step rfl rfl rfl (OpV.assign rfl) ?_
            refine WL.nil ?_
            refine En.next ?_
            refine WC.ret ?_
            refine En.block_ret ?_
            refine En.then_ret ?_
            refine En.then_ret ?_
            refine En.block_ret ?_
            refine En.then_ret ?_
            refine En.ret1 rfl (Res.tmp rfl) ?_
            have hx := exitP ze1 zh1
            subst hx
            replace h := fork_r h
            obtain rfl := Option.some.inj h
            intro w' hs
            exact ⟨rfl, hs.below⟩
          ·
            intro hc_3
            replace zh1 := ifO_f hc_3 zh1
            refine WC.skip ?_
            refine En.block_norm ?_
            refine En.next ?_
            refine WC.region ?_
            refine Lt.ofWL.step rfl rfl rfl (OpV.move rfl) ?_
            refine Lt.ofWL.step rfl rfl rfl (OpV.addR rfl rfl) ?_
            refine Lt.ofWL.step rfl rfl rfl (OpV.assign rfl) ?_
            refine WL.nil ?_
            exact En.backP zb1 zh1 () (Sub.cons rfl (Sub.cons rfl (Sub.nil _))) (fun _ h => h)
        ·
          intro hc_2
          replace zh1 := ifO_f hc_2 zh1
          refine WC.exit ?_
          refine En.then_exit ?_
          refine En.then_exit ?_
          have hx := exitP ze1 zh1
          exact En.wk _ _ (Sub.nil _) (fun _ h => (h).sub (.cons _ (.slnil))) (zK1_0 ((), ()) hx.symm)
    ·
      intro zK0_0
      refine WC.loopP (G := Unit) (fun s g => match s, g with | k_0, () => [(1, .pointer (some ⟨b0_0, 0, .none⟩)), (3, .int .i64 k_0)]) (fun s g => match s, g with | k_0, () => [Chunk.box b0_0 26 [.string m_p0.Name, .slice q0_0 m_p0.Modes.length k0_0, .int .i64 m_p0.Stretch]]) 0 () ezy0 (by exact Sub.cons rfl (Sub.cons rfl (Sub.nil _))) (by exact (fun _ h => h)) ?_
      rintro zm0 k_0 ⟨⟩ zo0 zf0 zb0 ze0
      have zh0 : spec_MonitorOk_L0 m_p0 k_0 = some zo0 := zf0
      unfold spec_MonitorOk_L0 at zh0
      show WC _ _ _ _ _ [(1, .pointer (some ⟨b0_0, 0, .none⟩)), (3, .int .i64 k_0)] [Chunk.box b0_0 26 [.string m_p0.Name, .slice q0_0 m_p0.Modes.length k0_0, .int .i64 m_p0.Stretch]]
      refine WC.seq ?_
      refine WC.seq ?_
      refine WC.region ?_
      refine Lt.ofWL.step rfl rfl rfl (OpV.move rfl) ?_
      refine Lt.ofWL.step rfl rfl rfl (OpV.fieldAddr rfl fo_26_0) ?_
      refine Lt.ofWL.step rfl rfl rfl (OpV.loadBox rfl pt_9 (.head _) rfl) ?_
      refine Lt.ofWL.step rfl rfl rfl (OpV.lenS rfl us_9 rfl) ?_
      refine Lt.ofWL.step rfl rfl rfl (OpV.lss rfl rfl) ?_
      refine WL.nil ?_
      refine En.next ?_
      refine WC.cond rfl ?_ ?_
      ·
        intro hc_4
        replace zh0 := ifO_t hc_4 zh0
        refine WC.skip ?_
        refine En.next ?_
        refine WC.seq ?_
        refine WC.block ?_
        refine WC.seq ?_
        obtain ⟨x6_3, e6_3, zh0⟩ := bnd zh0
        obtain ⟨q6_11, e6_11, zh0⟩ := bnd zh0
        refine WC.region ?_
        refine Lt.ofWL.step rfl rfl rfl (OpV.fieldAddr rfl fo_26_0) ?_
        refine Lt.ofWL.step rfl rfl rfl (OpV.loadBox rfl pt_9 (.head _) rfl) ?_
        refine Lt.ofWL.step rfl rfl rfl (OpV.move rfl) ?_
        refine Lt.ofWL.step rfl rfl rfl (OpV.sidxR rfl rfl us_9 e6_3) ?_
        refine Lt.ofWL.step rfl rfl rfl (OpV.lss rfl rfl) ?_
        refine Lt.ofWL.step rfl rfl rfl (OpV.move rfl) ?_
        refine Lt.ofWL.orQ 35 41 40 (p := ?pz3) (rest := ?qz3) (B := q6_11) rfl (fun hz => orO_t e6_11 hz) ?Tz3 ?Fz3 ?az3 ?bz3 ?cz3 ?dz3 ?ez3
        case Tz3 =>
          intro hcz3 hkz3
          refine Lt.ofWL.skip rfl rfl rfl ?_
          refine Lt.ofWL.skip rfl rfl rfl ?_
          refine Lt.ofWL.skip rfl rfl rfl ?_
          refine Lt.ofWL.skip rfl rfl rfl ?_
          refine Lt.ofWL.skip rfl rfl rfl ?_
          refine hkz3 _ ?_
          repeat (first | exact Sub.refl _ | refine Sub.skip rfl ?_)
        case Fz3 =>
          intro hcz3 hkz3
          have hqz3 := orO_f e6_11 hcz3
          obtain ⟨x6_9, e6_9, hqz3⟩ := bnd hqz3
          obtain rfl := Option.some.inj hqz3
          refine Lt.ofWL.step rfl rfl rfl (OpV.fieldAddr rfl fo_26_0) ?_
          refine Lt.ofWL.step rfl rfl rfl (OpV.loadBox rfl pt_9 (.head _) rfl) ?_
          refine Lt.ofWL.step rfl rfl rfl (OpV.move rfl) ?_
          refine Lt.ofWL.step rfl rfl rfl (OpV.sidxR rfl rfl us_9 e6_9) ?_
          refine Lt.ofWL.step rfl rfl rfl (OpV.gtr rfl rfl) ?_
          refine hkz3 _ ?_ ?_
          exact rfl
          repeat (first | exact Sub.refl _ | refine Sub.skip rfl ?_)
        case az3 => exact rfl
        case bz3 => exact rfl
        case cz3 => exact rfl
        case dz3 => exact rfl
        refine WL.nil ?_
        refine En.next ?_
        refine WC.cond rfl ?_ ?_
        ·
          intro hc_5
          replace zh0 := ifO_t hc_5 zh0
          refine WC.seq ?_
          refine WC.region ?_
          refine Lt.ofWL.step rfl rfl rfl (OpV.assign rfl) ?_
          refine WL.nil ?_
          refine En.next ?_
          refine WC.ret ?_
          refine En.block_ret ?_
          refine En.then_ret ?_
          refine En.then_ret ?_
          refine En.block_ret ?_
          refine En.then_ret ?_
          refine En.ret1 rfl (Res.tmp rfl) ?_
          have hx := exitP ze0 zh0
          subst hx
          replace h := fork_r h
          obtain rfl := Option.some.inj h
          intro w' hs
          exact ⟨rfl, hs.below⟩
        ·
          intro hc_5
          replace zh0 := ifO_f hc_5 zh0
          refine WC.skip ?_
          refine En.block_norm ?_
          refine En.next ?_
          refine WC.region ?_
          refine Lt.ofWL.step rfl rfl rfl (OpV.move rfl) ?_
          refine Lt.ofWL.step rfl rfl rfl (OpV.addR rfl rfl) ?_
          refine Lt.ofWL.step rfl rfl rfl (OpV.assign rfl) ?_
          refine WL.nil ?_
          exact En.backP zb0 zh0 () (Sub.cons rfl (Sub.cons rfl (Sub.nil _))) (fun _ h => h)
      ·
        intro hc_4
        replace zh0 := ifO_f hc_4 zh0
        refine WC.exit ?_
        refine En.then_exit ?_
        refine En.then_exit ?_
        have hx := exitP ze0 zh0
        exact En.wk _ _ (Sub.cons rfl (Sub.nil _)) (fun _ h => h) (zK0_0 ((), ()) hx.symm)

theorem w_impl_within {n_p0 : Int} {low_p1 : Int} {high_p2 : Int} {r : Bool}  (h : impl_within n_p0 low_p1 high_p2 = some r) {w : World}   :
    Calls Try.prog 80 #[.int .i64 n_p0, .int .i64 low_p1, .int .i64 high_p2] w (fun en w' => en = .returned (.bool r) ∧ Ext w w') := by
  unfold impl_within at h
  refine enter (vs := [_, _, _]) Try.func80 rfl rfl rfl rfl ?_
  refine WC.seq ?_
  refine WC.region ?_
  refine Lt.ofWL.step rfl rfl rfl (OpV.assign rfl) ?_
  refine WL.nil ?_
  refine En.next ?_
  refine WC.seq ?_
  refine WC.region ?_
  refine Lt.ofWL.step rfl rfl rfl (OpV.move rfl) ?_
  refine Lt.ofWL.step rfl rfl rfl (OpV.move rfl) ?_
  refine Lt.ofWL.step rfl rfl rfl (OpV.leq rfl rfl) ?_
  refine Lt.ofWL.step rfl rfl rfl (OpV.move rfl) ?_
  refine Lt.ofWL.and 10 14 13 (p := ?pz1) (rest := ?qz1) (B := ?Bz1) rfl ?Tz1 ?Fz1 ?az1 ?bz1 ?cz1 ?dz1 ?ez1
  case Tz1 =>
    intro hcz1 hkz1
    refine Lt.ofWL.step rfl rfl rfl (OpV.move rfl) ?_
    refine Lt.ofWL.step rfl rfl rfl (OpV.move rfl) ?_
    refine Lt.ofWL.step rfl rfl rfl (OpV.leq rfl rfl) ?_
    refine hkz1 _ ?_ ?_
    exact rfl
    repeat (first | exact Sub.refl _ | refine Sub.skip rfl ?_)
  case Fz1 =>
    intro hcz1 hkz1
    refine Lt.ofWL.skip rfl rfl rfl ?_
    refine Lt.ofWL.skip rfl rfl rfl ?_
    refine Lt.ofWL.skip rfl rfl rfl ?_
    refine hkz1 _ ?_
    repeat (first | exact Sub.refl _ | refine Sub.skip rfl ?_)
  case az1 => exact rfl
  case bz1 => exact rfl
  case cz1 => exact rfl
  case dz1 => exact rfl
  refine Lt.ofWL.step rfl rfl rfl (OpV.assign rfl) ?_
  refine WL.nil ?_
  refine En.next ?_
  refine WC.ret ?_
  refine En.ret1 rfl (Res.tmp rfl) ?_
  obtain rfl := Option.some.inj h
  intro w' hs
  exact ⟨rfl, hs.below⟩

theorem w_impl_isSide {n_p0 : Int} {r : Bool}  (h : impl_isSide n_p0 = some r) {w : World}   :
    Calls Try.prog 120 #[.int .i64 n_p0] w (fun en w' => en = .returned (.bool r) ∧ Ext w w') := by
  unfold impl_isSide at h
  refine enter (vs := [_]) Try.func120 rfl rfl rfl rfl ?_
  refine WC.seq ?_
  refine WC.region ?_
  refine Lt.ofWL.step rfl rfl rfl (OpV.assign rfl) ?_
  refine WL.nil ?_
  refine En.next ?_
  refine WC.seq ?_
  obtain ⟨x1_1, e1_1, h⟩ := bnd h
  refine WC.region ?_
  refine Lt.ofWL.step rfl rfl rfl (OpV.move rfl) ?_
  refine Lt.ofWL.step rfl rfl rfl (OpV.call (evs.cons rfl (evs.cons rfl (evs.cons rfl (evs.nil)))) ca_80 (fun w hs => w_impl_within e1_1)) ?_
  refine Lt.ofWL.step rfl rfl rfl (OpV.assign rfl) ?_
  refine WL.nil ?_
  refine En.next ?_
  refine WC.ret ?_
  refine En.ret1 rfl (Res.tmp rfl) ?_
  obtain rfl := Option.some.inj h
  intro w' hs
  exact ⟨rfl, hs.below⟩

theorem w_impl_ModeOk {m_p0 : ModeT} {r : Bool}  (h : impl_ModeOk m_p0 = some r) {w : World}   :
    Calls Try.prog 81 #[.agg #[.int .i64 m_p0.Clock, .int .i64 m_p0.W, .int .i64 m_p0.HFront, .int .i64 m_p0.HSync, .int .i64 m_p0.HBack, .int .i64 m_p0.H, .int .i64 m_p0.VFront, .int .i64 m_p0.VSync, .int .i64 m_p0.VBack]] w (fun en w' => en = .returned (.bool r) ∧ Ext w w') := by
  unfold impl_ModeOk at h
  refine enter (vs := [_]) Try.func81 rfl rfl rfl rfl ?_
  refine WC.seq ?_
  refine WC.region ?_
  refine WL.heavy rfl rfl rfl (OpH.box rfl rfl ?_)
  intro b0_0
  refine Lt.ofWL.step rfl rfl rfl (OpV.assign rfl) ?_
  refine WL.nil ?_
  refine En.next ?_
  refine WC.seq ?_
  obtain ⟨x1_2, e1_2, h⟩ := bnd h
  obtain ⟨q1_7, e1_7, h⟩ := bnd h
  obtain ⟨q1_12, e1_12, h⟩ := bnd h
  obtain ⟨q1_17, e1_17, h⟩ := bnd h
  obtain ⟨q1_22, e1_22, h⟩ := bnd h
  obtain ⟨q1_27, e1_27, h⟩ := bnd h
  obtain ⟨q1_32, e1_32, h⟩ := bnd h
  obtain ⟨q1_37, e1_37, h⟩ := bnd h
  obtain ⟨q1_42, e1_42, h⟩ := bnd h
  refine WC.region ?_
  refine Lt.ofWL.step rfl rfl rfl (OpV.fieldAddr rfl fo_30_0) ?_
  refine Lt.ofWL.step rfl rfl rfl (OpV.loadBox rfl pt_3 (.head _) rfl) ?_
  refine Lt.ofWL.step rfl rfl rfl (OpV.call (evs.cons rfl (evs.cons rfl (evs.cons rfl (evs.nil)))) ca_80 (fun w hs => w_impl_within e1_2)) ?_
  refine Lt.ofWL.step rfl rfl rfl (OpV.move rfl) ?_
  refine Lt.ofWL.andQ 6 10 9 (p := ?pz1) (rest := ?qz1) (B := q1_7) rfl (fun hz => andO_f e1_7 hz) ?Tz1 ?Fz1 ?az1 ?bz1 ?cz1 ?dz1 ?ez1
  case Tz1 =>
    intro hcz1 hkz1
    have hqz1 := andO_t e1_7 hcz1
    obtain ⟨x1_6, e1_6, hqz1⟩ := bnd hqz1
    obtain rfl := Option.some.inj hqz1
    refine Lt.ofWL.step rfl rfl rfl (OpV.fieldAddr rfl fo_30_1) ?_
    refine Lt.ofWL.step rfl rfl rfl (OpV.loadBox rfl pt_3 (.head _) rfl) ?_
    refine Lt.ofWL.step rfl rfl rfl (OpV.call (evs.cons rfl (evs.nil)) ca_120 (fun w hs => w_impl_isSide e1_6)) ?_
    refine hkz1 _ ?_ ?_
    exact rfl
    repeat (first | exact Sub.refl _ | refine Sub.skip rfl ?_)
  case Fz1 =>
    intro hcz1 hkz1
    refine Lt.ofWL.skip rfl rfl rfl ?_
    refine Lt.ofWL.skip rfl rfl rfl ?_
    refine Lt.ofWL.skip rfl rfl rfl ?_
    refine hkz1 _ ?_
    repeat (first | exact Sub.refl _ | refine Sub.skip rfl ?_)
  case az1 => exact rfl
  case bz1 => exact rfl
  case cz1 => exact rfl
  case dz1 => exact rfl
  refine Lt.ofWL.step rfl rfl rfl (OpV.move rfl) ?_
  refine Lt.ofWL.andQ 11 15 14 (p := ?pz2) (rest := ?qz2) (B := q1_12) rfl (fun hz => andO_f e1_12 hz) ?Tz2 ?Fz2 ?az2 ?bz2 ?cz2 ?dz2 ?ez2
  case Tz2 =>
    intro hcz2 hkz2
    have hqz2 := andO_t e1_12 hcz2
    obtain ⟨x1_11, e1_11, hqz2⟩ := bnd hqz2
    obtain rfl := Option.some.inj hqz2
    refine Lt.ofWL.step rfl rfl rfl (OpV.fieldAddr rfl fo_30_5) ?_
    refine Lt.ofWL.step rfl rfl rfl (OpV.loadBox rfl pt_3 (.head _) rfl) ?_
    refine Lt.ofWL.step rfl rfl rfl (OpV.call (evs.cons rfl (evs.nil)) ca_120 (fun w hs => w_impl_isSide e1_11)) ?_
    refine hkz2 _ ?_ ?_
    exact rfl
    repeat (first | exact Sub.refl _ | refine Sub.skip rfl ?_)
  case Fz2 =>
    intro hcz2 hkz2
    refine Lt.ofWL.skip rfl rfl rfl ?_
    refine Lt.ofWL.skip rfl rfl rfl ?_
    refine Lt.ofWL.skip rfl rfl rfl ?_
    refine hkz2 _ ?_
    repeat (first | exact Sub.refl _ | refine Sub.skip rfl ?_)
  case az2 => exact rfl
  case bz2 => exact rfl
  case cz2 => exact rfl
  case dz2 => exact rfl
  refine Lt.ofWL.step rfl rfl rfl (OpV.move rfl) ?_
  refine Lt.ofWL.andQ 16 20 19 (p := ?pz3) (rest := ?qz3) (B := q1_17) rfl (fun hz => andO_f e1_17 hz) ?Tz3 ?Fz3 ?az3 ?bz3 ?cz3 ?dz3 ?ez3
  case Tz3 =>
    intro hcz3 hkz3
    have hqz3 := andO_t e1_17 hcz3
    obtain ⟨x1_16, e1_16, hqz3⟩ := bnd hqz3
    obtain rfl := Option.some.inj hqz3
    refine Lt.ofWL.step rfl rfl rfl (OpV.fieldAddr rfl fo_30_3) ?_
    refine Lt.ofWL.step rfl rfl rfl (OpV.loadBox rfl pt_3 (.head _) rfl) ?_
    refine Lt.ofWL.step rfl rfl rfl (OpV.call (evs.cons rfl (evs.cons rfl (evs.cons rfl (evs.nil)))) ca_80 (fun w hs => w_impl_within e1_16)) ?_
    refine hkz3 _ ?_ ?_
    exact rfl
    repeat (first | exact Sub.refl _ | refine Sub.skip rfl ?_)
  case Fz3 =>
    intro hcz3 hkz3
    refine Lt.ofWL.skip rfl rfl rfl ?_
    refine Lt.ofWL.skip rfl rfl rfl ?_
    refine Lt.ofWL.skip rfl rfl rfl ?_
    refine hkz3 _ ?_
    repeat (first | exact Sub.refl _ | refine Sub.skip rfl ?_)
  case az3 => exact rfl
  case bz3 => exact rfl
  case cz3 => exact rfl
  case dz3 => exact rfl
  refine Lt.ofWL.step rfl rfl rfl (OpV.move rfl) ?_
  refine Lt.ofWL.andQ 21 25 24 (p := ?pz4) (rest := ?qz4) (B := q1_22) rfl (fun hz => andO_f e1_22 hz) ?Tz4 ?Fz4 ?az4 ?bz4 ?cz4 ?dz4 ?ez4
  case Tz4 =>
    intro hcz4 hkz4
    have hqz4 := andO_t e1_22 hcz4
    obtain ⟨x1_21, e1_21, hqz4⟩ := bnd hqz4
    obtain rfl := Option.some.inj hqz4
    refine Lt.ofWL.step rfl rfl rfl (OpV.fieldAddr rfl fo_30_7) ?_
    refine Lt.ofWL.step rfl rfl rfl (OpV.loadBox rfl pt_3 (.head _) rfl) ?_
    refine Lt.ofWL.step rfl rfl rfl (OpV.call (evs.cons rfl (evs.cons rfl (evs.cons rfl (evs.nil)))) ca_80 (fun w hs => w_impl_within e1_21)) ?_
    refine hkz4 _ ?_ ?_
    exact rfl
    repeat (first | exact Sub.refl _ | refine Sub.skip rfl ?_)
  case Fz4 =>
    intro hcz4 hkz4
    refine Lt.ofWL.skip rfl rfl rfl ?_
    refine Lt.ofWL.skip rfl rfl rfl ?_
    refine Lt.ofWL.skip rfl rfl rfl ?_
    refine hkz4 _ ?_
    repeat (first | exact Sub.refl _ | refine Sub.skip rfl ?_)
  case az4 => exact rfl
  case bz4 => exact rfl
  case cz4 => exact rfl
  case dz4 => exact rfl
  refine Lt.ofWL.step rfl rfl rfl (OpV.move rfl) ?_
  refine Lt.ofWL.andQ 26 30 29 (p := ?pz5) (rest := ?qz5) (B := q1_27) rfl (fun hz => andO_f e1_27 hz) ?Tz5 ?Fz5 ?az5 ?bz5 ?cz5 ?dz5 ?ez5
  case Tz5 =>
    intro hcz5 hkz5
    have hqz5 := andO_t e1_27 hcz5
    obtain ⟨x1_26, e1_26, hqz5⟩ := bnd hqz5
    obtain rfl := Option.some.inj hqz5
    refine Lt.ofWL.step rfl rfl rfl (OpV.fieldAddr rfl fo_30_2) ?_
    refine Lt.ofWL.step rfl rfl rfl (OpV.loadBox rfl pt_3 (.head _) rfl) ?_
    refine Lt.ofWL.step rfl rfl rfl (OpV.call (evs.cons rfl (evs.cons rfl (evs.cons rfl (evs.nil)))) ca_80 (fun w hs => w_impl_within e1_26)) ?_
    refine hkz5 _ ?_ ?_
    exact rfl
    repeat (first | exact Sub.refl _ | refine Sub.skip rfl ?_)
  case Fz5 =>
    intro hcz5 hkz5
    refine Lt.ofWL.skip rfl rfl rfl ?_
    refine Lt.ofWL.skip rfl rfl rfl ?_
    refine Lt.ofWL.skip rfl rfl rfl ?_
    refine hkz5 _ ?_
    repeat (first | exact Sub.refl _ | refine Sub.skip rfl ?_)
  case az5 => exact rfl
  case bz5 => exact rfl
  case cz5 => exact rfl
  case dz5 => exact rfl
  refine Lt.ofWL.step rfl rfl rfl (OpV.move rfl) ?_
  refine Lt.ofWL.andQ 31 35 34 (p := ?pz6) (rest := ?qz6) (B := q1_32) rfl (fun hz => andO_f e1_32 hz) ?Tz6 ?Fz6 ?az6 ?bz6 ?cz6 ?dz6 ?ez6
  case Tz6 =>
    intro hcz6 hkz6
    have hqz6 := andO_t e1_32 hcz6
    obtain ⟨x1_31, e1_31, hqz6⟩ := bnd hqz6
    obtain rfl := Option.some.inj hqz6
    refine Lt.ofWL.step rfl rfl rfl (OpV.fieldAddr rfl fo_30_4) ?_
    refine Lt.ofWL.step rfl rfl rfl (OpV.loadBox rfl pt_3 (.head _) rfl) ?_
    refine Lt.ofWL.step rfl rfl rfl (OpV.call (evs.cons rfl (evs.cons rfl (evs.cons rfl (evs.nil)))) ca_80 (fun w hs => w_impl_within e1_31)) ?_
    refine hkz6 _ ?_ ?_
    exact rfl
    repeat (first | exact Sub.refl _ | refine Sub.skip rfl ?_)
  case Fz6 =>
    intro hcz6 hkz6
    refine Lt.ofWL.skip rfl rfl rfl ?_
    refine Lt.ofWL.skip rfl rfl rfl ?_
    refine Lt.ofWL.skip rfl rfl rfl ?_
    refine hkz6 _ ?_
    repeat (first | exact Sub.refl _ | refine Sub.skip rfl ?_)
  case az6 => exact rfl
  case bz6 => exact rfl
  case cz6 => exact rfl
  case dz6 => exact rfl
  refine Lt.ofWL.step rfl rfl rfl (OpV.move rfl) ?_
  refine Lt.ofWL.andQ 36 40 39 (p := ?pz7) (rest := ?qz7) (B := q1_37) rfl (fun hz => andO_f e1_37 hz) ?Tz7 ?Fz7 ?az7 ?bz7 ?cz7 ?dz7 ?ez7
  case Tz7 =>
    intro hcz7 hkz7
    have hqz7 := andO_t e1_37 hcz7
    obtain ⟨x1_36, e1_36, hqz7⟩ := bnd hqz7
    obtain rfl := Option.some.inj hqz7
    refine Lt.ofWL.step rfl rfl rfl (OpV.fieldAddr rfl fo_30_6) ?_
    refine Lt.ofWL.step rfl rfl rfl (OpV.loadBox rfl pt_3 (.head _) rfl) ?_
    refine Lt.ofWL.step rfl rfl rfl (OpV.call (evs.cons rfl (evs.cons rfl (evs.cons rfl (evs.nil)))) ca_80 (fun w hs => w_impl_within e1_36)) ?_
    refine hkz7 _ ?_ ?_
    exact rfl
    repeat (first | exact Sub.refl _ | refine Sub.skip rfl ?_)
  case Fz7 =>
    intro hcz7 hkz7
    refine Lt.ofWL.skip rfl rfl rfl ?_
    refine Lt.ofWL.skip rfl rfl rfl ?_
    refine Lt.ofWL.skip rfl rfl rfl ?_
    refine hkz7 _ ?_
    repeat (first | exact Sub.refl _ | refine Sub.skip rfl ?_)
  case az7 => exact rfl
  case bz7 => exact rfl
  case cz7 => exact rfl
  case dz7 => exact rfl
  refine Lt.ofWL.step rfl rfl rfl (OpV.move rfl) ?_
  refine Lt.ofWL.andQ 41 45 44 (p := ?pz8) (rest := ?qz8) (B := q1_42) rfl (fun hz => andO_f e1_42 hz) ?Tz8 ?Fz8 ?az8 ?bz8 ?cz8 ?dz8 ?ez8
  case Tz8 =>
    intro hcz8 hkz8
    have hqz8 := andO_t e1_42 hcz8
    obtain ⟨x1_41, e1_41, hqz8⟩ := bnd hqz8
    obtain rfl := Option.some.inj hqz8
    refine Lt.ofWL.step rfl rfl rfl (OpV.fieldAddr rfl fo_30_8) ?_
    refine Lt.ofWL.step rfl rfl rfl (OpV.loadBox rfl pt_3 (.head _) rfl) ?_
    refine Lt.ofWL.step rfl rfl rfl (OpV.call (evs.cons rfl (evs.cons rfl (evs.cons rfl (evs.nil)))) ca_80 (fun w hs => w_impl_within e1_41)) ?_
    refine hkz8 _ ?_ ?_
    exact rfl
    repeat (first | exact Sub.refl _ | refine Sub.skip rfl ?_)
  case Fz8 =>
    intro hcz8 hkz8
    refine Lt.ofWL.skip rfl rfl rfl ?_
    refine Lt.ofWL.skip rfl rfl rfl ?_
    refine Lt.ofWL.skip rfl rfl rfl ?_
    refine hkz8 _ ?_
    repeat (first | exact Sub.refl _ | refine Sub.skip rfl ?_)
  case az8 => exact rfl
  case bz8 => exact rfl
  case cz8 => exact rfl
  case dz8 => exact rfl
  refine Lt.ofWL.step rfl rfl rfl (OpV.assign rfl) ?_
  refine WL.nil ?_
  refine En.next ?_
  refine WC.ret ?_
  refine En.ret1 rfl (Res.tmp rfl) ?_
  obtain rfl := Option.some.inj h
  intro w' hs
  exact ⟨rfl, hs.below⟩

theorem w_impl_MonitorOk {m_p0 : MonitorT} {r : Bool} {q0_0 : Option Addr} {n0_0 k0_0 : Nat} (h : impl_MonitorOk m_p0 = some r) {w : World} (r0_0 : Rd tMode w q0_0 n0_0 k0_0 m_p0.Modes)  :
    Calls Try.prog 22 #[.agg #[.string m_p0.Name, .slice q0_0 n0_0 k0_0, .int .i64 m_p0.Stretch]] w (fun en w' => en = .returned (.bool r) ∧ Ext w w') := by
  obtain rfl := r0_0.1
  unfold impl_MonitorOk at h
  refine enter (vs := [_]) Try.func22 rfl rfl rfl rfl ?_
  refine WC.seq ?_
  refine WC.region ?_
  refine WL.heavy rfl rfl rfl (OpH.box rfl rfl ?_)
  intro b0_0
  refine Lt.ofWL.step rfl rfl rfl (OpV.assign rfl) ?_
  refine WL.nil ?_
  refine En.next ?_
  refine WC.seq ?_
  refine WC.seq ?_
  obtain ⟨x1_3, e1_3, h⟩ := bnd h
  obtain ⟨q1_11, e1_11, h⟩ := bnd h
  obtain ⟨q1_17, e1_17, h⟩ := bnd h
  refine WC.region ?_
  refine Lt.ofWL.step rfl rfl rfl (OpV.fieldAddr rfl fo_26_0) ?_
  refine Lt.ofWL.step rfl rfl rfl (OpV.loadBox rfl pt_9 (.head _) rfl) ?_
  refine Lt.ofWL.step rfl rfl rfl (OpV.lenS rfl us_9 rfl) ?_
  refine Lt.ofWL.step rfl rfl rfl (OpV.call (evs.cons rfl (evs.cons rfl (evs.cons rfl (evs.nil)))) ca_80 (fun w hs => w_impl_within e1_3)) ?_
  refine Lt.ofWL.step rfl rfl rfl (OpV.not rfl) ?_
  refine Lt.ofWL.step rfl rfl rfl (OpV.move rfl) ?_
  refine Lt.ofWL.orQ 11 17 16 (p := ?pz1) (rest := ?qz1) (B := q1_11) rfl (fun hz => orO_t e1_11 hz) ?Tz1 ?Fz1 ?az1 ?bz1 ?cz1 ?dz1 ?ez1
  case Tz1 =>
    intro hcz1 hkz1
    refine Lt.ofWL.skip rfl rfl rfl ?_
    refine Lt.ofWL.skip rfl rfl rfl ?_
    refine Lt.ofWL.skip rfl rfl rfl ?_
    refine Lt.ofWL.skip rfl rfl rfl ?_
    refine Lt.ofWL.skip rfl rfl rfl ?_
    refine hkz1 _ ?_
    repeat (first | exact Sub.refl _ | refine Sub.skip rfl ?_)
  case Fz1 =>
    intro hcz1 hkz1
    have hqz1 := orO_f e1_11 hcz1
    obtain ⟨x1_9, e1_9, hqz1⟩ := bnd hqz1
    obtain rfl := Option.some.inj hqz1
    refine Lt.ofWL.step rfl rfl rfl (OpV.fieldAddr rfl fo_26_1) ?_
    refine Lt.ofWL.step rfl rfl rfl (OpV.loadBox rfl pt_24 (.head _) rfl) ?_
    refine Lt.ofWL.step rfl rfl rfl (OpV.len rfl si_24 rfl) ?_
    refine Lt.ofWL.step rfl rfl rfl (OpV.call (evs.cons rfl (evs.cons rfl (evs.cons rfl (evs.nil)))) ca_80 (fun w hs => w_impl_within e1_9)) ?_
    refine Lt.ofWL.step rfl rfl rfl (OpV.not rfl) ?_
    refine hkz1 _ ?_ ?_
    exact rfl
    repeat (first | exact Sub.refl _ | refine Sub.skip rfl ?_)
  case az1 => exact rfl
  case bz1 => exact rfl
  case cz1 => exact rfl
  case dz1 => exact rfl
  refine Lt.ofWL.step rfl rfl rfl (OpV.move rfl) ?_
  refine Lt.ofWL.orQ 18 23 22 (p := ?pz2) (rest := ?qz2) (B := q1_17) rfl (fun hz => orO_t e1_17 hz) ?Tz2 ?Fz2 ?az2 ?bz2 ?cz2 ?dz2 ?ez2
  case Tz2 =>
    intro hcz2 hkz2
    refine Lt.ofWL.skip rfl rfl rfl ?_
    refine Lt.ofWL.skip rfl rfl rfl ?_
    refine Lt.ofWL.skip rfl rfl rfl ?_
    refine Lt.ofWL.skip rfl rfl rfl ?_
    refine hkz2 _ ?_
    repeat (first | exact Sub.refl _ | refine Sub.skip rfl ?_)
  case Fz2 =>
    intro hcz2 hkz2
    have hqz2 := orO_f e1_17 hcz2
    obtain ⟨x1_15, e1_15, hqz2⟩ := bnd hqz2
    obtain rfl := Option.some.inj hqz2
    refine Lt.ofWL.step rfl rfl rfl (OpV.fieldAddr rfl fo_26_2) ?_
    refine Lt.ofWL.step rfl rfl rfl (OpV.loadBox rfl pt_3 (.head _) rfl) ?_
    refine Lt.ofWL.step rfl rfl rfl (OpV.call (evs.cons rfl (evs.cons rfl (evs.cons rfl (evs.nil)))) ca_80 (fun w hs => w_impl_within e1_15)) ?_
    refine Lt.ofWL.step rfl rfl rfl (OpV.not rfl) ?_
    refine hkz2 _ ?_ ?_
    exact rfl
    repeat (first | exact Sub.refl _ | refine Sub.skip rfl ?_)
  case az2 => exact rfl
  case bz2 => exact rfl
  case cz2 => exact rfl
  case dz2 => exact rfl
  refine WL.nil ?_
  refine En.next ?_
  refine WC.cond rfl ?_ ?_
  ·
    intro hc_1
    replace h := ifO_t hc_1 h
    refine WC.seq ?_
    refine WC.region ?_
    refine Lt.ofWL.step rfl rfl rfl (OpV.assign rfl) ?_
    refine WL.nil ?_
    refine En.next ?_
    refine WC.ret ?_
    refine En.then_ret ?_
    refine En.ret1 rfl (Res.tmp rfl) ?_
    obtain rfl := Option.some.inj h
    intro w' hs
    exact ⟨rfl, hs.below⟩
  ·
    intro hc_1
    replace h := ifO_f hc_1 h
    refine WC.skip ?_
    refine En.next ?_
    refine WC.seq ?_
    refine WC.seq ?_
    refine WC.region ?_
    refine Lt.ofWL.step rfl rfl rfl (OpV.fieldAddr rfl fo_26_0) ?_
    refine Lt.ofWL.step rfl rfl rfl (OpV.loadBox rfl pt_9 (.head _) rfl) ?_
    refine Lt.ofWL.step rfl rfl rfl (OpV.lenS rfl us_9 rfl) ?_
    refine Lt.ofWL.step rfl rfl rfl (OpV.move rfl) ?_
    refine WL.nil ?_
    refine En.next ?_
    refine WC.block ?_
    obtain ⟨zy0, ezy0, h⟩ := bnd h
    refine WC.cut (X := (Unit) × (Unit)) (.exit 0) (fun x => zy0 = .inl x.1) (fun x => match x with | ((), ()) => [(1, .pointer (some ⟨b0_0, 0, .none⟩))]) (fun x => match x with | ((), ()) => [Chunk.box b0_0 26 [.string m_p0.Name, .slice q0_0 m_p0.Modes.length k0_0, .int .i64 m_p0.Stretch]]) ?_ ?_
    ·
      rintro ⟨⟨⟩, ⟨⟩⟩ hx
      replace hx : .inl () = zy0 := hx.symm
      subst hx
      replace h := fork_l h
      show En _ _ _ _ [(1, .pointer (some ⟨b0_0, 0, .none⟩))] [Chunk.box b0_0 26 [.string m_p0.Name, .slice q0_0 m_p0.Modes.length k0_0, .int .i64 m_p0.Stretch]]
      refine En.block_exit ?_
      refine En.next ?_
      refine WC.seq ?_
      refine WC.seq ?_
      refine WC.region ?_
      refine Lt.ofWL.step rfl rfl rfl (OpV.fieldAddr rfl fo_26_1) ?_
      refine Lt.ofWL.step rfl rfl rfl (OpV.loadBox rfl pt_24 (.head _) rfl) ?_
      refine Lt.ofWL.step rfl rfl rfl (OpV.len rfl si_24 rfl) ?_
      refine Lt.ofWL.step rfl rfl rfl (OpV.move rfl) ?_
      refine WL.nil ?_
      refine En.next ?_
      refine WC.block ?_
      obtain ⟨zy1, ezy1, h⟩ := bnd h
      refine WC.cut (X := (Unit) × (Unit)) (.exit 2) (fun x => zy1 = .inl x.1) (fun x => match x with | ((), ()) => []) (fun x => match x with | ((), ()) => []) ?_ ?_
      ·
        rintro ⟨⟨⟩, ⟨⟩⟩ hx
        replace hx : .inl () = zy1 := hx.symm
        subst hx
        replace h := fork_l h
        show En _ _ _ _ [] []
        refine En.block_exit ?_
        refine En.next ?_
        refine WC.seq ?_
        refine WC.region ?_
        refine Lt.ofWL.step rfl rfl rfl (OpV.assign rfl) ?_
        refine WL.nil ?_
        refine En.next ?_
        refine WC.ret ?_
        refine En.ret1 rfl (Res.tmp rfl) ?_
        obtain rfl := Option.some.inj h
        intro w' hs
        exact ⟨rfl, hs.below⟩
      ·
        intro zK1_0
        refine WC.loopP (G := Unit) (fun s g => match s, g with | v_1, () => [(39, .slice q0_0 m_p0.Modes.length k0_0), (40, .int .i64 (m_p0.Modes.length : Int)), (41, .int .i64 v_1)]) (fun s g => match s, g with | v_1, () => []) 0 () ezy1 (by exact Sub.cons rfl (Sub.cons rfl (Sub.cons rfl (Sub.nil _)))) (by exact (fun _ h => (h).sub (.cons _ (.slnil)))) ?_
        rintro zm1 v_1 ⟨⟩ zo1 zf1 zb1 ze1
        have zh1 : impl_MonitorOk_L1 m_p0 v_1 = some zo1 := zf1
        unfold impl_MonitorOk_L1 at zh1
        show WC _ _ _ _ _ [(39, .slice q0_0 m_p0.Modes.length k0_0), (40, .int .i64 (m_p0.Modes.length : Int)), (41, .int .i64 v_1)] []
        refine WC.seq ?_
        refine WC.region ?_
        refine Lt.ofWL.step rfl rfl rfl (OpV.lss rfl rfl) ?_
        refine WL.nil ?_
        refine En.next ?_
        refine WC.seq ?_
        refine WC.cond rfl ?_ ?_
        ·
          intro hc_2
          replace zh1 := ifO_t hc_2 zh1
          refine WC.skip ?_
          refine En.next ?_
          refine WC.seq ?_
          refine WC.block ?_
          refine WC.seq ?_
          obtain ⟨x11_0, e11_0, zh1⟩ := bnd zh1
          obtain ⟨g11_0, o11_0, _, ha11_0, rfl, hd11_0⟩ := Rd.atIdx r0_0 e11_0
          replace hd11_0 : ∀ (j : Nat) v, ([.int .i64 x11_0.Clock, .int .i64 x11_0.W, .int .i64 x11_0.HFront, .int .i64 x11_0.HSync, .int .i64 x11_0.HBack, .int .i64 x11_0.H, .int .i64 x11_0.VFront, .int .i64 x11_0.VSync, .int .i64 x11_0.VBack] : List Value)[j]? = some v → w.cell? ⟨g11_0, o11_0 + v_1.toNat * 9 + j, .none⟩ = some v := hd11_0
          refine WC.region ?_
          refine Lt.ofWL.step rfl rfl rfl (OpV.idxA rfl rfl se_24 ha11_0 ⟨(idx_some e11_0).1, (idx_some e11_0).2.1⟩) ?_
          refine Lt.ofWL.step rfl rfl rfl (OpV.loadN rfl ag_30 rfl (fun w hs => hs.cellsAt hd11_0)) ?_
          refine WL.heavy rfl rfl rfl (OpH.alloc zc_30 ?_)
          intro b11_2
          refine WL.heavy0 rfl rfl (OpH.storeTo (A := []) [_, _, _, _, _, _, _, _, _] rfl rfl rfl ts_30 rfl rfl rfl ?_)
          refine WL.nil ?_
          refine En.next ?_
          refine WC.seq ?_
          obtain ⟨x12_1, e12_1, zh1⟩ := bnd zh1
          refine WC.region ?_
          refine Lt.ofWL.step rfl rfl rfl (OpV.loadAll rfl (.head _) ag_30) ?_
          refine Lt.ofWL.step rfl rfl rfl (OpV.call (evs.cons rfl (evs.nil)) ca_81 (fun w hs => w_impl_ModeOk e12_1)) ?_
          refine Lt.ofWL.step rfl rfl rfl (OpV.not rfl) ?_
          refine WL.nil ?_
          refine En.next ?_
          refine WC.cond rfl ?_ ?_
          ·
            intro hc_3
            replace zh1 := ifO_t hc_3 zh1
            refine WC.seq ?_
            refine WC.region ?_
            refine Lt.ofWL.step rfl rfl rfl (OpV.assign rfl) ?_
            refine WL.nil ?_
            refine En.next ?_
            refine WC.ret ?_
            refine En.block_ret ?_
            refine En.then_ret ?_
            refine En.then_ret ?_
            refine En.block_ret ?_
            refine En.then_ret ?_
            refine En.ret1 rfl (Res.tmp rfl) ?_
            have hx := exitP ze1 zh1
            subst hx
            replace h := fork_r h
            obtain rfl := Option.some.inj h
            intro w' hs
            exact ⟨rfl, hs.below⟩
          ·
            intro hc_3
            replace zh1 := ifO_f hc_3 zh1
            refine WC.skip ?_
            refine En.block_norm ?_
            refine En.next ?_
            refine WC.region ?_
            refine Lt.ofWL.step rfl rfl rfl (OpV.addR rfl rfl) ?_
            refine Lt.ofWL.step rfl rfl rfl (OpV.move rfl) ?_
            refine WL.nil ?_
            exact En.backP zb1 zh1 () (Sub.cons rfl (Sub.cons rfl (Sub.cons rfl (Sub.nil _)))) (fun _ h => (h).sub (.cons _ (.slnil)))
        ·
          intro hc_2
          replace zh1 := ifO_f hc_2 zh1
          refine WC.exit ?_
          refine En.then_exit ?_
          refine En.then_exit ?_
          have hx := exitP ze1 zh1
          exact En.wk _ _ (Sub.nil _) (fun _ h => h) (zK1_0 ((), ()) hx.symm)
    ·
      intro zK0_0
      refine WC.loopP (G := Unit) (fun s g => match s, g with | v_0, () => [(1, .pointer (some ⟨b0_0, 0, .none⟩)), (26, .int .i64 (m_p0.Name.size : Int)), (27, .int .i64 v_0)]) (fun s g => match s, g with | v_0, () => [Chunk.box b0_0 26 [.string m_p0.Name, .slice q0_0 m_p0.Modes.length k0_0, .int .i64 m_p0.Stretch]]) 0 () ezy0 (by exact Sub.cons rfl (Sub.cons rfl (Sub.cons rfl (Sub.nil _)))) (by exact (fun _ h => h)) ?_
      rintro zm0 v_0 ⟨⟩ zo0 zf0 zb0 ze0
      have zh0 : impl_MonitorOk_L0 m_p0 v_0 = some zo0 := zf0
      unfold impl_MonitorOk_L0 at zh0
      show WC _ _ _ _ _ [(1, .pointer (some ⟨b0_0, 0, .none⟩)), (26, .int .i64 (m_p0.Name.size : Int)), (27, .int .i64 v_0)] [Chunk.box b0_0 26 [.string m_p0.Name, .slice q0_0 m_p0.Modes.length k0_0, .int .i64 m_p0.Stretch]]
      refine WC.seq ?_
      refine WC.region ?_
      refine Lt.ofWL.step rfl rfl rfl (OpV.lss rfl rfl) ?_
      refine WL.nil ?_
      refine En.next ?_
      refine WC.seq ?_
      refine WC.cond rfl ?_ ?_
      ·
        intro hc_4
        replace zh0 := ifO_t hc_4 zh0
        refine WC.skip ?_
        refine En.next ?_
        refine WC.seq ?_
        refine WC.block ?_
        refine WC.seq ?_
        refine WC.region ?_
        refine Lt.ofWL.step rfl rfl rfl (OpV.move rfl) ?_
        refine Lt.ofWL.step rfl rfl rfl (OpV.assign rfl) ?_
        refine WL.nil ?_
        refine En.next ?_
        refine WC.seq ?_
        obtain ⟨x6_3, e6_3, zh0⟩ := bnd zh0
        obtain ⟨x6_5, e6_5, zh0⟩ := bnd zh0
        refine WC.region ?_
        refine Lt.ofWL.step rfl rfl rfl (OpV.fieldAddr rfl fo_26_0) ?_
        refine Lt.ofWL.step rfl rfl rfl (OpV.loadBox rfl pt_9 (.head _) rfl) ?_
        refine Lt.ofWL.step rfl rfl rfl (OpV.move rfl) ?_
        refine Lt.ofWL.step rfl rfl rfl (OpV.sidxR rfl rfl us_9 e6_3) ?_
        refine Lt.ofWL.step rfl rfl rfl (OpV.convR rfl uS_5 ui_3_i64) ?_
        refine Lt.ofWL.step rfl rfl rfl (OpV.call (evs.cons rfl (evs.cons rfl (evs.cons rfl (evs.nil)))) ca_80 (fun w hs => w_impl_within e6_5)) ?_
        refine Lt.ofWL.step rfl rfl rfl (OpV.not rfl) ?_
        refine WL.nil ?_
        refine En.next ?_
        refine WC.cond rfl ?_ ?_
        ·
          intro hc_5
          replace zh0 := ifO_t hc_5 zh0
          refine WC.seq ?_
          refine WC.region ?_
          refine Lt.ofWL.step rfl rfl rfl (OpV.assign rfl) ?_
          refine WL.nil ?_
          refine En.next ?_
          refine WC.ret ?_
          refine En.block_ret ?_
          refine En.then_ret ?_
          refine En.then_ret ?_
          refine En.block_ret ?_
          refine En.then_ret ?_
          refine En.ret1 rfl (Res.tmp rfl) ?_
          have hx := exitP ze0 zh0
          subst hx
          replace h := fork_r h
          obtain rfl := Option.some.inj h
          intro w' hs
          exact ⟨rfl, hs.below⟩
        ·
          intro hc_5
          replace zh0 := ifO_f hc_5 zh0
          refine WC.skip ?_
          refine En.block_norm ?_
          refine En.next ?_
          refine WC.region ?_
          refine Lt.ofWL.step rfl rfl rfl (OpV.addR rfl rfl) ?_
          refine Lt.ofWL.step rfl rfl rfl (OpV.move rfl) ?_
          refine WL.nil ?_
          exact En.backP zb0 zh0 () (Sub.cons rfl (Sub.cons rfl (Sub.cons rfl (Sub.nil _)))) (fun _ h => h)
      ·
        intro hc_4
        replace zh0 := ifO_f hc_4 zh0
        refine WC.exit ?_
        refine En.then_exit ?_
        refine En.then_exit ?_
        have hx := exitP ze0 zh0
        exact En.wk _ _ (Sub.cons rfl (Sub.nil _)) (fun _ h => h) (zK0_0 ((), ()) hx.symm)

theorem w_laws_eqMode {a_p0 : ModeT} {b_p1 : ModeT} {r : Bool}  (h : laws_eqMode a_p0 b_p1 = some r) {w : World}   :
    Calls Try.prog 33 #[.agg #[.int .i64 a_p0.Clock, .int .i64 a_p0.W, .int .i64 a_p0.HFront, .int .i64 a_p0.HSync, .int .i64 a_p0.HBack, .int .i64 a_p0.H, .int .i64 a_p0.VFront, .int .i64 a_p0.VSync, .int .i64 a_p0.VBack], .agg #[.int .i64 b_p1.Clock, .int .i64 b_p1.W, .int .i64 b_p1.HFront, .int .i64 b_p1.HSync, .int .i64 b_p1.HBack, .int .i64 b_p1.H, .int .i64 b_p1.VFront, .int .i64 b_p1.VSync, .int .i64 b_p1.VBack]] w (fun en w' => en = .returned (.bool r) ∧ Ext w w') := by
  unfold laws_eqMode at h
  refine enter (vs := [_, _]) Try.func33 rfl rfl rfl rfl ?_
  refine WC.seq ?_
  refine WC.region ?_
  refine WL.heavy rfl rfl rfl (OpH.box rfl rfl ?_)
  intro b0_0
  refine WL.heavy rfl rfl rfl (OpH.box rfl rfl ?_)
  intro b0_1
  refine Lt.ofWL.step rfl rfl rfl (OpV.assign rfl) ?_
  refine WL.nil ?_
  refine En.next ?_
  refine WC.seq ?_
  refine WC.seq ?_
  refine WC.region ?_
  refine Lt.ofWL.step rfl rfl rfl (OpV.fieldAddr rfl fo_30_0) ?_
  refine Lt.ofWL.step rfl rfl rfl (OpV.loadBox rfl pt_3 (.tail _ (.head _)) rfl) ?_
  refine Lt.ofWL.step rfl rfl rfl (OpV.fieldAddr rfl fo_30_0) ?_
  refine Lt.ofWL.step rfl rfl rfl (OpV.loadBox rfl pt_3 (.head _) rfl) ?_
  refine Lt.ofWL.step rfl rfl rfl (OpV.neq rfl rfl) ?_
  refine WL.nil ?_
  refine En.next ?_
  refine WC.cond rfl ?_ ?_
  ·
    intro hc_1
    replace h := ifO_t hc_1 h
    refine WC.seq ?_
    refine WC.region ?_
    refine Lt.ofWL.step rfl rfl rfl (OpV.assign rfl) ?_
    refine WL.nil ?_
    refine En.next ?_
    refine WC.ret ?_
    refine En.then_ret ?_
    refine En.ret1 rfl (Res.tmp rfl) ?_
    obtain rfl := Option.some.inj h
    intro w' hs
    exact ⟨rfl, hs.below⟩
  ·
    intro hc_1
    replace h := ifO_f hc_1 h
    refine WC.skip ?_
    refine En.next ?_
    refine WC.seq ?_
    refine WC.seq ?_
    refine WC.region ?_
    refine Lt.ofWL.step rfl rfl rfl (OpV.fieldAddr rfl fo_30_1) ?_
    refine Lt.ofWL.step rfl rfl rfl (OpV.loadBox rfl pt_3 (.tail _ (.head _)) rfl) ?_
    refine Lt.ofWL.step rfl rfl rfl (OpV.fieldAddr rfl fo_30_1) ?_
    refine Lt.ofWL.step rfl rfl rfl (OpV.loadBox rfl pt_3 (.head _) rfl) ?_
    refine Lt.ofWL.step rfl rfl rfl (OpV.neq rfl rfl) ?_
    refine WL.nil ?_
    refine En.next ?_
    refine WC.cond rfl ?_ ?_
    ·
      intro hc_2
      replace h := ifO_t hc_2 h
      refine WC.seq ?_
      refine WC.region ?_
      refine Lt.ofWL.step rfl rfl rfl (OpV.assign rfl) ?_
      refine WL.nil ?_
      refine En.next ?_
      refine WC.ret ?_
      refine En.then_ret ?_
      refine En.ret1 rfl (Res.tmp rfl) ?_
      obtain rfl := Option.some.inj h
      intro w' hs
      exact ⟨rfl, hs.below⟩
    ·
      intro hc_2
      replace h := ifO_f hc_2 h
      refine WC.skip ?_
      refine En.next ?_
      refine WC.seq ?_
      refine WC.seq ?_
      refine WC.region ?_
      refine Lt.ofWL.step rfl rfl rfl (OpV.fieldAddr rfl fo_30_2) ?_
      refine Lt.ofWL.step rfl rfl rfl (OpV.loadBox rfl pt_3 (.tail _ (.head _)) rfl) ?_
      refine Lt.ofWL.step rfl rfl rfl (OpV.fieldAddr rfl fo_30_2) ?_
      refine Lt.ofWL.step rfl rfl rfl (OpV.loadBox rfl pt_3 (.head _) rfl) ?_
      refine Lt.ofWL.step rfl rfl rfl (OpV.neq rfl rfl) ?_
      refine WL.nil ?_
      refine En.next ?_
      refine WC.cond rfl ?_ ?_
      ·
        intro hc_3
        replace h := ifO_t hc_3 h
        refine WC.seq ?_
        refine WC.region ?_
        refine Lt.ofWL.step rfl rfl rfl (OpV.assign rfl) ?_
        refine WL.nil ?_
        refine En.next ?_
        refine WC.ret ?_
        refine En.then_ret ?_
        refine En.ret1 rfl (Res.tmp rfl) ?_
        obtain rfl := Option.some.inj h
        intro w' hs
        exact ⟨rfl, hs.below⟩
      ·
        intro hc_3
        replace h := ifO_f hc_3 h
        refine WC.skip ?_
        refine En.next ?_
        refine WC.seq ?_
        refine WC.seq ?_
        refine WC.region ?_
        refine Lt.ofWL.step rfl rfl rfl (OpV.fieldAddr rfl fo_30_3) ?_
        refine Lt.ofWL.step rfl rfl rfl (OpV.loadBox rfl pt_3 (.tail _ (.head _)) rfl) ?_
        refine Lt.ofWL.step rfl rfl rfl (OpV.fieldAddr rfl fo_30_3) ?_
        refine Lt.ofWL.step rfl rfl rfl (OpV.loadBox rfl pt_3 (.head _) rfl) ?_
        refine Lt.ofWL.step rfl rfl rfl (OpV.neq rfl rfl) ?_
        refine WL.nil ?_
        refine En.next ?_
        refine WC.cond rfl ?_ ?_
        ·
          intro hc_4
          replace h := ifO_t hc_4 h
          refine WC.seq ?_
          refine WC.region ?_
          refine Lt.ofWL.step rfl rfl rfl (OpV.assign rfl) ?_
          refine WL.nil ?_
          refine En.next ?_
          refine WC.ret ?_
          refine En.then_ret ?_
          refine En.ret1 rfl (Res.tmp rfl) ?_
          obtain rfl := Option.some.inj h
          intro w' hs
          exact ⟨rfl, hs.below⟩
        ·
          intro hc_4
          replace h := ifO_f hc_4 h
          refine WC.skip ?_
          refine En.next ?_
          refine WC.seq ?_
          refine WC.seq ?_
          refine WC.region ?_
          refine Lt.ofWL.step rfl rfl rfl (OpV.fieldAddr rfl fo_30_4) ?_
          refine Lt.ofWL.step rfl rfl rfl (OpV.loadBox rfl pt_3 (.tail _ (.head _)) rfl) ?_
          refine Lt.ofWL.step rfl rfl rfl (OpV.fieldAddr rfl fo_30_4) ?_
          refine Lt.ofWL.step rfl rfl rfl (OpV.loadBox rfl pt_3 (.head _) rfl) ?_
          refine Lt.ofWL.step rfl rfl rfl (OpV.neq rfl rfl) ?_
          refine WL.nil ?_
          refine En.next ?_
          refine WC.cond rfl ?_ ?_
          ·
            intro hc_5
            replace h := ifO_t hc_5 h
            refine WC.seq ?_
            refine WC.region ?_
            refine Lt.ofWL.step rfl rfl rfl (OpV.assign rfl) ?_
            refine WL.nil ?_
            refine En.next ?_
            refine WC.ret ?_
            refine En.then_ret ?_
            refine En.ret1 rfl (Res.tmp rfl) ?_
            obtain rfl := Option.some.inj h
            intro w' hs
            exact ⟨rfl, hs.below⟩
          ·
            intro hc_5
            replace h := ifO_f hc_5 h
            refine WC.skip ?_
            refine En.next ?_
            refine WC.seq ?_
            refine WC.seq ?_
            refine WC.region ?_
            refine Lt.ofWL.step rfl rfl rfl (OpV.fieldAddr rfl fo_30_5) ?_
            refine Lt.ofWL.step rfl rfl rfl (OpV.loadBox rfl pt_3 (.tail _ (.head _)) rfl) ?_
            refine Lt.ofWL.step rfl rfl rfl (OpV.fieldAddr rfl fo_30_5) ?_
            refine Lt.ofWL.step rfl rfl rfl (OpV.loadBox rfl pt_3 (.head _) rfl) ?_
            refine Lt.ofWL.step rfl rfl rfl (OpV.neq rfl rfl) ?_
            refine WL.nil ?_
            refine En.next ?_
            refine WC.cond rfl ?_ ?_
            ·
              intro hc_6
              replace h := ifO_t hc_6 h
              refine WC.seq ?_
              refine WC.region ?_
              refine Lt.ofWL.step rfl rfl rfl (OpV.assign rfl) ?_
              refine WL.nil ?_
              refine En.next ?_
              refine WC.ret ?_
              refine En.then_ret ?_
              refine En.ret1 rfl (Res.tmp rfl) ?_
              obtain rfl := Option.some.inj h
              intro w' hs
              exact ⟨rfl, hs.below⟩
            ·
              intro hc_6
              replace h := ifO_f hc_6 h
              refine WC.skip ?_
              refine En.next ?_
              refine WC.seq ?_
              refine WC.seq ?_
              refine WC.region ?_
              refine Lt.ofWL.step rfl rfl rfl (OpV.fieldAddr rfl fo_30_6) ?_
              refine Lt.ofWL.step rfl rfl rfl (OpV.loadBox rfl pt_3 (.tail _ (.head _)) rfl) ?_
              refine Lt.ofWL.step rfl rfl rfl (OpV.fieldAddr rfl fo_30_6) ?_
              refine Lt.ofWL.step rfl rfl rfl (OpV.loadBox rfl pt_3 (.head _) rfl) ?_
              refine Lt.ofWL.step rfl rfl rfl (OpV.neq rfl rfl) ?_
              refine WL.nil ?_
              refine En.next ?_
              refine WC.cond rfl ?_ ?_
              ·
                intro hc_7
                replace h := ifO_t hc_7 h
                refine WC.seq ?_
                refine WC.region ?_
                refine Lt.ofWL.step rfl rfl rfl (OpV.assign rfl) ?_
                refine WL.nil ?_
                refine En.next ?_
                refine WC.ret ?_
                refine En.then_ret ?_
                refine En.ret1 rfl (Res.tmp rfl) ?_
                obtain rfl := Option.some.inj h
                intro w' hs
                exact ⟨rfl, hs.below⟩
              ·
                intro hc_7
                replace h := ifO_f hc_7 h
                refine WC.skip ?_
                refine En.next ?_
                refine WC.seq ?_
                refine WC.seq ?_
                refine WC.region ?_
                refine Lt.ofWL.step rfl rfl rfl (OpV.fieldAddr rfl fo_30_7) ?_
                refine Lt.ofWL.step rfl rfl rfl (OpV.loadBox rfl pt_3 (.tail _ (.head _)) rfl) ?_
                refine Lt.ofWL.step rfl rfl rfl (OpV.fieldAddr rfl fo_30_7) ?_
                refine Lt.ofWL.step rfl rfl rfl (OpV.loadBox rfl pt_3 (.head _) rfl) ?_
                refine Lt.ofWL.step rfl rfl rfl (OpV.neq rfl rfl) ?_
                refine WL.nil ?_
                refine En.next ?_
                refine WC.cond rfl ?_ ?_
                ·
                  intro hc_8
                  replace h := ifO_t hc_8 h
                  refine WC.seq ?_
                  refine WC.region ?_
                  refine Lt.ofWL.step rfl rfl rfl (OpV.assign rfl) ?_
                  refine WL.nil ?_
                  refine En.next ?_
                  refine WC.ret ?_
                  refine En.then_ret ?_
                  refine En.ret1 rfl (Res.tmp rfl) ?_
                  obtain rfl := Option.some.inj h
                  intro w' hs
                  exact ⟨rfl, hs.below⟩
                ·
                  intro hc_8
                  replace h := ifO_f hc_8 h
                  refine WC.skip ?_
                  refine En.next ?_
                  refine WC.seq ?_
                  refine WC.seq ?_
                  refine WC.region ?_
                  refine Lt.ofWL.step rfl rfl rfl (OpV.fieldAddr rfl fo_30_8) ?_
                  refine Lt.ofWL.step rfl rfl rfl (OpV.loadBox rfl pt_3 (.tail _ (.head _)) rfl) ?_
                  refine Lt.ofWL.step rfl rfl rfl (OpV.fieldAddr rfl fo_30_8) ?_
                  refine Lt.ofWL.step rfl rfl rfl (OpV.loadBox rfl pt_3 (.head _) rfl) ?_
                  refine Lt.ofWL.step rfl rfl rfl (OpV.neq rfl rfl) ?_
                  refine WL.nil ?_
                  refine En.next ?_
                  refine WC.cond rfl ?_ ?_
                  ·
                    intro hc_9
                    replace h := ifO_t hc_9 h
                    refine WC.seq ?_
                    refine WC.region ?_
                    refine Lt.ofWL.step rfl rfl rfl (OpV.assign rfl) ?_
                    refine WL.nil ?_
                    refine En.next ?_
                    refine WC.ret ?_
                    refine En.then_ret ?_
                    refine En.ret1 rfl (Res.tmp rfl) ?_
                    obtain rfl := Option.some.inj h
                    intro w' hs
                    exact ⟨rfl, hs.below⟩
                  ·
                    intro hc_9
                    replace h := ifO_f hc_9 h
                    refine WC.skip ?_
                    refine En.next ?_
                    refine WC.seq ?_
                    refine WC.region ?_
                    refine Lt.ofWL.step rfl rfl rfl (OpV.assign rfl) ?_
                    refine WL.nil ?_
                    refine En.next ?_
                    refine WC.ret ?_
                    refine En.ret1 rfl (Res.tmp rfl) ?_
                    obtain rfl := Option.some.inj h
                    intro w' hs
                    exact ⟨rfl, hs.below⟩

theorem w_laws_eqModeS {a_p0 : List ModeT} {b_p1 : List ModeT} {r : Bool} {q0_0 : Option Addr} {n0_0 k0_0 : Nat} {q1_0 : Option Addr} {n1_0 k1_0 : Nat} (h : laws_eqModeS a_p0 b_p1 = some r) {w : World} (r0_0 : Rd tMode w q0_0 n0_0 k0_0 a_p0) (r1_0 : Rd tMode w q1_0 n1_0 k1_0 b_p1)  :
    Calls Try.prog 86 #[.slice q0_0 n0_0 k0_0, .slice q1_0 n1_0 k1_0] w (fun en w' => en = .returned (.bool r) ∧ Ext w w') := by
  obtain rfl := r0_0.1
  obtain rfl := r1_0.1
  unfold laws_eqModeS at h
  refine enter (vs := [_, _]) Try.func86 rfl rfl rfl rfl ?_
  refine WC.seq ?_
  refine WC.region ?_
  refine Lt.ofWL.step rfl rfl rfl (OpV.assign rfl) ?_
  refine WL.nil ?_
  refine En.next ?_
  refine WC.seq ?_
  refine WC.seq ?_
  refine WC.region ?_
  refine Lt.ofWL.step rfl rfl rfl (OpV.move rfl) ?_
  refine Lt.ofWL.step rfl rfl rfl (OpV.len rfl si_24 rfl) ?_
  refine Lt.ofWL.step rfl rfl rfl (OpV.move rfl) ?_
  refine Lt.ofWL.step rfl rfl rfl (OpV.len rfl si_24 rfl) ?_
  refine Lt.ofWL.step rfl rfl rfl (OpV.neq rfl rfl) ?_
  refine WL.nil ?_
  refine En.next ?_
  refine WC.cond rfl ?_ ?_
  ·
    intro hc_1
    replace h := ifO_t hc_1 h
    refine WC.seq ?_
    refine WC.region ?_
    refine Lt.ofWL.step rfl rfl rfl (OpV.assign rfl) ?_
    refine WL.nil ?_
    refine En.next ?_
    refine WC.ret ?_
    refine En.then_ret ?_
    refine En.ret1 rfl (Res.tmp rfl) ?_
    obtain rfl := Option.some.inj h
    intro w' hs
    exact ⟨rfl, hs.below⟩
  ·
    intro hc_1
    replace h := ifO_f hc_1 h
    refine WC.skip ?_
    refine En.next ?_
    refine WC.seq ?_
    refine WC.seq ?_
    refine WC.region ?_
    refine Lt.ofWL.step rfl rfl rfl (OpV.assign rfl) ?_
    refine WL.nil ?_
    refine En.next ?_
    refine WC.block ?_
    obtain ⟨zy0, ezy0, h⟩ := bnd h
    refine WC.cut (X := (Unit) × (Unit)) (.exit 0) (fun x => zy0 = .inl x.1) (fun x => match x with | ((), ()) => []) (fun x => match x with | ((), ()) => []) ?_ ?_
    ·
      rintro ⟨⟨⟩, ⟨⟩⟩ hx
      replace hx : .inl () = zy0 := hx.symm
      subst hx
      replace h := fork_l h
      show En _ _ _ _ [] []
      refine En.block_exit ?_
      refine En.next ?_
      refine WC.seq ?_
      refine WC.region ?_
      refine Lt.ofWL.step rfl rfl rfl (OpV.assign rfl) ?_
      refine WL.nil ?_
      refine En.next ?_
      refine WC.ret ?_
      refine En.ret1 rfl (Res.tmp rfl) ?_
      obtain rfl := Option.some.inj h
      intro w' hs
      exact ⟨rfl, hs.below⟩
    ·
      intro zK0_0
      refine WC.loopP (G := Unit) (fun s g => match s, g with | i_0, () => [(0, .slice q0_0 a_p0.length k0_0), (1, .slice q1_0 b_p1.length k1_0), (5, .int .i64 i_0)]) (fun s g => match s, g with | i_0, () => []) 0 () ezy0 (by exact Sub.cons rfl (Sub.cons rfl (Sub.cons rfl (Sub.nil _)))) (by exact (fun _ h => h)) ?_
      rintro zm0 i_0 ⟨⟩ zo0 zf0 zb0 ze0
      have zh0 : laws_eqModeS_L0 a_p0 b_p1 i_0 = some zo0 := zf0
      unfold laws_eqModeS_L0 at zh0
      show WC _ _ _ _ _ [(0, .slice q0_0 a_p0.length k0_0), (1, .slice q1_0 b_p1.length k1_0), (5, .int .i64 i_0)] []
      refine WC.seq ?_
      refine WC.seq ?_
      refine WC.region ?_
      refine Lt.ofWL.step rfl rfl rfl (OpV.move rfl) ?_
      refine Lt.ofWL.step rfl rfl rfl (OpV.move rfl) ?_
      refine Lt.ofWL.step rfl rfl rfl (OpV.len rfl si_24 rfl) ?_
      refine Lt.ofWL.step rfl rfl rfl (OpV.lss rfl rfl) ?_
      refine WL.nil ?_
      refine En.next ?_
      refine WC.cond rfl ?_ ?_
      ·
        intro hc_2
        replace zh0 := ifO_t hc_2 zh0
        refine WC.skip ?_
        refine En.next ?_
        refine WC.seq ?_
        refine WC.block ?_
        refine WC.seq ?_
        obtain ⟨x6_2, e6_2, zh0⟩ := bnd zh0
        obtain ⟨g6_2, o6_2, _, ha6_2, rfl, hd6_2⟩ := Rd.atIdx r0_0 e6_2
        replace hd6_2 : ∀ (j : Nat) v, ([.int .i64 x6_2.Clock, .int .i64 x6_2.W, .int .i64 x6_2.HFront, .int .i64 x6_2.HSync, .int .i64 x6_2.HBack, .int .i64 x6_2.H, .int .i64 x6_2.VFront, .int .i64 x6_2.VSync, .int .i64 x6_2.VBack] : List Value)[j]? = some v → w.cell? ⟨g6_2, o6_2 + i_0.toNat * 9 + j, .none⟩ = some v := hd6_2
        obtain ⟨x6_6, e6_6, zh0⟩ := bnd zh0
        obtain ⟨g6_6, o6_6, _, ha6_6, rfl, hd6_6⟩ := Rd.atIdx r1_0 e6_6
        replace hd6_6 : ∀ (j : Nat) v, ([.int .i64 x6_6.Clock, .int .i64 x6_6.W, .int .i64 x6_6.HFront, .int .i64 x6_6.HSync, .int .i64 x6_6.HBack, .int .i64 x6_6.H, .int .i64 x6_6.VFront, .int .i64 x6_6.VSync, .int .i64 x6_6.VBack] : List Value)[j]? = some v → w.cell? ⟨g6_6, o6_6 + i_0.toNat * 9 + j, .none⟩ = some v := hd6_6
        obtain ⟨x6_8, e6_8, zh0⟩ := bnd zh0
        refine WC.drawn [(0, ?r6v0), (1, ?r6v1), (5, ?r6v5), (26, ?r6v26)] (by kernel_rfl) (by kernel_rfl) ?dH6 ?dK6
        case dH6 =>
          intro W hW hk
          refine hW.step rfl rfl rfl (OpV.move rfl) ?_
          refine hW.step rfl rfl rfl (OpV.move rfl) ?_
          refine hW.step rfl rfl rfl (OpV.idxA rfl rfl se_24 ha6_2 ⟨(idx_some e6_2).1, (idx_some e6_2).2.1⟩) ?_
          refine hW.step rfl rfl rfl (OpV.loadN rfl ag_30 rfl (fun w hs => hs.cellsAt hd6_2)) ?_
          refine hW.step rfl rfl rfl (OpV.move rfl) ?_
          refine hW.step rfl rfl rfl (OpV.move rfl) ?_
          refine hW.step rfl rfl rfl (OpV.idxA rfl rfl se_24 ha6_6 ⟨(idx_some e6_6).1, (idx_some e6_6).2.1⟩) ?_
          refine hW.step rfl rfl rfl (OpV.loadN rfl ag_30 rfl (fun w hs => hs.cellsAt hd6_6)) ?_
          refine hW.step rfl rfl rfl (OpV.call (evs.cons rfl (evs.cons rfl (evs.nil))) ca_33 (fun w hs => w_laws_eqMode e6_8)) ?_
          refine hW.step rfl rfl rfl (OpV.not rfl) ?_
          refine hk _ ?_
          refine Sub.cons ?_ (Sub.cons ?_ (Sub.cons ?_ (Sub.cons ?_ (Sub.nil _))))
          all_goals exact rfl
        refine En.next ?_
        refine WC.cond rfl ?_ ?_
        ·
          intro hc_3
          replace zh0 := ifO_t hc_3 zh0
          refine WC.seq ?_
          refine WC.region ?_
          refine Lt.ofWL.step rfl rfl rfl (OpV.assign rfl) ?_
          refine WL.nil ?_
          refine En.next ?_
          refine WC.ret ?_
          refine En.block_ret ?_
          refine En.then_ret ?_
          refine En.then_ret ?_
          refine En.block_ret ?_
          refine En.then_ret ?_
          refine En.ret1 rfl (Res.tmp rfl) ?_
          have hx := exitP ze0 zh0
          subst hx
          replace h := fork_r h
          obtain rfl := Option.some.inj h
          intro w' hs
          exact ⟨rfl, hs.below⟩
        ·
          intro hc_3
          replace zh0 := ifO_f hc_3 zh0
          refine WC.skip ?_
          refine En.block_norm ?_
          refine En.next ?_
          refine WC.region ?_
          refine Lt.ofWL.step rfl rfl rfl (OpV.move rfl) ?_
          refine Lt.ofWL.step rfl rfl rfl (OpV.addR rfl rfl) ?_
          refine Lt.ofWL.step rfl rfl rfl (OpV.assign rfl) ?_
          refine WL.nil ?_
          exact En.backP zb0 zh0 () (Sub.cons rfl (Sub.cons rfl (Sub.cons rfl (Sub.nil _)))) (fun _ h => h)
      ·
        intro hc_2
        replace zh0 := ifO_f hc_2 zh0
        refine WC.exit ?_
        refine En.then_exit ?_
        refine En.then_exit ?_
        have hx := exitP ze0 zh0
        exact En.wk _ _ (Sub.nil _) (fun _ h => h) (zK0_0 ((), ()) hx.symm)

theorem w_laws_eqMonitor {a_p0 : MonitorT} {b_p1 : MonitorT} {r : Bool} {q0_0 : Option Addr} {n0_0 k0_0 : Nat} {q1_0 : Option Addr} {n1_0 k1_0 : Nat} (h : laws_eqMonitor a_p0 b_p1 = some r) {w : World} (r0_0 : Rd tMode w q0_0 n0_0 k0_0 a_p0.Modes) (r1_0 : Rd tMode w q1_0 n1_0 k1_0 b_p1.Modes)  :
    Calls Try.prog 26 #[.agg #[.string a_p0.Name, .slice q0_0 n0_0 k0_0, .int .i64 a_p0.Stretch], .agg #[.string b_p1.Name, .slice q1_0 n1_0 k1_0, .int .i64 b_p1.Stretch]] w (fun en w' => en = .returned (.bool r) ∧ Ext w w') := by
  obtain rfl := r0_0.1
  obtain rfl := r1_0.1
  unfold laws_eqMonitor at h
  refine enter (vs := [_, _]) Try.func26 rfl rfl rfl rfl ?_
  refine WC.seq ?_
  refine WC.region ?_
  refine WL.heavy rfl rfl rfl (OpH.box rfl rfl ?_)
  intro b0_0
  refine WL.heavy rfl rfl rfl (OpH.box rfl rfl ?_)
  intro b0_1
  refine Lt.ofWL.step rfl rfl rfl (OpV.assign rfl) ?_
  refine WL.nil ?_
  refine En.next ?_
  refine WC.seq ?_
  refine WC.seq ?_
  refine WC.region ?_
  refine Lt.ofWL.step rfl rfl rfl (OpV.fieldAddr rfl fo_26_0) ?_
  refine Lt.ofWL.step rfl rfl rfl (OpV.loadBox rfl pt_9 (.tail _ (.head _)) rfl) ?_
  refine Lt.ofWL.step rfl rfl rfl (OpV.fieldAddr rfl fo_26_0) ?_
  refine Lt.ofWL.step rfl rfl rfl (OpV.loadBox rfl pt_9 (.head _) rfl) ?_
  refine Lt.ofWL.step rfl rfl rfl (OpV.sneqR rfl rfl) ?_
  refine WL.nil ?_
  refine En.next ?_
  refine WC.cond rfl ?_ ?_
  ·
    intro hc_1
    replace h := ifO_t hc_1 h
    refine WC.seq ?_
    refine WC.region ?_
    refine Lt.ofWL.step rfl rfl rfl (OpV.assign rfl) ?_
    refine WL.nil ?_
    refine En.next ?_
    refine WC.ret ?_
    refine En.then_ret ?_
    refine En.ret1 rfl (Res.tmp rfl) ?_
    obtain rfl := Option.some.inj h
    intro w' hs
    exact ⟨rfl, hs.below⟩
  ·
    intro hc_1
    replace h := ifO_f hc_1 h
    refine WC.skip ?_
    refine En.next ?_
    refine WC.seq ?_
    refine WC.seq ?_
    obtain ⟨x3_4, e3_4, h⟩ := bnd h
    refine WC.region ?_
    refine Lt.ofWL.step rfl rfl rfl (OpV.fieldAddr rfl fo_26_1) ?_
    refine Lt.ofWL.step rfl rfl rfl (OpV.loadBox rfl pt_24 (.tail _ (.head _)) rfl) ?_
    refine Lt.ofWL.step rfl rfl rfl (OpV.fieldAddr rfl fo_26_1) ?_
    refine Lt.ofWL.step rfl rfl rfl (OpV.loadBox rfl pt_24 (.head _) rfl) ?_
    refine Lt.ofWL.step rfl rfl rfl (OpV.call (evs.cons rfl (evs.cons rfl (evs.nil))) ca_86 (fun w hs => w_laws_eqModeS e3_4 (r0_0.ext hs.below) (r1_0.ext hs.below))) ?_
    refine Lt.ofWL.step rfl rfl rfl (OpV.not rfl) ?_
    refine WL.nil ?_
    refine En.next ?_
    refine WC.cond rfl ?_ ?_
    ·
      intro hc_2
      replace h := ifO_t hc_2 h
      refine WC.seq ?_
      refine WC.region ?_
      refine Lt.ofWL.step rfl rfl rfl (OpV.assign rfl) ?_
      refine WL.nil ?_
      refine En.next ?_
      refine WC.ret ?_
      refine En.then_ret ?_
      refine En.ret1 rfl (Res.tmp rfl) ?_
      obtain rfl := Option.some.inj h
      intro w' hs
      exact ⟨rfl, hs.below⟩
    ·
      intro hc_2
      replace h := ifO_f hc_2 h
      refine WC.skip ?_
      refine En.next ?_
      refine WC.seq ?_
      refine WC.seq ?_
      refine WC.region ?_
      refine Lt.ofWL.step rfl rfl rfl (OpV.fieldAddr rfl fo_26_2) ?_
      refine Lt.ofWL.step rfl rfl rfl (OpV.loadBox rfl pt_3 (.tail _ (.head _)) rfl) ?_
      refine Lt.ofWL.step rfl rfl rfl (OpV.fieldAddr rfl fo_26_2) ?_
      refine Lt.ofWL.step rfl rfl rfl (OpV.loadBox rfl pt_3 (.head _) rfl) ?_
      refine Lt.ofWL.step rfl rfl rfl (OpV.neq rfl rfl) ?_
      refine WL.nil ?_
      refine En.next ?_
      refine WC.cond rfl ?_ ?_
      ·
        intro hc_3
        replace h := ifO_t hc_3 h
        refine WC.seq ?_
        refine WC.region ?_
        refine Lt.ofWL.step rfl rfl rfl (OpV.assign rfl) ?_
        refine WL.nil ?_
        refine En.next ?_
        refine WC.ret ?_
        refine En.then_ret ?_
        refine En.ret1 rfl (Res.tmp rfl) ?_
        obtain rfl := Option.some.inj h
        intro w' hs
        exact ⟨rfl, hs.below⟩
      ·
        intro hc_3
        replace h := ifO_f hc_3 h
        refine WC.skip ?_
        refine En.next ?_
        refine WC.seq ?_
        refine WC.region ?_
        refine Lt.ofWL.step rfl rfl rfl (OpV.assign rfl) ?_
        refine WL.nil ?_
        refine En.next ?_
        refine WC.ret ?_
        refine En.ret1 rfl (Res.tmp rfl) ?_
        obtain rfl := Option.some.inj h
        intro w' hs
        exact ⟨rfl, hs.below⟩

theorem w_laws_FnExactMonitorOk {aM_p0 : MonitorT} {r : Bool} {q0_0 : Option Addr} {n0_0 k0_0 : Nat} (h : laws_FnExactMonitorOk aM_p0 = some r) {w : World} (r0_0 : Rd tMode w q0_0 n0_0 k0_0 aM_p0.Modes)  :
    Calls Try.prog 5 #[.agg #[.string aM_p0.Name, .slice q0_0 n0_0 k0_0, .int .i64 aM_p0.Stretch]] w (fun en w' => en = .returned (.bool r) ∧ Ext w w') := by
  obtain rfl := r0_0.1
  unfold laws_FnExactMonitorOk at h
  refine enter (vs := [_]) Try.func5 rfl rfl rfl rfl ?_
  refine WC.seq ?_
  refine WC.region ?_
  refine WL.heavy rfl rfl rfl (OpH.box rfl rfl ?_)
  intro b0_0
  refine Lt.ofWL.step rfl rfl rfl (OpV.assign rfl) ?_
  refine WL.nil ?_
  refine En.next ?_
  refine WC.seq ?_
  refine WC.region ?_
  refine Lt.ofWL.step rfl rfl rfl (OpV.assign rfl) ?_
  refine WL.nil ?_
  refine En.next ?_
  refine WC.seq ?_
  obtain ⟨x2_2, e2_2, h⟩ := bnd h
  refine WC.region ?_
  refine Lt.ofWL.step rfl rfl rfl (OpV.loadAll rfl (.head _) ag_41) ?_
  refine Lt.ofWL.step rfl rfl rfl (OpV.move rfl) ?_
  refine Lt.ofWL.step rfl rfl rfl (OpV.call (evs.cons rfl (evs.cons rfl (evs.nil))) ca_23 (fun w hs => w_laws_szMonitor e2_2 (r0_0.ext hs.below))) ?_
  refine Lt.ofWL.step rfl rfl rfl (OpV.assign rfl) ?_
  refine WL.nil ?_
  refine En.next ?_
  refine WC.seq ?_
  refine WC.seq ?_
  refine WC.region ?_
  refine Lt.ofWL.step rfl rfl rfl (OpV.move rfl) ?_
  refine Lt.ofWL.step rfl rfl rfl (OpV.lss rfl rfl) ?_
  refine WL.nil ?_
  refine En.next ?_
  refine WC.cond rfl ?_ ?_
  ·
    intro hc_1
    replace h := ifO_t hc_1 h
    refine WC.seq ?_
    refine WC.region ?_
    refine Lt.ofWL.step rfl rfl rfl (OpV.assign rfl) ?_
    refine WL.nil ?_
    refine En.next ?_
    refine WC.ret ?_
    refine En.then_ret ?_
    refine En.ret1 rfl (Res.tmp rfl) ?_
    obtain rfl := Option.some.inj h
    intro w' hs
    exact ⟨rfl, hs.below⟩
  ·
    intro hc_1
    replace h := ifO_f hc_1 h
    refine WC.skip ?_
    refine En.next ?_
    refine WC.seq ?_
    obtain ⟨x5_1, e5_1, h⟩ := bnd h
    obtain ⟨x5_2, e5_2, h⟩ := bnd h
    refine WC.region ?_
    refine Lt.ofWL.step rfl rfl rfl (OpV.loadAll rfl (.head _) ag_41) ?_
    refine WL.heavy rfl rfl rfl (OpH.callR (evs.cons rfl (evs.nil)) ca_25 (fun w hs => w_laws_toMonitor e5_1 (r0_0.ext hs.below)) ?_)
    rintro _ _ ⟨a5_100, n5_100, c5_100, f5_100, rfl, rfl⟩
    refine Lt.ofWL.step rfl rfl rfl (OpV.call (evs.cons rfl (evs.nil)) ca_24 (fun w hs => w_spec_MonitorOk e5_2 (Ow.rd (hs.mem (.head _))))) ?_
    refine Lt.ofWL.step rfl rfl rfl (OpV.assign rfl) ?_
    refine WL.nil ?_
    refine En.next ?_
    refine WC.seq ?_
    obtain ⟨x6_1, e6_1, h⟩ := bnd h
    refine WC.region ?_
    refine Lt.ofWL.step rfl rfl rfl (OpV.loadAll rfl (.tail _ (.head _)) ag_41) ?_
    refine WL.heavy rfl rfl rfl (OpH.callR (evs.cons rfl (evs.nil)) ca_25 (fun w hs => w_laws_toMonitor e6_1 (r0_0.ext hs.below)) ?_)
    rintro _ _ ⟨a6_100, n6_100, c6_100, f6_100, rfl, rfl⟩
    refine WL.heavy rfl rfl rfl (OpH.alloc zc_26 ?_)
    intro b6_2
    refine WL.heavy0 rfl rfl (OpH.storeTo (A := []) [_, _, _] rfl rfl rfl ts_26 rfl rfl rfl ?_)
    refine WL.nil ?_
    refine En.next ?_
    refine WC.seq ?_
    obtain ⟨x7_1, e7_1, h⟩ := bnd h
    refine WC.region ?_
    refine Lt.ofWL.step rfl rfl rfl (OpV.loadAll rfl (.head _) ag_26) ?_
    refine Lt.ofWL.step rfl rfl rfl (OpV.call (evs.cons rfl (evs.nil)) ca_22 (fun w hs => w_impl_MonitorOk e7_1 (Ow.rd (hs.mem (.tail _ (.head _)))))) ?_
    refine Lt.ofWL.step rfl rfl rfl (OpV.assign rfl) ?_
    refine WL.nil ?_
    refine En.next ?_
    refine WC.seq ?_
    refine WC.seq ?_
    refine WC.region ?_
    refine Lt.ofWL.step rfl rfl rfl (OpV.move rfl) ?_
    refine Lt.ofWL.step rfl rfl rfl (OpV.move rfl) ?_
    refine Lt.ofWL.step rfl rfl rfl (OpV.bneq rfl rfl ub_4) ?_
    refine WL.nil ?_
    refine En.next ?_
    refine WC.cond rfl ?_ ?_
    ·
      intro hc_2
      replace h := ifO_t hc_2 h
      refine WC.seq ?_
      refine WC.region ?_
      refine Lt.ofWL.step rfl rfl rfl (OpV.assign rfl) ?_
      refine WL.nil ?_
      refine En.next ?_
      refine WC.ret ?_
      refine En.then_ret ?_
      refine En.ret1 rfl (Res.tmp rfl) ?_
      obtain rfl := Option.some.inj h
      intro w' hs
      exact ⟨rfl, hs.below⟩
    ·
      intro hc_2
      replace h := ifO_f hc_2 h
      refine WC.skip ?_
      refine En.next ?_
      refine WC.seq ?_
      refine WC.seq ?_
      obtain ⟨x10_2, e10_2, h⟩ := bnd h
      obtain ⟨x10_3, e10_3, h⟩ := bnd h
      refine WC.drawnH [] ([_, _, _, _]) (fun _ h => h) (by kernel_rfl) ?_
      refine WAE.take (i := 0) rfl (by kernel_rfl) (by kernel_rfl) (by kernel_rfl) rfl rfl rfl (OpV.loadAll rfl (.head _) ag_26) ?_
      refine WAE.take (i := 1) rfl (by kernel_rfl) (by kernel_rfl) (by kernel_rfl) rfl rfl rfl (OpV.loadAll rfl (.tail _ (.tail _ (.tail _ (.head _)))) ag_41) ?_
      refine WAE.all (rs := [2]) (by kernel_rfl) rfl (AllR.cons rfl rfl rfl rfl ?_ AllR.nil)
      refine OpH.callR (evs.cons rfl (evs.nil)) ca_25 (fun w hs => w_laws_toMonitor e10_2 (r0_0.ext hs.below)) ?_
      rintro _ _ ⟨a10_200, n10_200, c10_200, f10_200, rfl, rfl⟩
      refine ⟨[_], rfl, ?_⟩
      refine WAE.rebase (H := []) ?_
      refine WAE.take (i := 3) rfl (by kernel_rfl) (by kernel_rfl) (by kernel_rfl) rfl rfl rfl (OpV.call (evs.cons rfl (evs.cons rfl (evs.nil))) ca_26 (fun w hs => w_laws_eqMonitor e10_3 (Ow.rd (hs.mem (.tail _ (.tail _ (.head _))))) (Ow.rd (hs.mem (.head _))))) ?_
      refine WAE.take (i := 4) rfl (by kernel_rfl) (by kernel_rfl) (by kernel_rfl) rfl rfl rfl (OpV.not rfl) ?_
      refine WAE.done (by kernel_rfl) ?_ _
      refine En.next ?_
      refine WC.cond rfl ?_ ?_
      ·
        intro hc_3
        replace h := ifO_t hc_3 h
        refine WC.seq ?_
        refine WC.region ?_
        refine Lt.ofWL.step rfl rfl rfl (OpV.assign rfl) ?_
        refine WL.nil ?_
        refine En.next ?_
        refine WC.ret ?_
        refine En.then_ret ?_
        refine En.ret1 rfl (Res.tmp rfl) ?_
        obtain rfl := Option.some.inj h
        intro w' hs
        exact ⟨rfl, hs.below⟩
      ·
        intro hc_3
        replace h := ifO_f hc_3 h
        refine WC.skip ?_
        refine En.next ?_
        refine WC.seq ?_
        refine WC.region ?_
        refine Lt.ofWL.step rfl rfl rfl (OpV.assign rfl) ?_
        refine WL.nil ?_
        refine En.next ?_
        refine WC.ret ?_
        refine En.ret1 rfl (Res.tmp rfl) ?_
        obtain rfl := Option.some.inj h
        intro w' hs
        exact ⟨rfl, hs.below⟩

theorem w_spec_ChooseMode {m_p0 : MonitorT} {w_p1 : Int} {h_p2 : Int} {r : ModeT × Bool} {q0_0 : Option Addr} {n0_0 k0_0 : Nat} (h : spec_ChooseMode m_p0 w_p1 h_p2 = some r) {w : World} (r0_0 : Rd tMode w q0_0 n0_0 k0_0 m_p0.Modes)  :
    Calls Try.prog 32 #[.agg #[.string m_p0.Name, .slice q0_0 n0_0 k0_0, .int .i64 m_p0.Stretch], .int .i64 w_p1, .int .i64 h_p2] w (fun en w' => en = .returned (.tuple #[.agg #[.int .i64 r.1.Clock, .int .i64 r.1.W, .int .i64 r.1.HFront, .int .i64 r.1.HSync, .int .i64 r.1.HBack, .int .i64 r.1.H, .int .i64 r.1.VFront, .int .i64 r.1.VSync, .int .i64 r.1.VBack], .bool r.2]) ∧ Ext w w') := by
  obtain rfl := r0_0.1
  unfold spec_ChooseMode at h
  refine enter (vs := [_, _, _]) Try.func32 rfl rfl rfl rfl ?_
  refine WC.seq ?_
  refine WC.region ?_
  refine WL.heavy rfl rfl rfl (OpH.box rfl rfl ?_)
  intro b0_0
  refine WL.heavy rfl rfl rfl (OpH.alloc zc_30 ?_)
  intro b0_1
  refine Lt.ofWL.step rfl rfl rfl (OpV.assign rfl) ?_
  refine WL.nil ?_
  refine En.next ?_
  refine WC.seq ?_
  refine WC.seq ?_
  obtain ⟨x1_1, e1_1, h⟩ := bnd h
  refine WC.region ?_
  refine Lt.ofWL.step rfl rfl rfl (OpV.loadAll rfl (.tail _ (.head _)) ag_26) ?_
  refine Lt.ofWL.step rfl rfl rfl (OpV.call (evs.cons rfl (evs.nil)) ca_24 (fun w hs => w_spec_MonitorOk e1_1 (r0_0.ext hs.below))) ?_
  refine Lt.ofWL.step rfl rfl rfl (OpV.not rfl) ?_
  refine WL.nil ?_
  refine En.next ?_
  refine WC.cond rfl ?_ ?_
  ·
    intro hc_1
    replace h := ifO_t hc_1 h
    refine WC.seq ?_
    refine WC.region ?_
    refine Lt.ofWL.step rfl rfl rfl (OpV.build (evps.nil) bd_30_) ?_
    refine WL.heavy0 rfl rfl (OpH.storeTo (A := []) [_, _, _, _, _, _, _, _, _] rfl rfl rfl ts_30 rfl rfl rfl ?_)
    refine Lt.ofWL.step rfl rfl rfl (OpV.assign rfl) ?_
    refine WL.nil ?_
    refine En.next ?_
    refine WC.ret ?_
    refine En.then_ret ?_
    refine En.ret2 rfl (Res.cell rfl (.head _) ag_30) (Res.tmp rfl) ?_
    obtain rfl := Option.some.inj h
    intro w' hs
    exact ⟨rfl, hs.below⟩
  ·
    intro hc_1
    replace h := ifO_f hc_1 h
    refine WC.skip ?_
    refine En.next ?_
    refine WC.seq ?_
    obtain ⟨x3_2, e3_2, h⟩ := bnd h
    obtain ⟨g3_2, o3_2, _, ha3_2, rfl, hd3_2⟩ := Rd.atIdx r0_0 e3_2
    replace hd3_2 : ∀ (j : Nat) v, ([.int .i64 x3_2.Clock, .int .i64 x3_2.W, .int .i64 x3_2.HFront, .int .i64 x3_2.HSync, .int .i64 x3_2.HBack, .int .i64 x3_2.H, .int .i64 x3_2.VFront, .int .i64 x3_2.VSync, .int .i64 x3_2.VBack] : List Value)[j]? = some v → w.cell? ⟨g3_2, o3_2 + (Int.toNat 0) * 9 + j, .none⟩ = some v := hd3_2
    refine WC.region ?_
    refine Lt.ofWL.step rfl rfl rfl (OpV.fieldAddr rfl fo_26_1) ?_
    refine Lt.ofWL.step rfl rfl rfl (OpV.loadBox rfl pt_24 (.tail _ (.head _)) rfl) ?_
    refine Lt.ofWL.step rfl rfl rfl (OpV.idxA rfl rfl se_24 ha3_2 ⟨(idx_some e3_2).1, (idx_some e3_2).2.1⟩) ?_
    refine Lt.ofWL.step rfl rfl rfl (OpV.loadN rfl ag_30 rfl (fun w hs => hs.cellsAt hd3_2)) ?_
    refine WL.heavy rfl rfl rfl (OpH.alloc zc_30 ?_)
    intro b3_4
    refine WL.heavy0 rfl rfl (OpH.storeTo (A := []) [_, _, _, _, _, _, _, _, _] rfl rfl rfl ts_30 rfl rfl rfl ?_)
    refine WL.nil ?_
    refine En.next ?_
    refine WC.seq ?_
    refine WC.seq ?_
    refine WC.region ?_
    refine Lt.ofWL.step rfl rfl rfl (OpV.assign rfl) ?_
    refine WL.nil ?_
    refine En.next ?_
    refine WC.block ?_
    obtain ⟨zy0, ezy0, h⟩ := bnd h
    refine WC.cut (X := (ModeT) × (Unit)) (.exit 0) (fun x => zy0 = .inl x.1) (fun x => match x with | (best_0e, ()) => [(6, .pointer (some ⟨b0_1, 0, .none⟩)), (8, .pointer (some ⟨b3_4, 0, .none⟩))]) (fun x => match x with | (best_0e, ()) => [Chunk.box b0_1 30 [.int .i64 0, .int .i64 0, .int .i64 0, .int .i64 0, .int .i64 0, .int .i64 0, .int .i64 0, .int .i64 0, .int .i64 0], Chunk.box b3_4 30 [.int .i64 best_0e.Clock, .int .i64 best_0e.W, .int .i64 best_0e.HFront, .int .i64 best_0e.HSync, .int .i64 best_0e.HBack, .int .i64 best_0e.H, .int .i64 best_0e.VFront, .int .i64 best_0e.VSync, .int .i64 best_0e.VBack]]) ?_ ?_
    ·
      rintro ⟨best_0e, ⟨⟩⟩ hx
      replace hx : .inl best_0e = zy0 := hx.symm
      subst hx
      replace h := fork_l h
      show En _ _ _ _ [(6, .pointer (some ⟨b0_1, 0, .none⟩)), (8, .pointer (some ⟨b3_4, 0, .none⟩))] [Chunk.box b0_1 30 [.int .i64 0, .int .i64 0, .int .i64 0, .int .i64 0, .int .i64 0, .int .i64 0, .int .i64 0, .int .i64 0, .int .i64 0], Chunk.box b3_4 30 [.int .i64 best_0e.Clock, .int .i64 best_0e.W, .int .i64 best_0e.HFront, .int .i64 best_0e.HSync, .int .i64 best_0e.HBack, .int .i64 best_0e.H, .int .i64 best_0e.VFront, .int .i64 best_0e.VSync, .int .i64 best_0e.VBack]]
      refine En.block_exit ?_
      refine En.next ?_
      refine WC.seq ?_
      refine WC.region ?_
      refine Lt.ofWL.step rfl rfl rfl (OpV.loadAll rfl (.tail _ (.head _)) ag_30) ?_
      refine WL.heavy0 rfl rfl (OpH.storeTo (A := []) [_, _, _, _, _, _, _, _, _] rfl rfl rfl ts_30 rfl rfl rfl ?_)
      refine Lt.ofWL.step rfl rfl rfl (OpV.assign rfl) ?_
      refine WL.nil ?_
      refine En.next ?_
      refine WC.ret ?_
      refine En.ret2 rfl (Res.cell rfl (.head _) ag_30) (Res.tmp rfl) ?_
      obtain rfl := Option.some.inj h
      intro w' hs
      exact ⟨rfl, hs.below⟩
    ·
      intro zK0_0
      refine WC.loopP (G := Unit) (fun s g => match s, g with | (best_0, k_0), () => [(1, .int .i64 w_p1), (2, .int .i64 h_p2), (3, .pointer (some ⟨b0_0, 0, .none⟩)), (6, .pointer (some ⟨b0_1, 0, .none⟩)), (8, .pointer (some ⟨b3_4, 0, .none⟩)), (9, .int .i64 k_0)]) (fun s g => match s, g with | (best_0, k_0), () => [Chunk.box b0_0 26 [.string m_p0.Name, .slice q0_0 m_p0.Modes.length k0_0, .int .i64 m_p0.Stretch], Chunk.box b0_1 30 [.int .i64 0, .int .i64 0, .int .i64 0, .int .i64 0, .int .i64 0, .int .i64 0, .int .i64 0, .int .i64 0, .int .i64 0], Chunk.box b3_4 30 [.int .i64 best_0.Clock, .int .i64 best_0.W, .int .i64 best_0.HFront, .int .i64 best_0.HSync, .int .i64 best_0.HBack, .int .i64 best_0.H, .int .i64 best_0.VFront, .int .i64 best_0.VSync, .int .i64 best_0.VBack]]) (x3_2, 0) () ezy0 (by exact Sub.cons rfl (Sub.cons rfl (Sub.cons rfl (Sub.cons rfl (Sub.cons rfl (Sub.cons rfl (Sub.nil _))))))) (by exact (fun _ h => ((h).perm (List.perm_middle (l₁ := [_]))).perm (List.perm_middle (l₁ := [_, _])))) ?_
      rintro zm0 ⟨best_0, k_0⟩ ⟨⟩ zo0 zf0 zb0 ze0
      have zh0 : spec_ChooseMode_L0 m_p0 w_p1 h_p2 best_0 k_0 = some zo0 := zf0
      unfold spec_ChooseMode_L0 at zh0
      show WC _ _ _ _ _ [(1, .int .i64 w_p1), (2, .int .i64 h_p2), (3, .pointer (some ⟨b0_0, 0, .none⟩)), (6, .pointer (some ⟨b0_1, 0, .none⟩)), (8, .pointer (some ⟨b3_4, 0, .none⟩)), (9, .int .i64 k_0)] [Chunk.box b0_0 26 [.string m_p0.Name, .slice q0_0 m_p0.Modes.length k0_0, .int .i64 m_p0.Stretch], Chunk.box b0_1 30 [.int .i64 0, .int .i64 0, .int .i64 0, .int .i64 0, .int .i64 0, .int .i64 0, .int .i64 0, .int .i64 0, .int .i64 0], Chunk.box b3_4 30 [.int .i64 best_0.Clock, .int .i64 best_0.W, .int .i64 best_0.HFront, .int .i64 best_0.HSync, .int .i64 best_0.HBack, .int .i64 best_0.H, .int .i64 best_0.VFront, .int .i64 best_0.VSync, .int .i64 best_0.VBack]]
      refine WC.seq ?_
      refine WC.seq ?_
      refine WC.region ?_
      refine Lt.ofWL.step rfl rfl rfl (OpV.move rfl) ?_
      refine Lt.ofWL.step rfl rfl rfl (OpV.fieldAddr rfl fo_26_1) ?_
      refine Lt.ofWL.step rfl rfl rfl (OpV.loadBox rfl pt_24 (.head _) rfl) ?_
      refine Lt.ofWL.step rfl rfl rfl (OpV.len rfl si_24 rfl) ?_
      refine Lt.ofWL.step rfl rfl rfl (OpV.lss rfl rfl) ?_
      refine WL.nil ?_
      refine En.next ?_
      refine WC.cond rfl ?_ ?_
      ·
        intro hc_2
        replace zh0 := ifO_t hc_2 zh0
        refine WC.skip ?_
        refine En.next ?_
        refine WC.seq ?_
        refine WC.block ?_
        refine WC.seq ?_
        obtain ⟨x7_3, e7_3, zh0⟩ := bnd zh0
        obtain ⟨g7_3, o7_3, _, ha7_3, rfl, hd7_3⟩ := Rd.atIdx r0_0 e7_3
        replace hd7_3 : ∀ (j : Nat) v, ([.int .i64 x7_3.Clock, .int .i64 x7_3.W, .int .i64 x7_3.HFront, .int .i64 x7_3.HSync, .int .i64 x7_3.HBack, .int .i64 x7_3.H, .int .i64 x7_3.VFront, .int .i64 x7_3.VSync, .int .i64 x7_3.VBack] : List Value)[j]? = some v → w.cell? ⟨g7_3, o7_3 + k_0.toNat * 9 + j, .none⟩ = some v := hd7_3
        refine WC.region ?_
        refine Lt.ofWL.step rfl rfl rfl (OpV.fieldAddr rfl fo_26_1) ?_
        refine Lt.ofWL.step rfl rfl rfl (OpV.loadBox rfl pt_24 (.head _) rfl) ?_
        refine Lt.ofWL.step rfl rfl rfl (OpV.move rfl) ?_
        refine Lt.ofWL.step rfl rfl rfl (OpV.idxA rfl rfl se_24 ha7_3 ⟨(idx_some e7_3).1, (idx_some e7_3).2.1⟩) ?_
        refine Lt.ofWL.step rfl rfl rfl (OpV.loadN rfl ag_30 rfl (fun w hs => hs.cellsAt hd7_3)) ?_
        refine WL.heavy rfl rfl rfl (OpH.alloc zc_30 ?_)
        intro b7_5
        refine WL.heavy0 rfl rfl (OpH.storeTo (A := []) [_, _, _, _, _, _, _, _, _] rfl rfl rfl ts_30 rfl rfl rfl ?_)
        refine WL.nil ?_
        refine En.next ?_
        refine WC.seq ?_
        refine WC.seq ?_
        refine WC.region ?_
        refine Lt.ofWL.step rfl rfl rfl (OpV.fieldAddr rfl fo_30_1) ?_
        refine Lt.ofWL.step rfl rfl rfl (OpV.loadBox rfl pt_3 (.head _) rfl) ?_
        refine Lt.ofWL.step rfl rfl rfl (OpV.move rfl) ?_
        refine Lt.ofWL.step rfl rfl rfl (OpV.eql rfl rfl) ?_
        refine Lt.ofWL.step rfl rfl rfl (OpV.move rfl) ?_
        refine Lt.ofWL.and 35 40 39 (p := ?pz1) (rest := ?qz1) (B := ?Bz1) rfl ?Tz1 ?Fz1 ?az1 ?bz1 ?cz1 ?dz1 ?ez1
        case Tz1 =>
          intro hcz1 hkz1
          refine Lt.ofWL.step rfl rfl rfl (OpV.fieldAddr rfl fo_30_5) ?_
          refine Lt.ofWL.step rfl rfl rfl (OpV.loadBox rfl pt_3 (.head _) rfl) ?_
          refine Lt.ofWL.step rfl rfl rfl (OpV.move rfl) ?_
          refine Lt.ofWL.step rfl rfl rfl (OpV.eql rfl rfl) ?_
          refine hkz1 _ ?_ ?_
          exact rfl
          repeat (first | exact Sub.refl _ | refine Sub.skip rfl ?_)
        case Fz1 =>
          intro hcz1 hkz1
          refine Lt.ofWL.skip rfl rfl rfl ?_
          refine Lt.ofWL.skip rfl rfl rfl ?_
          refine Lt.ofWL.skip rfl rfl rfl ?_
          refine Lt.ofWL.skip rfl rfl rfl ?_
          refine hkz1 _ ?_
          repeat (first | exact Sub.refl _ | refine Sub.skip rfl ?_)
        case az1 => exact rfl
        case bz1 => exact rfl
        case cz1 => exact rfl
        case dz1 => exact rfl
        refine WL.nil ?_
        refine En.next ?_
        refine WC.cond rfl ?_ ?_
        ·
          intro hc_3
          replace zh0 := ifO_t hc_3 zh0
          refine WC.seq ?_
          refine WC.region ?_
          refine Lt.ofWL.step rfl rfl rfl (OpV.loadAll rfl (.head _) ag_30) ?_
          refine WL.heavy0 rfl rfl (OpH.storeTo (A := [_, _]) [_, _, _, _, _, _, _, _, _] rfl rfl rfl ts_30 rfl rfl rfl ?_)
          refine Lt.ofWL.step rfl rfl rfl (OpV.assign rfl) ?_
          refine WL.nil ?_
          refine En.next ?_
          refine WC.ret ?_
          refine En.then_ret ?_
          refine En.block_ret ?_
          refine En.then_ret ?_
          refine En.then_ret ?_
          refine En.block_ret ?_
          refine En.then_ret ?_
          refine En.ret2 rfl (Res.cell rfl (.tail _ (.tail _ (.head _))) ag_30) (Res.tmp rfl) ?_
          have hx := exitP ze0 zh0
          subst hx
          replace h := fork_r h
          obtain rfl := Option.some.inj h
          intro w' hs
          exact ⟨rfl, hs.below⟩
        ·
          intro hc_3
          replace zh0 := ifO_f hc_3 zh0
          refine WC.skip ?_
          refine En.next ?_
          refine WC.seq ?_
          refine WC.region ?_
          refine Lt.ofWL.step rfl rfl rfl (OpV.fieldAddr rfl fo_30_1) ?_
          refine Lt.ofWL.step rfl rfl rfl (OpV.loadBox rfl pt_3 (.head _) rfl) ?_
          refine Lt.ofWL.step rfl rfl rfl (OpV.fieldAddr rfl fo_30_5) ?_
          refine Lt.ofWL.step rfl rfl rfl (OpV.loadBox rfl pt_3 (.head _) rfl) ?_
          refine Lt.ofWL.step rfl rfl rfl (OpV.mulR rfl rfl) ?_
          refine Lt.ofWL.step rfl rfl rfl (OpV.fieldAddr rfl fo_30_1) ?_
          refine Lt.ofWL.step rfl rfl rfl (OpV.loadBox rfl pt_3 (.tail _ (.tail _ (.tail _ (.head _)))) rfl) ?_
          refine Lt.ofWL.step rfl rfl rfl (OpV.fieldAddr rfl fo_30_5) ?_
          refine Lt.ofWL.step rfl rfl rfl (OpV.loadBox rfl pt_3 (.tail _ (.tail _ (.tail _ (.head _)))) rfl) ?_
          refine Lt.ofWL.step rfl rfl rfl (OpV.mulR rfl rfl) ?_
          refine Lt.ofWL.step rfl rfl rfl (OpV.gtr rfl rfl) ?_
          refine WL.nil ?_
          refine En.next ?_
          refine WC.cond rfl ?_ ?_
          ·
            intro hc_4
            replace zh0 := ifO_t hc_4 zh0
            refine WC.region ?_
            refine Lt.ofWL.step rfl rfl rfl (OpV.loadAll rfl (.head _) ag_30) ?_
            refine WL.heavy0 rfl rfl (OpH.storeTo (A := [_, _, _]) [_, _, _, _, _, _, _, _, _] rfl rfl rfl ts_30 rfl rfl rfl ?_)
            refine WL.nil ?_
            refine En.block_norm ?_
            refine En.next ?_
            refine WC.region ?_
            refine Lt.ofWL.step rfl rfl rfl (OpV.move rfl) ?_
            refine Lt.ofWL.step rfl rfl rfl (OpV.addR rfl rfl) ?_
            refine Lt.ofWL.step rfl rfl rfl (OpV.assign rfl) ?_
            refine WL.nil ?_
            exact En.backP zb0 zh0 () (Sub.cons rfl (Sub.cons rfl (Sub.cons rfl (Sub.cons rfl (Sub.cons rfl (Sub.cons rfl (Sub.nil _))))))) (fun _ h => ((((h).perm (List.perm_middle (l₁ := [_, _, _]))).perm (List.perm_middle (l₁ := [_, _, _]))).perm (List.perm_middle (l₁ := [_, _, _]))).sub (.cons_cons _ (.cons_cons _ (.cons_cons _ (.cons _ (.slnil))))))
          ·
            intro hc_4
            replace zh0 := ifO_f hc_4 zh0
            refine WC.skip ?_
            refine En.block_norm ?_
            refine En.next ?_
            refine WC.region ?_
            refine Lt.ofWL.step rfl rfl rfl (OpV.move rfl) ?_
            refine Lt.ofWL.step rfl rfl rfl (OpV.addR rfl rfl) ?_
            refine Lt.ofWL.step rfl rfl rfl (OpV.assign rfl) ?_
            refine WL.nil ?_
            exact En.backP zb0 zh0 () (Sub.cons rfl (Sub.cons rfl (Sub.cons rfl (Sub.cons rfl (Sub.cons rfl (Sub.cons rfl (Sub.nil _))))))) (fun _ h => ((((h).perm (List.perm_middle (l₁ := [_, _, _]))).perm (List.perm_middle (l₁ := [_, _, _]))).perm (List.perm_middle (l₁ := [_, _, _]))).sub (.cons_cons _ (.cons_cons _ (.cons_cons _ (.cons _ (.slnil))))))
      ·
        intro hc_2
        replace zh0 := ifO_f hc_2 zh0
        refine WC.exit ?_
        refine En.then_exit ?_
        refine En.then_exit ?_
        have hx := exitP ze0 zh0
        exact En.wk _ _ (Sub.cons rfl (Sub.cons rfl (Sub.nil _))) (fun _ h => (((h).perm (List.perm_middle (l₁ := [_, _]))).perm (List.perm_middle (l₁ := [_, _]))).sub (.cons_cons _ (.cons_cons _ (.cons _ (.slnil))))) (zK0_0 (best_0, ()) hx.symm)

theorem w_impl_ChooseMode {m_p0 : MonitorT} {w_p1 : Int} {h_p2 : Int} {r : ModeT × Bool} {q0_0 : Option Addr} {n0_0 k0_0 : Nat} (h : impl_ChooseMode m_p0 w_p1 h_p2 = some r) {w : World} (r0_0 : Rd tMode w q0_0 n0_0 k0_0 m_p0.Modes)  :
    Calls Try.prog 18 #[.agg #[.string m_p0.Name, .slice q0_0 n0_0 k0_0, .int .i64 m_p0.Stretch], .int .i64 w_p1, .int .i64 h_p2] w (fun en w' => en = .returned (.tuple #[.agg #[.int .i64 r.1.Clock, .int .i64 r.1.W, .int .i64 r.1.HFront, .int .i64 r.1.HSync, .int .i64 r.1.HBack, .int .i64 r.1.H, .int .i64 r.1.VFront, .int .i64 r.1.VSync, .int .i64 r.1.VBack], .bool r.2]) ∧ Ext w w') := by
  obtain rfl := r0_0.1
  unfold impl_ChooseMode at h
  refine enter (vs := [_, _, _]) Try.func18 rfl rfl rfl rfl ?_
  refine WC.seq ?_
  refine WC.region ?_
  refine WL.heavy rfl rfl rfl (OpH.box rfl rfl ?_)
  intro b0_0
  refine WL.heavy rfl rfl rfl (OpH.alloc zc_30 ?_)
  intro b0_1
  refine Lt.ofWL.step rfl rfl rfl (OpV.assign rfl) ?_
  refine WL.nil ?_
  refine En.next ?_
  refine WC.seq ?_
  refine WC.seq ?_
  obtain ⟨x1_1, e1_1, h⟩ := bnd h
  refine WC.region ?_
  refine Lt.ofWL.step rfl rfl rfl (OpV.loadAll rfl (.tail _ (.head _)) ag_26) ?_
  refine Lt.ofWL.step rfl rfl rfl (OpV.call (evs.cons rfl (evs.nil)) ca_22 (fun w hs => w_impl_MonitorOk e1_1 (r0_0.ext hs.below))) ?_
  refine Lt.ofWL.step rfl rfl rfl (OpV.not rfl) ?_
  refine WL.nil ?_
  refine En.next ?_
  refine WC.cond rfl ?_ ?_
  ·
    intro hc_1
    replace h := ifO_t hc_1 h
    refine WC.seq ?_
    refine WC.region ?_
    refine Lt.ofWL.step rfl rfl rfl (OpV.build (evps.nil) bd_30_) ?_
    refine WL.heavy0 rfl rfl (OpH.storeTo (A := []) [_, _, _, _, _, _, _, _, _] rfl rfl rfl ts_30 rfl rfl rfl ?_)
    refine Lt.ofWL.step rfl rfl rfl (OpV.assign rfl) ?_
    refine WL.nil ?_
    refine En.next ?_
    refine WC.ret ?_
    refine En.then_ret ?_
    refine En.ret2 rfl (Res.cell rfl (.head _) ag_30) (Res.tmp rfl) ?_
    obtain rfl := Option.some.inj h
    intro w' hs
    exact ⟨rfl, hs.below⟩
  ·
    intro hc_1
    replace h := ifO_f hc_1 h
    refine WC.skip ?_
    refine En.next ?_
    refine WC.seq ?_
    obtain ⟨x3_2, e3_2, h⟩ := bnd h
    obtain ⟨g3_2, o3_2, _, ha3_2, rfl, hd3_2⟩ := Rd.atIdx r0_0 e3_2
    replace hd3_2 : ∀ (j : Nat) v, ([.int .i64 x3_2.Clock, .int .i64 x3_2.W, .int .i64 x3_2.HFront, .int .i64 x3_2.HSync, .int .i64 x3_2.HBack, .int .i64 x3_2.H, .int .i64 x3_2.VFront, .int .i64 x3_2.VSync, .int .i64 x3_2.VBack] : List Value)[j]? = some v → w.cell? ⟨g3_2, o3_2 + (Int.toNat 0) * 9 + j, .none⟩ = some v := hd3_2
    refine WC.region ?_
    refine Lt.ofWL.step rfl rfl rfl (OpV.fieldAddr rfl fo_26_1) ?_
    refine Lt.ofWL.step rfl rfl rfl (OpV.loadBox rfl pt_24 (.tail _ (.head _)) rfl) ?_
    refine Lt.ofWL.step rfl rfl rfl (OpV.idxA rfl rfl se_24 ha3_2 ⟨(idx_some e3_2).1, (idx_some e3_2).2.1⟩) ?_
    refine Lt.ofWL.step rfl rfl rfl (OpV.loadN rfl ag_30 rfl (fun w hs => hs.cellsAt hd3_2)) ?_
    refine WL.heavy rfl rfl rfl (OpH.alloc zc_30 ?_)
    intro b3_4
    refine WL.heavy0 rfl rfl (OpH.storeTo (A := []) [_, _, _, _, _, _, _, _, _] rfl rfl rfl ts_30 rfl rfl rfl ?_)
    refine WL.nil ?_
    refine En.next ?_
    refine WC.seq ?_
    refine WC.seq ?_
    refine WC.region ?_
    refine Lt.ofWL.step rfl rfl rfl (OpV.fieldAddr rfl fo_26_1) ?_
    refine Lt.ofWL.step rfl rfl rfl (OpV.loadBox rfl pt_24 (.tail _ (.tail _ (.head _))) rfl) ?_
    refine Lt.ofWL.step rfl rfl rfl (OpV.len rfl si_24 rfl) ?_
    refine Lt.ofWL.step rfl rfl rfl (OpV.move rfl) ?_
    refine WL.nil ?_
    refine En.next ?_
    refine WC.block ?_
    obtain ⟨zy0, ezy0, h⟩ := bnd h
    refine WC.cut (X := (ModeT) × (Unit)) (.exit 0) (fun x => zy0 = .inl x.1) (fun x => match x with | (best_0e, ()) => [(6, .pointer (some ⟨b0_1, 0, .none⟩)), (8, .pointer (some ⟨b3_4, 0, .none⟩))]) (fun x => match x with | (best_0e, ()) => [Chunk.box b0_1 30 [.int .i64 0, .int .i64 0, .int .i64 0, .int .i64 0, .int .i64 0, .int .i64 0, .int .i64 0, .int .i64 0, .int .i64 0], Chunk.box b3_4 30 [.int .i64 best_0e.Clock, .int .i64 best_0e.W, .int .i64 best_0e.HFront, .int .i64 best_0e.HSync, .int .i64 best_0e.HBack, .int .i64 best_0e.H, .int .i64 best_0e.VFront, .int .i64 best_0e.VSync, .int .i64 best_0e.VBack]]) ?_ ?_
    ·
      rintro ⟨best_0e, ⟨⟩⟩ hx
      replace hx : .inl best_0e = zy0 := hx.symm
      subst hx
      replace h := fork_l h
      show En _ _ _ _ [(6, .pointer (some ⟨b0_1, 0, .none⟩)), (8, .pointer (some ⟨b3_4, 0, .none⟩))] [Chunk.box b0_1 30 [.int .i64 0, .int .i64 0, .int .i64 0, .int .i64 0, .int .i64 0, .int .i64 0, .int .i64 0, .int .i64 0, .int .i64 0], Chunk.box b3_4 30 [.int .i64 best_0e.Clock, .int .i64 best_0e.W, .int .i64 best_0e.HFront, .int .i64 best_0e.HSync, .int .i64 best_0e.HBack, .int .i64 best_0e.H, .int .i64 best_0e.VFront, .int .i64 best_0e.VSync, .int .i64 best_0e.VBack]]
      refine En.block_exit ?_
      refine En.next ?_
      refine WC.seq ?_
      refine WC.region ?_
      refine Lt.ofWL.step rfl rfl rfl (OpV.loadAll rfl (.tail _ (.head _)) ag_30) ?_
      refine WL.heavy0 rfl rfl (OpH.storeTo (A := []) [_, _, _, _, _, _, _, _, _] rfl rfl rfl ts_30 rfl rfl rfl ?_)
      refine Lt.ofWL.step rfl rfl rfl (OpV.assign rfl) ?_
      refine WL.nil ?_
      refine En.next ?_
      refine WC.ret ?_
      refine En.ret2 rfl (Res.cell rfl (.head _) ag_30) (Res.tmp rfl) ?_
      obtain rfl := Option.some.inj h
      intro w' hs
      exact ⟨rfl, hs.below⟩
    ·
      intro zK0_0
      refine WC.loopP (G := Unit) (fun s g => match s, g with | (best_0, v_0), () => [(1, .int .i64 w_p1), (2, .int .i64 h_p2), (6, .pointer (some ⟨b0_1, 0, .none⟩)), (8, .pointer (some ⟨b3_4, 0, .none⟩)), (20, .slice q0_0 m_p0.Modes.length k0_0), (21, .int .i64 (m_p0.Modes.length : Int)), (22, .int .i64 v_0)]) (fun s g => match s, g with | (best_0, v_0), () => [Chunk.box b0_1 30 [.int .i64 0, .int .i64 0, .int .i64 0, .int .i64 0, .int .i64 0, .int .i64 0, .int .i64 0, .int .i64 0, .int .i64 0], Chunk.box b3_4 30 [.int .i64 best_0.Clock, .int .i64 best_0.W, .int .i64 best_0.HFront, .int .i64 best_0.HSync, .int .i64 best_0.HBack, .int .i64 best_0.H, .int .i64 best_0.VFront, .int .i64 best_0.VSync, .int .i64 best_0.VBack]]) (x3_2, 0) () ezy0 (by exact Sub.cons rfl (Sub.cons rfl (Sub.cons rfl (Sub.cons rfl (Sub.cons rfl (Sub.cons rfl (Sub.cons rfl (Sub.nil _)))))))) (by exact (fun _ h => ((h).perm (List.perm_middle (l₁ := [_]))).sub (.cons_cons _ (.cons_cons _ (.cons _ (.slnil)))))) ?_
      rintro zm0 ⟨best_0, v_0⟩ ⟨⟩ zo0 zf0 zb0 ze0
      have zh0 : impl_ChooseMode_L0 m_p0 w_p1 h_p2 best_0 v_0 = some zo0 := zf0
      unfold impl_ChooseMode_L0 at zh0
      show WC _ _ _ _ _ [(1, .int .i64 w_p1), (2, .int .i64 h_p2), (6, .pointer (some ⟨b0_1, 0, .none⟩)), (8, .pointer (some ⟨b3_4, 0, .none⟩)), (20, .slice q0_0 m_p0.Modes.length k0_0), (21, .int .i64 (m_p0.Modes.length : Int)), (22, .int .i64 v_0)] [Chunk.box b0_1 30 [.int .i64 0, .int .i64 0, .int .i64 0, .int .i64 0, .int .i64 0, .int .i64 0, .int .i64 0, .int .i64 0, .int .i64 0], Chunk.box b3_4 30 [.int .i64 best_0.Clock, .int .i64 best_0.W, .int .i64 best_0.HFront, .int .i64 best_0.HSync, .int .i64 best_0.HBack, .int .i64 best_0.H, .int .i64 best_0.VFront, .int .i64 best_0.VSync, .int .i64 best_0.VBack]]
      refine WC.seq ?_
      refine WC.region ?_
      refine Lt.ofWL.step rfl rfl rfl (OpV.lss rfl rfl) ?_
      refine WL.nil ?_
      refine En.next ?_
      refine WC.seq ?_
      refine WC.cond rfl ?_ ?_
      ·
        intro hc_2
        replace zh0 := ifO_t hc_2 zh0
        refine WC.skip ?_
        refine En.next ?_
        refine WC.seq ?_
        refine WC.block ?_
        refine WC.seq ?_
        obtain ⟨x6_0, e6_0, zh0⟩ := bnd zh0
        obtain ⟨g6_0, o6_0, _, ha6_0, rfl, hd6_0⟩ := Rd.atIdx r0_0 e6_0
        replace hd6_0 : ∀ (j : Nat) v, ([.int .i64 x6_0.Clock, .int .i64 x6_0.W, .int .i64 x6_0.HFront, .int .i64 x6_0.HSync, .int .i64 x6_0.HBack, .int .i64 x6_0.H, .int .i64 x6_0.VFront, .int .i64 x6_0.VSync, .int .i64 x6_0.VBack] : List Value)[j]? = some v → w.cell? ⟨g6_0, o6_0 + v_0.toNat * 9 + j, .none⟩ = some v := hd6_0
        refine WC.region ?_
        refine Lt.ofWL.step rfl rfl rfl (OpV.idxA rfl rfl se_24 ha6_0 ⟨(idx_some e6_0).1, (idx_some e6_0).2.1⟩) ?_
        refine Lt.ofWL.step rfl rfl rfl (OpV.loadN rfl ag_30 rfl (fun w hs => hs.cellsAt hd6_0)) ?_
        refine WL.heavy rfl rfl rfl (OpH.alloc zc_30 ?_)
        intro b6_2
        refine WL.heavy0 rfl rfl (OpH.storeTo (A := []) [_, _, _, _, _, _, _, _, _] rfl rfl rfl ts_30 rfl rfl rfl ?_)
        refine WL.nil ?_
        refine En.next ?_
        refine WC.seq ?_
        refine WC.seq ?_
        refine WC.region ?_
        refine Lt.ofWL.step rfl rfl rfl (OpV.fieldAddr rfl fo_30_1) ?_
        refine Lt.ofWL.step rfl rfl rfl (OpV.loadBox rfl pt_3 (.head _) rfl) ?_
        refine Lt.ofWL.step rfl rfl rfl (OpV.move rfl) ?_
        refine Lt.ofWL.step rfl rfl rfl (OpV.eql rfl rfl) ?_
        refine Lt.ofWL.step rfl rfl rfl (OpV.move rfl) ?_
        refine Lt.ofWL.and 30 35 34 (p := ?pz1) (rest := ?qz1) (B := ?Bz1) rfl ?Tz1 ?Fz1 ?az1 ?bz1 ?cz1 ?dz1 ?ez1
        case Tz1 =>
          intro hcz1 hkz1
          refine Lt.ofWL.step rfl rfl rfl (OpV.fieldAddr rfl fo_30_5) ?_
          refine Lt.ofWL.step rfl rfl rfl (OpV.loadBox rfl pt_3 (.head _) rfl) ?_
          refine Lt.ofWL.step rfl rfl rfl (OpV.move rfl) ?_
          refine Lt.ofWL.step rfl rfl rfl (OpV.eql rfl rfl) ?_
          refine hkz1 _ ?_ ?_
          exact rfl
          repeat (first | exact Sub.refl _ | refine Sub.skip rfl ?_)
        case Fz1 =>
          intro hcz1 hkz1
          refine Lt.ofWL.skip rfl rfl rfl ?_
          refine Lt.ofWL.skip rfl rfl rfl ?_
          refine Lt.ofWL.skip rfl rfl rfl ?_
          refine Lt.ofWL.skip rfl rfl rfl ?_
          refine hkz1 _ ?_
          repeat (first | exact Sub.refl _ | refine Sub.skip rfl ?_)
        case az1 => exact rfl
        case bz1 => exact rfl
        case cz1 => exact rfl
        case dz1 => exact rfl
        refine WL.nil ?_
        refine En.next ?_
        refine WC.cond rfl ?_ ?_
        ·
          intro hc_3
          replace zh0 := ifO_t hc_3 zh0
          refine WC.seq ?_
          refine WC.region ?_
          refine Lt.ofWL.step rfl rfl rfl (OpV.loadAll rfl (.head _) ag_30) ?_
          refine WL.heavy0 rfl rfl (OpH.storeTo (A := [_]) [_, _, _, _, _, _, _, _, _] rfl rfl rfl ts_30 rfl rfl rfl ?_)
          refine Lt.ofWL.step rfl rfl rfl (OpV.assign rfl) ?_
          refine WL.nil ?_
          refine En.next ?_
          refine WC.ret ?_
          refine En.then_ret ?_
          refine En.block_ret ?_
          refine En.then_ret ?_
          refine En.then_ret ?_
          refine En.block_ret ?_
          refine En.then_ret ?_
          refine En.ret2 rfl (Res.cell rfl (.tail _ (.head _)) ag_30) (Res.tmp rfl) ?_
          have hx := exitP ze0 zh0
          subst hx
          replace h := fork_r h
          obtain rfl := Option.some.inj h
          intro w' hs
          exact ⟨rfl, hs.below⟩
        ·
          intro hc_3
          replace zh0 := ifO_f hc_3 zh0
          refine WC.skip ?_
          refine En.next ?_
          refine WC.seq ?_
          refine WC.region ?_
          refine Lt.ofWL.step rfl rfl rfl (OpV.fieldAddr rfl fo_30_1) ?_
          refine Lt.ofWL.step rfl rfl rfl (OpV.loadBox rfl pt_3 (.head _) rfl) ?_
          refine Lt.ofWL.step rfl rfl rfl (OpV.fieldAddr rfl fo_30_5) ?_
          refine Lt.ofWL.step rfl rfl rfl (OpV.loadBox rfl pt_3 (.head _) rfl) ?_
          refine Lt.ofWL.step rfl rfl rfl (OpV.mulR rfl rfl) ?_
          refine Lt.ofWL.step rfl rfl rfl (OpV.fieldAddr rfl fo_30_1) ?_
          refine Lt.ofWL.step rfl rfl rfl (OpV.loadBox rfl pt_3 (.tail _ (.tail _ (.head _))) rfl) ?_
          refine Lt.ofWL.step rfl rfl rfl (OpV.fieldAddr rfl fo_30_5) ?_
          refine Lt.ofWL.step rfl rfl rfl (OpV.loadBox rfl pt_3 (.tail _ (.tail _ (.head _))) rfl) ?_
          refine Lt.ofWL.step rfl rfl rfl (OpV.mulR rfl rfl) ?_
          refine Lt.ofWL.step rfl rfl rfl (OpV.gtr rfl rfl) ?_
          refine WL.nil ?_
          refine En.next ?_
          refine WC.cond rfl ?_ ?_
          ·
            intro hc_4
            replace zh0 := ifO_t hc_4 zh0
            refine WC.region ?_
            refine Lt.ofWL.step rfl rfl rfl (OpV.loadAll rfl (.head _) ag_30) ?_
            refine WL.heavy0 rfl rfl (OpH.storeTo (A := [_, _]) [_, _, _, _, _, _, _, _, _] rfl rfl rfl ts_30 rfl rfl rfl ?_)
            refine WL.nil ?_
            refine En.block_norm ?_
            refine En.next ?_
            refine WC.region ?_
            refine Lt.ofWL.step rfl rfl rfl (OpV.addR rfl rfl) ?_
            refine Lt.ofWL.step rfl rfl rfl (OpV.move rfl) ?_
            refine WL.nil ?_
            exact En.backP zb0 zh0 () (Sub.cons rfl (Sub.cons rfl (Sub.cons rfl (Sub.cons rfl (Sub.cons rfl (Sub.cons rfl (Sub.cons rfl (Sub.nil _)))))))) (fun _ h => (((h).perm (List.perm_middle (l₁ := [_, _]))).perm (List.perm_middle (l₁ := [_, _]))).sub (.cons_cons _ (.cons_cons _ (.cons _ (.slnil)))))
          ·
            intro hc_4
            replace zh0 := ifO_f hc_4 zh0
            refine WC.skip ?_
            refine En.block_norm ?_
            refine En.next ?_
            refine WC.region ?_
            refine Lt.ofWL.step rfl rfl rfl (OpV.addR rfl rfl) ?_
            refine Lt.ofWL.step rfl rfl rfl (OpV.move rfl) ?_
            refine WL.nil ?_
            exact En.backP zb0 zh0 () (Sub.cons rfl (Sub.cons rfl (Sub.cons rfl (Sub.cons rfl (Sub.cons rfl (Sub.cons rfl (Sub.cons rfl (Sub.nil _)))))))) (fun _ h => (((h).perm (List.perm_middle (l₁ := [_, _]))).perm (List.perm_middle (l₁ := [_, _]))).sub (.cons_cons _ (.cons_cons _ (.cons _ (.slnil)))))
      ·
        intro hc_2
        replace zh0 := ifO_f hc_2 zh0
        refine WC.exit ?_
        refine En.then_exit ?_
        refine En.then_exit ?_
        have hx := exitP ze0 zh0
        exact En.wk _ _ (Sub.cons rfl (Sub.cons rfl (Sub.nil _))) (fun _ h => h) (zK0_0 (best_0, ()) hx.symm)

theorem w_laws_FnExactChooseMode {aM_p0 : MonitorT} {aW_p1 : Int} {aH_p2 : Int} {r : Bool} {q0_0 : Option Addr} {n0_0 k0_0 : Nat} (h : laws_FnExactChooseMode aM_p0 aW_p1 aH_p2 = some r) {w : World} (r0_0 : Rd tMode w q0_0 n0_0 k0_0 aM_p0.Modes)  :
    Calls Try.prog 7 #[.agg #[.string aM_p0.Name, .slice q0_0 n0_0 k0_0, .int .i64 aM_p0.Stretch], .int .i64 aW_p1, .int .i64 aH_p2] w (fun en w' => en = .returned (.bool r) ∧ Ext w w') := by
  obtain rfl := r0_0.1
  unfold laws_FnExactChooseMode at h
  refine enter (vs := [_, _, _]) Try.func7 rfl rfl rfl rfl ?_
  refine WC.seq ?_
  refine WC.region ?_
  refine WL.heavy rfl rfl rfl (OpH.box rfl rfl ?_)
  intro b0_0
  refine Lt.ofWL.step rfl rfl rfl (OpV.assign rfl) ?_
  refine WL.nil ?_
  refine En.next ?_
  refine WC.seq ?_
  refine WC.region ?_
  refine Lt.ofWL.step rfl rfl rfl (OpV.assign rfl) ?_
  refine WL.nil ?_
  refine En.next ?_
  refine WC.seq ?_
  obtain ⟨x2_2, e2_2, h⟩ := bnd h
  refine WC.region ?_
  refine Lt.ofWL.step rfl rfl rfl (OpV.loadAll rfl (.head _) ag_41) ?_
  refine Lt.ofWL.step rfl rfl rfl (OpV.move rfl) ?_
  refine Lt.ofWL.step rfl rfl rfl (OpV.call (evs.cons rfl (evs.cons rfl (evs.nil))) ca_23 (fun w hs => w_laws_szMonitor e2_2 (r0_0.ext hs.below))) ?_
  refine Lt.ofWL.step rfl rfl rfl (OpV.assign rfl) ?_
  refine WL.nil ?_
  refine En.next ?_
  refine WC.seq ?_
  refine WC.seq ?_
  refine WC.region ?_
  refine Lt.ofWL.step rfl rfl rfl (OpV.move rfl) ?_
  refine Lt.ofWL.step rfl rfl rfl (OpV.lss rfl rfl) ?_
  refine WL.nil ?_
  refine En.next ?_
  refine WC.cond rfl ?_ ?_
  ·
    intro hc_1
    replace h := ifO_t hc_1 h
    refine WC.seq ?_
    refine WC.region ?_
    refine Lt.ofWL.step rfl rfl rfl (OpV.assign rfl) ?_
    refine WL.nil ?_
    refine En.next ?_
    refine WC.ret ?_
    refine En.then_ret ?_
    refine En.ret1 rfl (Res.tmp rfl) ?_
    obtain rfl := Option.some.inj h
    intro w' hs
    exact ⟨rfl, hs.below⟩
  ·
    intro hc_1
    replace h := ifO_f hc_1 h
    refine WC.skip ?_
    refine En.next ?_
    refine WC.seq ?_
    obtain ⟨x5_1, e5_1, h⟩ := bnd h
    obtain ⟨⟨x5_4a, x5_4b⟩, e5_4, h⟩ := bnd h
    refine WC.region ?_
    refine Lt.ofWL.step rfl rfl rfl (OpV.loadAll rfl (.head _) ag_41) ?_
    refine WL.heavy rfl rfl rfl (OpH.callR (evs.cons rfl (evs.nil)) ca_25 (fun w hs => w_laws_toMonitor e5_1 (r0_0.ext hs.below)) ?_)
    rintro _ _ ⟨a5_100, n5_100, c5_100, f5_100, rfl, rfl⟩
    refine Lt.ofWL.step rfl rfl rfl (OpV.move rfl) ?_
    refine Lt.ofWL.step rfl rfl rfl (OpV.move rfl) ?_
    refine Lt.ofWL.step rfl rfl rfl (OpV.call (evs.cons rfl (evs.cons rfl (evs.cons rfl (evs.nil)))) ca_32 (fun w hs => w_spec_ChooseMode e5_4 (Ow.rd (hs.mem (.head _))))) ?_
    refine Lt.ofWL.step rfl rfl rfl (OpV.move rfl) ?_
    refine Lt.ofWL.step rfl rfl rfl (OpV.extract rfl rfl) ?_
    refine Lt.ofWL.step rfl rfl rfl (OpV.extract rfl rfl) ?_
    refine WL.heavy rfl rfl rfl (OpH.alloc zc_30 ?_)
    intro b5_8
    refine WL.heavy0 rfl rfl (OpH.storeTo (A := []) [_, _, _, _, _, _, _, _, _] rfl rfl rfl ts_30 rfl rfl rfl ?_)
    refine Lt.ofWL.step rfl rfl rfl (OpV.assign rfl) ?_
    refine WL.nil ?_
    refine En.next ?_
    refine WC.seq ?_
    obtain ⟨x6_1, e6_1, h⟩ := bnd h
    refine WC.region ?_
    refine Lt.ofWL.step rfl rfl rfl (OpV.loadAll rfl (.tail _ (.tail _ (.head _))) ag_41) ?_
    refine WL.heavy rfl rfl rfl (OpH.callR (evs.cons rfl (evs.nil)) ca_25 (fun w hs => w_laws_toMonitor e6_1 (r0_0.ext hs.below)) ?_)
    rintro _ _ ⟨a6_100, n6_100, c6_100, f6_100, rfl, rfl⟩
    refine WL.heavy rfl rfl rfl (OpH.alloc zc_26 ?_)
    intro b6_2
    refine WL.heavy0 rfl rfl (OpH.storeTo (A := []) [_, _, _] rfl rfl rfl ts_26 rfl rfl rfl ?_)
    refine WL.nil ?_
    refine En.next ?_
    refine WC.seq ?_
    obtain ⟨⟨x7_3a, x7_3b⟩, e7_3, h⟩ := bnd h
    refine WC.region ?_
    refine Lt.ofWL.step rfl rfl rfl (OpV.loadAll rfl (.head _) ag_26) ?_
    refine Lt.ofWL.step rfl rfl rfl (OpV.move rfl) ?_
    refine Lt.ofWL.step rfl rfl rfl (OpV.move rfl) ?_
    refine Lt.ofWL.step rfl rfl rfl (OpV.call (evs.cons rfl (evs.cons rfl (evs.cons rfl (evs.nil)))) ca_18 (fun w hs => w_impl_ChooseMode e7_3 (Ow.rd (hs.mem (.tail _ (.head _)))))) ?_
    refine Lt.ofWL.step rfl rfl rfl (OpV.move rfl) ?_
    refine Lt.ofWL.step rfl rfl rfl (OpV.extract rfl rfl) ?_
    refine Lt.ofWL.step rfl rfl rfl (OpV.extract rfl rfl) ?_
    refine WL.heavy rfl rfl rfl (OpH.alloc zc_30 ?_)
    intro b7_7
    refine WL.heavy0 rfl rfl (OpH.storeTo (A := []) [_, _, _, _, _, _, _, _, _] rfl rfl rfl ts_30 rfl rfl rfl ?_)
    refine Lt.ofWL.step rfl rfl rfl (OpV.assign rfl) ?_
    refine WL.nil ?_
    refine En.next ?_
    refine WC.seq ?_
    refine WC.seq ?_
    obtain ⟨x8_2, e8_2, h⟩ := bnd h
    refine WC.region ?_
    refine Lt.ofWL.step rfl rfl rfl (OpV.loadAll rfl (.head _) ag_30) ?_
    refine Lt.ofWL.step rfl rfl rfl (OpV.loadAll rfl (.tail _ (.tail _ (.tail _ (.head _)))) ag_30) ?_
    refine Lt.ofWL.step rfl rfl rfl (OpV.call (evs.cons rfl (evs.cons rfl (evs.nil))) ca_33 (fun w hs => w_laws_eqMode e8_2)) ?_
    refine Lt.ofWL.step rfl rfl rfl (OpV.not rfl) ?_
    refine Lt.ofWL.step rfl rfl rfl (OpV.move rfl) ?_
    refine Lt.ofWL.or 39 43 42 (p := ?pz1) (rest := ?qz1) (B := ?Bz1) rfl ?Tz1 ?Fz1 ?az1 ?bz1 ?cz1 ?dz1 ?ez1
    case Tz1 =>
      intro hcz1 hkz1
      refine Lt.ofWL.skip rfl rfl rfl ?_
      refine Lt.ofWL.skip rfl rfl rfl ?_
      refine Lt.ofWL.skip rfl rfl rfl ?_
      refine hkz1 _ ?_
      repeat (first | exact Sub.refl _ | refine Sub.skip rfl ?_)
    case Fz1 =>
      intro hcz1 hkz1
      refine Lt.ofWL.step rfl rfl rfl (OpV.move rfl) ?_
      refine Lt.ofWL.step rfl rfl rfl (OpV.move rfl) ?_
      refine Lt.ofWL.step rfl rfl rfl (OpV.bneq rfl rfl ub_4) ?_
      refine hkz1 _ ?_ ?_
      exact rfl
      repeat (first | exact Sub.refl _ | refine Sub.skip rfl ?_)
    case az1 => exact rfl
    case bz1 => exact rfl
    case cz1 => exact rfl
    case dz1 => exact rfl
    refine WL.nil ?_
    refine En.next ?_
    refine WC.cond rfl ?_ ?_
    ·
      intro hc_2
      replace h := ifO_t hc_2 h
      refine WC.seq ?_
      refine WC.region ?_
      refine Lt.ofWL.step rfl rfl rfl (OpV.assign rfl) ?_
      refine WL.nil ?_
      refine En.next ?_
      refine WC.ret ?_
      refine En.then_ret ?_
      refine En.ret1 rfl (Res.tmp rfl) ?_
      obtain rfl := Option.some.inj h
      intro w' hs
      exact ⟨rfl, hs.below⟩
    ·
      intro hc_2
      replace h := ifO_f hc_2 h
      refine WC.skip ?_
      refine En.next ?_
      refine WC.seq ?_
      refine WC.seq ?_
      obtain ⟨x10_2, e10_2, h⟩ := bnd h
      obtain ⟨x10_3, e10_3, h⟩ := bnd h
      refine WC.drawnH [] ([_, _, _, _, _, _]) (fun _ h => h) (by kernel_rfl) ?_
      refine WAE.take (i := 0) rfl (by kernel_rfl) (by kernel_rfl) (by kernel_rfl) rfl rfl rfl (OpV.loadAll rfl (.tail _ (.head _)) ag_26) ?_
      refine WAE.take (i := 1) rfl (by kernel_rfl) (by kernel_rfl) (by kernel_rfl) rfl rfl rfl (OpV.loadAll rfl (.tail _ (.tail _ (.tail _ (.tail _ (.tail _ (.head _)))))) ag_41) ?_
      refine WAE.all (rs := [2]) (by kernel_rfl) rfl (AllR.cons rfl rfl rfl rfl ?_ AllR.nil)
      refine OpH.callR (evs.cons rfl (evs.nil)) ca_25 (fun w hs => w_laws_toMonitor e10_2 (r0_0.ext hs.below)) ?_
      rintro _ _ ⟨a10_200, n10_200, c10_200, f10_200, rfl, rfl⟩
      refine ⟨[_], rfl, ?_⟩
      refine WAE.rebase (H := []) ?_
      refine WAE.take (i := 3) rfl (by kernel_rfl) (by kernel_rfl) (by kernel_rfl) rfl rfl rfl (OpV.call (evs.cons rfl (evs.cons rfl (evs.nil))) ca_26 (fun w hs => w_laws_eqMonitor e10_3 (Ow.rd (hs.mem (.tail _ (.tail _ (.tail _ (.head _)))))) (Ow.rd (hs.mem (.head _))))) ?_
      refine WAE.take (i := 4) rfl (by kernel_rfl) (by kernel_rfl) (by kernel_rfl) rfl rfl rfl (OpV.not rfl) ?_
      refine WAE.done (by kernel_rfl) ?_ _
      refine En.next ?_
      refine WC.cond rfl ?_ ?_
      ·
        intro hc_3
        replace h := ifO_t hc_3 h
        refine WC.seq ?_
        refine WC.region ?_
        refine Lt.ofWL.step rfl rfl rfl (OpV.assign rfl) ?_
        refine WL.nil ?_
        refine En.next ?_
        refine WC.ret ?_
        refine En.then_ret ?_
        refine En.ret1 rfl (Res.tmp rfl) ?_
        obtain rfl := Option.some.inj h
        intro w' hs
        exact ⟨rfl, hs.below⟩
      ·
        intro hc_3
        replace h := ifO_f hc_3 h
        refine WC.skip ?_
        refine En.next ?_
        refine WC.seq ?_
        refine WC.region ?_
        refine Lt.ofWL.step rfl rfl rfl (OpV.assign rfl) ?_
        refine WL.nil ?_
        refine En.next ?_
        refine WC.ret ?_
        refine En.ret1 rfl (Res.tmp rfl) ?_
        obtain rfl := Option.some.inj h
        intro w' hs
        exact ⟨rfl, hs.below⟩

theorem w_laws_szIntS {a_p0 : List Int} {left_p1 : Int} {r : Int} {q0_0 : Option Addr} {n0_0 k0_0 : Nat} (h : laws_szIntS a_p0 left_p1 = some r) {w : World} (r0_0 : Rd tInt w q0_0 n0_0 k0_0 a_p0)  :
    Calls Try.prog 98 #[.slice q0_0 n0_0 k0_0, .int .i64 left_p1] w (fun en w' => en = .returned (.int .i64 r) ∧ Ext w w') := by
  obtain rfl := r0_0.1
  unfold laws_szIntS at h
  refine enter (vs := [_, _]) Try.func98 rfl rfl rfl rfl ?_
  refine WC.seq ?_
  refine WC.region ?_
  refine Lt.ofWL.step rfl rfl rfl (OpV.assign rfl) ?_
  refine WL.nil ?_
  refine En.next ?_
  refine WC.seq ?_
  refine WC.region ?_
  refine Lt.ofWL.step rfl rfl rfl (OpV.move rfl) ?_
  refine Lt.ofWL.step rfl rfl rfl (OpV.move rfl) ?_
  refine Lt.ofWL.step rfl rfl rfl (OpV.len rfl si_46 rfl) ?_
  refine Lt.ofWL.step rfl rfl rfl (OpV.subR rfl rfl) ?_
  refine Lt.ofWL.step rfl rfl rfl (OpV.assign rfl) ?_
  refine WL.nil ?_
  refine En.next ?_
  refine WC.seq ?_
  refine WC.seq ?_
  refine WC.region ?_
  refine Lt.ofWL.step rfl rfl rfl (OpV.move rfl) ?_
  refine Lt.ofWL.step rfl rfl rfl (OpV.lss rfl rfl) ?_
  refine WL.nil ?_
  refine En.next ?_
  refine WC.cond rfl ?_ ?_
  ·
    intro hc_1
    replace h := ifO_t hc_1 h
    refine WC.seq ?_
    refine WC.region ?_
    refine Lt.ofWL.step rfl rfl rfl (OpV.assign rfl) ?_
    refine WL.nil ?_
    refine En.next ?_
    refine WC.ret ?_
    refine En.then_ret ?_
    refine En.ret1 rfl (Res.tmp rfl) ?_
    obtain rfl := Option.some.inj h
    intro w' hs
    exact ⟨rfl, hs.below⟩
  ·
    intro hc_1
    replace h := ifO_f hc_1 h
    refine WC.skip ?_
    refine En.next ?_
    refine WC.seq ?_
    refine WC.region ?_
    refine Lt.ofWL.step rfl rfl rfl (OpV.move rfl) ?_
    refine Lt.ofWL.step rfl rfl rfl (OpV.assign rfl) ?_
    refine WL.nil ?_
    refine En.next ?_
    refine WC.ret ?_
    refine En.ret1 rfl (Res.tmp rfl) ?_
    obtain rfl := Option.some.inj h
    intro w' hs
    exact ⟨rfl, hs.below⟩

theorem w_laws_szImage {a_p0 : ImageT} {left_p1 : Int} {r : Int} {q0_0 : Option Addr} {n0_0 k0_0 : Nat} (h : laws_szImage a_p0 left_p1 = some r) {w : World} (r0_0 : Rd tInt w q0_0 n0_0 k0_0 a_p0.Data)  :
    Calls Try.prog 45 #[.agg #[.int .i64 a_p0.W, .int .i64 a_p0.H, .slice q0_0 n0_0 k0_0], .int .i64 left_p1] w (fun en w' => en = .returned (.int .i64 r) ∧ Ext w w') := by
  obtain rfl := r0_0.1
  unfold laws_szImage at h
  refine enter (vs := [_, _]) Try.func45 rfl rfl rfl rfl ?_
  refine WC.seq ?_
  refine WC.region ?_
  refine WL.heavy rfl rfl rfl (OpH.box rfl rfl ?_)
  intro b0_0
  refine Lt.ofWL.step rfl rfl rfl (OpV.assign rfl) ?_
  refine WL.nil ?_
  refine En.next ?_
  refine WC.seq ?_
  obtain ⟨x1_3, e1_3, h⟩ := bnd h
  refine WC.region ?_
  refine Lt.ofWL.step rfl rfl rfl (OpV.fieldAddr rfl fo_48_2) ?_
  refine Lt.ofWL.step rfl rfl rfl (OpV.loadBox rfl pt_46 (.head _) rfl) ?_
  refine Lt.ofWL.step rfl rfl rfl (OpV.move rfl) ?_
  refine Lt.ofWL.step rfl rfl rfl (OpV.call (evs.cons rfl (evs.cons rfl (evs.nil))) ca_98 (fun w hs => w_laws_szIntS e1_3 (r0_0.ext hs.below))) ?_
  refine Lt.ofWL.step rfl rfl rfl (OpV.assign rfl) ?_
  refine WL.nil ?_
  refine En.next ?_
  refine WC.seq ?_
  refine WC.seq ?_
  refine WC.region ?_
  refine Lt.ofWL.step rfl rfl rfl (OpV.move rfl) ?_
  refine Lt.ofWL.step rfl rfl rfl (OpV.lss rfl rfl) ?_
  refine WL.nil ?_
  refine En.next ?_
  refine WC.cond rfl ?_ ?_
  ·
    intro hc_1
    replace h := ifO_t hc_1 h
    refine WC.seq ?_
    refine WC.region ?_
    refine Lt.ofWL.step rfl rfl rfl (OpV.assign rfl) ?_
    refine WL.nil ?_
    refine En.next ?_
    refine WC.ret ?_
    refine En.then_ret ?_
    refine En.ret1 rfl (Res.tmp rfl) ?_
    obtain rfl := Option.some.inj h
    intro w' hs
    exact ⟨rfl, hs.below⟩
  ·
    intro hc_1
    replace h := ifO_f hc_1 h
    refine WC.skip ?_
    refine En.next ?_
    refine WC.seq ?_
    refine WC.region ?_
    refine Lt.ofWL.step rfl rfl rfl (OpV.move rfl) ?_
    refine Lt.ofWL.step rfl rfl rfl (OpV.assign rfl) ?_
    refine WL.nil ?_
    refine En.next ?_
    refine WC.ret ?_
    refine En.ret1 rfl (Res.tmp rfl) ?_
    obtain rfl := Option.some.inj h
    intro w' hs
    exact ⟨rfl, hs.below⟩

theorem w_laws_szSurface {a_p0 : SurfaceT} {left_p1 : Int} {r : Int} {q0_0 : Option Addr} {n0_0 k0_0 : Nat} (h : laws_szSurface a_p0 left_p1 = some r) {w : World} (r0_0 : Rd tInt w q0_0 n0_0 k0_0 a_p0.Buffer.Data)  :
    Calls Try.prog 27 #[.agg #[.int .i64 a_p0.Id, .int .i64 a_p0.X, .int .i64 a_p0.Y, .int .i64 a_p0.W, .int .i64 a_p0.H, .int .i64 a_p0.Alpha, .int .i64 a_p0.Orient, .bool a_p0.Visible, .int .i64 a_p0.Buffer.W, .int .i64 a_p0.Buffer.H, .slice q0_0 n0_0 k0_0], .int .i64 left_p1] w (fun en w' => en = .returned (.int .i64 r) ∧ Ext w w') := by
  obtain rfl := r0_0.1
  unfold laws_szSurface at h
  refine enter (vs := [_, _]) Try.func27 rfl rfl rfl rfl ?_
  refine WC.seq ?_
  refine WC.region ?_
  refine WL.heavy rfl rfl rfl (OpH.box rfl rfl ?_)
  intro b0_0
  refine Lt.ofWL.step rfl rfl rfl (OpV.assign rfl) ?_
  refine WL.nil ?_
  refine En.next ?_
  refine WC.seq ?_
  obtain ⟨x1_3, e1_3, h⟩ := bnd h
  refine WC.region ?_
  refine Lt.ofWL.step rfl rfl rfl (OpV.fieldAddr rfl fo_50_8) ?_
  refine Lt.ofWL.step rfl rfl rfl (OpV.loadPart rfl (.head _) ag_48 rfl rfl) ?_
  refine Lt.ofWL.step rfl rfl rfl (OpV.move rfl) ?_
  refine Lt.ofWL.step rfl rfl rfl (OpV.call (evs.cons rfl (evs.cons rfl (evs.nil))) ca_45 (fun w hs => w_laws_szImage e1_3 (r0_0.ext hs.below))) ?_
  refine Lt.ofWL.step rfl rfl rfl (OpV.assign rfl) ?_
  refine WL.nil ?_
  refine En.next ?_
  refine WC.seq ?_
  refine WC.seq ?_
  refine WC.region ?_
  refine Lt.ofWL.step rfl rfl rfl (OpV.move rfl) ?_
  refine Lt.ofWL.step rfl rfl rfl (OpV.lss rfl rfl) ?_
  refine WL.nil ?_
  refine En.next ?_
  refine WC.cond rfl ?_ ?_
  ·
    intro hc_1
    replace h := ifO_t hc_1 h
    refine WC.seq ?_
    refine WC.region ?_
    refine Lt.ofWL.step rfl rfl rfl (OpV.assign rfl) ?_
    refine WL.nil ?_
    refine En.next ?_
    refine WC.ret ?_
    refine En.then_ret ?_
    refine En.ret1 rfl (Res.tmp rfl) ?_
    obtain rfl := Option.some.inj h
    intro w' hs
    exact ⟨rfl, hs.below⟩
  ·
    intro hc_1
    replace h := ifO_f hc_1 h
    refine WC.skip ?_
    refine En.next ?_
    refine WC.seq ?_
    refine WC.region ?_
    refine Lt.ofWL.step rfl rfl rfl (OpV.move rfl) ?_
    refine Lt.ofWL.step rfl rfl rfl (OpV.assign rfl) ?_
    refine WL.nil ?_
    refine En.next ?_
    refine WC.ret ?_
    refine En.ret1 rfl (Res.tmp rfl) ?_
    obtain rfl := Option.some.inj h
    intro w' hs
    exact ⟨rfl, hs.below⟩

theorem w_laws_toIntS {a_p0 : List Int} {r : (List Int)} {q0_0 : Option Addr} {n0_0 k0_0 : Nat} (h : laws_toIntS a_p0 = some r) {w : World} (r0_0 : Rd tInt w q0_0 n0_0 k0_0 a_p0)  :
    Calls Try.prog 100 #[.slice q0_0 n0_0 k0_0] w (fun en w' => ∃ rv G, en = .returned rv ∧ (∃ (a0_0 : Option Addr) (n0_0 : Nat) (c0_0 : Nat) (f0_0 : List Nat), rv = .slice a0_0 n0_0 c0_0 ∧ G = [Chunk.own tInt f0_0 a0_0 n0_0 c0_0 r]) ∧ St w G w') := by
  obtain rfl := r0_0.1
  unfold laws_toIntS at h
  refine enter (vs := [_]) Try.func100 rfl rfl rfl rfl ?_
  refine WC.seq ?_
  refine WC.region ?_
  refine Lt.ofWL.step rfl rfl rfl (OpV.assign rfl) ?_
  refine WL.nil ?_
  refine En.next ?_
  refine WC.seq ?_
  obtain ⟨x1_2, e1_2, h⟩ := bnd h
  refine WC.region ?_
  refine Lt.ofWL.step rfl rfl rfl (OpV.move rfl) ?_
  refine Lt.ofWL.step rfl rfl rfl (OpV.len rfl si_46 rfl) ?_
  refine WL.heavy rfl rfl rfl (OpH.makeO (A := tInt) rfl rfl mi_46 (fun w => tInt_flat.ow w 0) (by decide) e1_2 ⟨Int.le_refl _, (mkO_some e1_2).1.2⟩ ?_)
  intro b1_2
  refine Lt.ofWL.step rfl rfl rfl (OpV.assign rfl) ?_
  refine WL.nil ?_
  refine En.next ?_
  refine WC.seq ?_
  refine WC.seq ?_
  refine WC.region ?_
  refine Lt.ofWL.step rfl rfl rfl (OpV.assign rfl) ?_
  refine WL.nil ?_
  refine En.next ?_
  refine WC.block ?_
  obtain ⟨zy0, ezy0, h⟩ := bnd h
  refine WC.cut (X := ((List Int)) × ((List Nat))) (.exit 0) (fun x => zy0 = x.1) (fun x => match x with | (out_0e, fout_0e) => [(3, .slice (some ⟨b1_2, 0, .none⟩) x1_2.length ((a_p0.length : Int).toNat))]) (fun x => match x with | (out_0e, fout_0e) => [Chunk.own tInt fout_0e (some ⟨b1_2, 0, .none⟩) x1_2.length ((a_p0.length : Int).toNat) out_0e]) ?_ ?_
  ·
    rintro ⟨out_0e, fout_0e⟩ hx
    replace hx : out_0e = zy0 := hx.symm
    subst hx
    show En _ _ _ _ [(3, .slice (some ⟨b1_2, 0, .none⟩) x1_2.length ((a_p0.length : Int).toNat))] [Chunk.own tInt fout_0e (some ⟨b1_2, 0, .none⟩) x1_2.length ((a_p0.length : Int).toNat) out_0e]
    refine En.block_exit ?_
    refine En.next ?_
    refine WC.seq ?_
    refine WC.region ?_
    refine Lt.ofWL.step rfl rfl rfl (OpV.move rfl) ?_
    refine Lt.ofWL.step rfl rfl rfl (OpV.assign rfl) ?_
    refine WL.nil ?_
    refine En.next ?_
    refine WC.ret ?_
    refine En.ret1 rfl (Res.tmp rfl) ?_
    obtain rfl := Option.some.inj h
    intro w' hs
    have hs := hs
    exact ⟨_, _, rfl, ⟨(some ⟨b1_2, 0, .none⟩), x1_2.length, ((a_p0.length : Int).toNat), fout_0e, rfl, rfl⟩, hs⟩
  ·
    intro zK0_0
    refine WC.loopP (G := (List Nat)) (fun s g => match s, g with | (out_0, i_0), fout_0 => [(0, .slice q0_0 a_p0.length k0_0), (3, .slice (some ⟨b1_2, 0, .none⟩) x1_2.length ((a_p0.length : Int).toNat)), (4, .int .i64 i_0)]) (fun s g => match s, g with | (out_0, i_0), fout_0 => [Chunk.own tInt fout_0 (some ⟨b1_2, 0, .none⟩) x1_2.length ((a_p0.length : Int).toNat) out_0]) (x1_2, 0) [b1_2] ezy0 (by exact Sub.cons rfl (Sub.cons rfl (Sub.cons rfl (Sub.nil _)))) (by exact (fun _ h => h)) ?_
    rintro zm0 ⟨out_0, i_0⟩ fout_0 zo0 zf0 zb0 ze0
    have zh0 : laws_toIntS_L0 a_p0 out_0 i_0 = some zo0 := zf0
    unfold laws_toIntS_L0 at zh0
    show WC _ _ _ _ _ [(0, .slice q0_0 a_p0.length k0_0), (3, .slice (some ⟨b1_2, 0, .none⟩) x1_2.length ((a_p0.length : Int).toNat)), (4, .int .i64 i_0)] [Chunk.own tInt fout_0 (some ⟨b1_2, 0, .none⟩) x1_2.length ((a_p0.length : Int).toNat) out_0]
    refine WC.seq ?_
    refine WC.seq ?_
    refine WC.region ?_
    refine Lt.ofWL.step rfl rfl rfl (OpV.move rfl) ?_
    refine Lt.ofWL.step rfl rfl rfl (OpV.move rfl) ?_
    refine Lt.ofWL.step rfl rfl rfl (OpV.len rfl si_46 rfl) ?_
    refine Lt.ofWL.step rfl rfl rfl (OpV.lss rfl rfl) ?_
    refine WL.nil ?_
    refine En.next ?_
    refine WC.cond rfl ?_ ?_
    ·
      intro hc_1
      replace zh0 := ifO_t hc_1 zh0
      refine WC.skip ?_
      refine En.next ?_
      refine WC.seq ?_
      refine WC.block ?_
      refine WC.inh fun hin5 => ?_
      obtain ⟨x5_4, e5_4, zh0⟩ := bnd zh0
      obtain ⟨g5_4, o5_4, _, ha5_4, rfl, hd5_4⟩ := Rd.atIdx r0_0 e5_4
      replace hd5_4 : ∀ (j : Nat) v, ([.int .i64 x5_4] : List Value)[j]? = some v → w.cell? ⟨g5_4, o5_4 + i_0.toNat * 1 + j, .none⟩ = some v := hd5_4
      have hn5_6 := ownLen hin5 (.head _)
      obtain ⟨x5_7, e5_7, zh0⟩ := bnd zh0
      obtain ⟨g5_6, ha5_6⟩ := ownAddrU hin5 (.head _) e5_7
      refine WC.region ?_
      refine Lt.ofWL.step rfl rfl rfl (OpV.move rfl) ?_
      refine Lt.ofWL.step rfl rfl rfl (OpV.move rfl) ?_
      refine Lt.ofWL.step rfl rfl rfl (OpV.move rfl) ?_
      refine Lt.ofWL.step rfl rfl rfl (OpV.move rfl) ?_
      refine Lt.ofWL.step rfl rfl rfl (OpV.idxA rfl rfl se_46 ha5_4 ⟨(idx_some e5_4).1, (idx_some e5_4).2.1⟩) ?_
      refine Lt.ofWL.step rfl rfl rfl (OpV.load1 rfl pt_3 (fun w hs => hs.cell (hd5_4 0 _ rfl))) ?_
      refine Lt.ofWL.step rfl rfl rfl (OpV.idxA rfl rfl se_46 ha5_6 ⟨(upd_some e5_7).1.1, by rw [hn5_6]; exact (upd_some e5_7).1.2⟩) ?_
      refine WL.wkF (fun _ h => St.elFlat tInt_flat x5_4 h) ?_
      refine WL.heavy0 rfl rfl (OpH.setEl (A := tInt) ha5_6 rfl rfl rfl ts_3 e5_7 ?_)
      intro f5_7
      refine WL.nil ?_
      refine En.block_norm ?_
      refine En.next ?_
      refine WC.region ?_
      refine Lt.ofWL.step rfl rfl rfl (OpV.move rfl) ?_
      refine Lt.ofWL.step rfl rfl rfl (OpV.addR rfl rfl) ?_
      refine Lt.ofWL.step rfl rfl rfl (OpV.assign rfl) ?_
      refine WL.nil ?_
      exact En.backP zb0 zh0 f5_7 (Sub.cons rfl (Sub.cons rfl (Sub.cons rfl (Sub.nil _)))) (fun _ h => h)
    ·
      intro hc_1
      replace zh0 := ifO_f hc_1 zh0
      refine WC.exit ?_
      refine En.then_exit ?_
      refine En.then_exit ?_
      have hx := exitP ze0 zh0
      exact En.wk _ _ (Sub.cons rfl (Sub.nil _)) (fun _ h => h) (zK0_0 (out_0, fout_0) hx.symm)

theorem w_laws_toImage {a_p0 : ImageT} {r : ImageT} {q0_0 : Option Addr} {n0_0 k0_0 : Nat} (h : laws_toImage a_p0 = some r) {w : World} (r0_0 : Rd tInt w q0_0 n0_0 k0_0 a_p0.Data)  :
    Calls Try.prog 47 #[.agg #[.int .i64 a_p0.W, .int .i64 a_p0.H, .slice q0_0 n0_0 k0_0]] w (fun en w' => ∃ rv G, en = .returned rv ∧ (∃ (a0_0 : Option Addr) (n0_0 : Nat) (c0_0 : Nat) (f0_0 : List Nat), rv = .agg #[.int .i64 r.W, .int .i64 r.H, .slice a0_0 n0_0 c0_0] ∧ G = [Chunk.own tInt f0_0 a0_0 n0_0 c0_0 r.Data]) ∧ St w G w') := by
  obtain rfl := r0_0.1
  unfold laws_toImage at h
  refine enter (vs := [_]) Try.func47 rfl rfl rfl rfl ?_
  refine WC.seq ?_
  refine WC.region ?_
  refine WL.heavy rfl rfl rfl (OpH.box rfl rfl ?_)
  intro b0_0
  refine WL.heavy rfl rfl rfl (OpH.alloc zc_53 ?_)
  intro b0_1
  refine WL.nil ?_
  refine En.next ?_
  refine WC.seq ?_
  refine WC.region ?_
  refine WL.heavy rfl rfl rfl (OpH.alloc zc_53 ?_)
  intro b1_0
  refine WL.nil ?_
  refine En.next ?_
  refine WC.seq ?_
  refine WC.region ?_
  refine Lt.ofWL.step rfl rfl rfl (OpV.fieldAddr rfl fo_48_0) ?_
  refine Lt.ofWL.step rfl rfl rfl (OpV.loadBox rfl pt_3 (.tail _ (.tail _ (.head _))) rfl) ?_
  refine Lt.ofWL.step rfl rfl rfl (OpV.fieldAddr rfl fo_53_0) ?_
  refine WL.heavy0 rfl rfl (OpH.storeTo (A := []) [_, _, _] rfl rfl rfl ts_3 rfl rfl rfl ?_)
  refine WL.nil ?_
  refine En.next ?_
  refine WC.seq ?_
  refine WC.region ?_
  refine Lt.ofWL.step rfl rfl rfl (OpV.fieldAddr rfl fo_48_1) ?_
  refine Lt.ofWL.step rfl rfl rfl (OpV.loadBox rfl pt_3 (.tail _ (.tail _ (.head _))) rfl) ?_
  refine Lt.ofWL.step rfl rfl rfl (OpV.fieldAddr rfl fo_53_1) ?_
  refine WL.heavy0 rfl rfl (OpH.storeTo (A := []) [_, _, _] rfl rfl rfl ts_3 rfl rfl rfl ?_)
  refine WL.nil ?_
  refine En.next ?_
  refine WC.seq ?_
  obtain ⟨x4_2, e4_2, h⟩ := bnd h
  refine WC.region ?_
  refine Lt.ofWL.step rfl rfl rfl (OpV.fieldAddr rfl fo_48_2) ?_
  refine Lt.ofWL.step rfl rfl rfl (OpV.loadBox rfl pt_46 (.tail _ (.tail _ (.head _))) rfl) ?_
  refine WL.heavy rfl rfl rfl (OpH.callR (evs.cons rfl (evs.nil)) ca_100 (fun w hs => w_laws_toIntS e4_2 (r0_0.ext hs.below)) ?_)
  rintro _ _ ⟨a4_200, n4_200, c4_200, f4_200, rfl, rfl⟩
  refine Lt.ofWL.step rfl rfl rfl (OpV.fieldAddr rfl fo_53_2) ?_
  refine WL.heavy0 rfl rfl (OpH.storeTo (A := [_]) [_, _, _] rfl rfl rfl ts_46 rfl rfl rfl ?_)
  refine WL.nil ?_
  refine En.next ?_
  refine WC.seq ?_
  refine WC.region ?_
  refine Lt.ofWL.step rfl rfl rfl (OpV.loadAll rfl (.tail _ (.head _)) ag_53) ?_
  refine WL.heavy0 rfl rfl (OpH.storeTo (A := [_, _]) [_, _, _] rfl rfl rfl ts_53 rfl rfl rfl ?_)
  refine WL.nil ?_
  refine En.next ?_
  refine WC.ret ?_
  refine En.ret1 rfl (Res.cell rfl (.tail _ (.tail _ (.head _))) ag_53) ?_
  obtain rfl := Option.some.inj h
  intro w' hs
  have hs := (hs).sub (.cons_cons _ (.cons _ (.cons _ (.cons _ (.slnil)))))
  exact ⟨_, _, rfl, ⟨a4_200, n4_200, c4_200, f4_200, rfl, rfl⟩, hs⟩

theorem w_laws_toSurface {a_p0 : SurfaceT} {r : SurfaceT} {q0_0 : Option Addr} {n0_0 k0_0 : Nat} (h : laws_toSurface a_p0 = some r) {w : World} (r0_0 : Rd tInt w q0_0 n0_0 k0_0 a_p0.Buffer.Data)  :
    Calls Try.prog 29 #[.agg #[.int .i64 a_p0.Id, .int .i64 a_p0.X, .int .i64 a_p0.Y, .int .i64 a_p0.W, .int .i64 a_p0.H, .int .i64 a_p0.Alpha, .int .i64 a_p0.Orient, .bool a_p0.Visible, .int .i64 a_p0.Buffer.W, .int .i64 a_p0.Buffer.H, .slice q0_0 n0_0 k0_0]] w (fun en w' => ∃ rv G, en = .returned rv ∧ (∃ (a0_0 : Option Addr) (n0_0 : Nat) (c0_0 : Nat) (f0_0 : List Nat), rv = .agg #[.int .i64 r.Id, .int .i64 r.X, .int .i64 r.Y, .int .i64 r.W, .int .i64 r.H, .int .i64 r.Alpha, .int .i64 r.Orient, .bool r.Visible, .int .i64 r.Buffer.W, .int .i64 r.Buffer.H, .slice a0_0 n0_0 c0_0] ∧ G = [Chunk.own tInt f0_0 a0_0 n0_0 c0_0 r.Buffer.Data]) ∧ St w G w') := by
  obtain rfl := r0_0.1
  unfold laws_toSurface at h
  refine enter (vs := [_]) Try.func29 rfl rfl rfl rfl ?_
  refine WC.seq ?_
  refine WC.region ?_
  refine WL.heavy rfl rfl rfl (OpH.box rfl rfl ?_)
  intro b0_0
  refine WL.heavy rfl rfl rfl (OpH.alloc zc_55 ?_)
  intro b0_1
  refine WL.nil ?_
  refine En.next ?_
  refine WC.seq ?_
  refine WC.region ?_
  refine WL.heavy rfl rfl rfl (OpH.alloc zc_55 ?_)
  intro b1_0
  refine WL.nil ?_
  refine En.next ?_
  refine WC.seq ?_
  refine WC.region ?_
  refine Lt.ofWL.step rfl rfl rfl (OpV.fieldAddr rfl fo_50_0) ?_
  refine Lt.ofWL.step rfl rfl rfl (OpV.loadBox rfl pt_3 (.tail _ (.tail _ (.head _))) rfl) ?_
  refine Lt.ofWL.step rfl rfl rfl (OpV.fieldAddr rfl fo_55_0) ?_
  refine WL.heavy0 rfl rfl (OpH.storeTo (A := []) [_, _, _, _, _, _, _, _, _, _, _] rfl rfl rfl ts_3 rfl rfl rfl ?_)
  refine WL.nil ?_
  refine En.next ?_
  refine WC.seq ?_
  refine WC.region ?_
  refine Lt.ofWL.step rfl rfl rfl (OpV.fieldAddr rfl fo_50_1) ?_
  refine Lt.ofWL.step rfl rfl rfl (OpV.loadBox rfl pt_3 (.tail _ (.tail _ (.head _))) rfl) ?_
  refine Lt.ofWL.step rfl rfl rfl (OpV.fieldAddr rfl fo_55_1) ?_
  refine WL.heavy0 rfl rfl (OpH.storeTo (A := []) [_, _, _, _, _, _, _, _, _, _, _] rfl rfl rfl ts_3 rfl rfl rfl ?_)
  refine WL.nil ?_
  refine En.next ?_
  refine WC.seq ?_
  refine WC.region ?_
  refine Lt.ofWL.step rfl rfl rfl (OpV.fieldAddr rfl fo_50_2) ?_
  refine Lt.ofWL.step rfl rfl rfl (OpV.loadBox rfl pt_3 (.tail _ (.tail _ (.head _))) rfl) ?_
  refine Lt.ofWL.step rfl rfl rfl (OpV.fieldAddr rfl fo_55_2) ?_
  refine WL.heavy0 rfl rfl (OpH.storeTo (A := []) [_, _, _, _, _, _, _, _, _, _, _] rfl rfl rfl ts_3 rfl rfl rfl ?_)
  refine WL.nil ?_
  refine En.next ?_
  refine WC.seq ?_
  refine WC.region ?_
  refine Lt.ofWL.step rfl rfl rfl (OpV.fieldAddr rfl fo_50_3) ?_
  refine Lt.ofWL.step rfl rfl rfl (OpV.loadBox rfl pt_3 (.tail _ (.tail _ (.head _))) rfl) ?_
  refine Lt.ofWL.step rfl rfl rfl (OpV.fieldAddr rfl fo_55_3) ?_
  refine WL.heavy0 rfl rfl (OpH.storeTo (A := []) [_, _, _, _, _, _, _, _, _, _, _] rfl rfl rfl ts_3 rfl rfl rfl ?_)
  refine WL.nil ?_
  refine En.next ?_
  refine WC.seq ?_
  refine WC.region ?_
  refine Lt.ofWL.step rfl rfl rfl (OpV.fieldAddr rfl fo_50_4) ?_
  refine Lt.ofWL.step rfl rfl rfl (OpV.loadBox rfl pt_3 (.tail _ (.tail _ (.head _))) rfl) ?_
  refine Lt.ofWL.step rfl rfl rfl (OpV.fieldAddr rfl fo_55_4) ?_
  refine WL.heavy0 rfl rfl (OpH.storeTo (A := []) [_, _, _, _, _, _, _, _, _, _, _] rfl rfl rfl ts_3 rfl rfl rfl ?_)
  refine WL.nil ?_
  refine En.next ?_
  refine WC.seq ?_
  refine WC.region ?_
  refine Lt.ofWL.step rfl rfl rfl (OpV.fieldAddr rfl fo_50_5) ?_
  refine Lt.ofWL.step rfl rfl rfl (OpV.loadBox rfl pt_3 (.tail _ (.tail _ (.head _))) rfl) ?_
  refine Lt.ofWL.step rfl rfl rfl (OpV.fieldAddr rfl fo_55_5) ?_
  refine WL.heavy0 rfl rfl (OpH.storeTo (A := []) [_, _, _, _, _, _, _, _, _, _, _] rfl rfl rfl ts_3 rfl rfl rfl ?_)
  refine WL.nil ?_
  refine En.next ?_
  refine WC.seq ?_
  refine WC.region ?_
  refine Lt.ofWL.step rfl rfl rfl (OpV.fieldAddr rfl fo_50_6) ?_
  refine Lt.ofWL.step rfl rfl rfl (OpV.loadBox rfl pt_3 (.tail _ (.tail _ (.head _))) rfl) ?_
  refine Lt.ofWL.step rfl rfl rfl (OpV.fieldAddr rfl fo_55_6) ?_
  refine WL.heavy0 rfl rfl (OpH.storeTo (A := []) [_, _, _, _, _, _, _, _, _, _, _] rfl rfl rfl ts_3 rfl rfl rfl ?_)
  refine WL.nil ?_
  refine En.next ?_
  refine WC.seq ?_
  refine WC.region ?_
  refine Lt.ofWL.step rfl rfl rfl (OpV.fieldAddr rfl fo_50_7) ?_
  refine Lt.ofWL.step rfl rfl rfl (OpV.loadBox rfl pt_4 (.tail _ (.tail _ (.head _))) rfl) ?_
  refine Lt.ofWL.step rfl rfl rfl (OpV.fieldAddr rfl fo_55_7) ?_
  refine WL.heavy0 rfl rfl (OpH.storeTo (A := []) [_, _, _, _, _, _, _, _, _, _, _] rfl rfl rfl ts_4 rfl rfl rfl ?_)
  refine WL.nil ?_
  refine En.next ?_
  refine WC.seq ?_
  obtain ⟨x10_2, e10_2, h⟩ := bnd h
  refine WC.region ?_
  refine Lt.ofWL.step rfl rfl rfl (OpV.fieldAddr rfl fo_50_8) ?_
  refine Lt.ofWL.step rfl rfl rfl (OpV.loadPart rfl (.tail _ (.tail _ (.head _))) ag_48 rfl rfl) ?_
  refine WL.heavy rfl rfl rfl (OpH.callR (evs.cons rfl (evs.nil)) ca_47 (fun w hs => w_laws_toImage e10_2 (r0_0.ext hs.below)) ?_)
  rintro _ _ ⟨a10_200, n10_200, c10_200, f10_200, rfl, rfl⟩
  refine Lt.ofWL.step rfl rfl rfl (OpV.fieldAddr rfl fo_55_8) ?_
  refine WL.heavy0 rfl rfl (OpH.storeTo (A := [_]) [_, _, _, _, _, _, _, _, _, _, _] rfl rfl rfl ts_53 rfl rfl rfl ?_)
  refine WL.nil ?_
  refine En.next ?_
  refine WC.seq ?_
  refine WC.region ?_
  refine Lt.ofWL.step rfl rfl rfl (OpV.loadAll rfl (.tail _ (.head _)) ag_55) ?_
  refine WL.heavy0 rfl rfl (OpH.storeTo (A := [_, _]) [_, _, _, _, _, _, _, _, _, _, _] rfl rfl rfl ts_55 rfl rfl rfl ?_)
  refine WL.nil ?_
  refine En.next ?_
  refine WC.ret ?_
  refine En.ret1 rfl (Res.cell rfl (.tail _ (.tail _ (.head _))) ag_55) ?_
  obtain rfl := Option.some.inj h
  intro w' hs
  have hs := (hs).sub (.cons_cons _ (.cons _ (.cons _ (.cons _ (.slnil)))))
  exact ⟨_, _, rfl, ⟨a10_200, n10_200, c10_200, f10_200, rfl, rfl⟩, hs⟩

theorem w_spec_l04Pixel {p_p0 : Int} {r : Bool}  (h : spec_l04Pixel p_p0 = some r) {w : World}   :
    Calls Try.prog 138 #[.int .i64 p_p0] w (fun en w' => en = .returned (.bool r) ∧ Ext w w') := by
  unfold spec_l04Pixel at h
  refine enter (vs := [_]) Try.func138 rfl rfl rfl rfl ?_
  refine WC.seq ?_
  refine WC.region ?_
  refine Lt.ofWL.step rfl rfl rfl (OpV.assign rfl) ?_
  refine WL.nil ?_
  refine En.next ?_
  refine WC.seq ?_
  obtain ⟨x1_1, e1_1, h⟩ := bnd h
  refine WC.region ?_
  refine Lt.ofWL.step rfl rfl rfl (OpV.move rfl) ?_
  refine Lt.ofWL.step rfl rfl rfl (OpV.call (evs.cons rfl (evs.cons rfl (evs.cons rfl (evs.nil)))) ca_83 (fun w hs => w_spec_l01In e1_1)) ?_
  refine Lt.ofWL.step rfl rfl rfl (OpV.assign rfl) ?_
  refine WL.nil ?_
  refine En.next ?_
  refine WC.ret ?_
  refine En.ret1 rfl (Res.tmp rfl) ?_
  obtain rfl := Option.some.inj h
  intro w' hs
  exact ⟨rfl, hs.below⟩

theorem w_spec_ImageOk {i_p0 : ImageT} {r : Bool} {q0_0 : Option Addr} {n0_0 k0_0 : Nat} (h : spec_ImageOk i_p0 = some r) {w : World} (r0_0 : Rd tInt w q0_0 n0_0 k0_0 i_p0.Data)  :
    Calls Try.prog 122 #[.agg #[.int .i64 i_p0.W, .int .i64 i_p0.H, .slice q0_0 n0_0 k0_0]] w (fun en w' => en = .returned (.bool r) ∧ Ext w w') := by
  obtain rfl := r0_0.1
  unfold spec_ImageOk at h
  refine enter (vs := [_]) Try.func122 rfl rfl rfl rfl ?_
  refine WC.seq ?_
  refine WC.region ?_
  refine WL.heavy rfl rfl rfl (OpH.box rfl rfl ?_)
  intro b0_0
  refine Lt.ofWL.step rfl rfl rfl (OpV.assign rfl) ?_
  refine WL.nil ?_
  refine En.next ?_
  refine WC.seq ?_
  refine WC.seq ?_
  obtain ⟨x1_2, e1_2, h⟩ := bnd h
  obtain ⟨q1_9, e1_9, h⟩ := bnd h
  refine WC.region ?_
  refine Lt.ofWL.step rfl rfl rfl (OpV.fieldAddr rfl fo_53_0) ?_
  refine Lt.ofWL.step rfl rfl rfl (OpV.loadBox rfl pt_3 (.head _) rfl) ?_
  refine Lt.ofWL.step rfl rfl rfl (OpV.call (evs.cons rfl (evs.cons rfl (evs.cons rfl (evs.nil)))) ca_83 (fun w hs => w_spec_l01In e1_2)) ?_
  refine Lt.ofWL.step rfl rfl rfl (OpV.not rfl) ?_
  refine Lt.ofWL.step rfl rfl rfl (OpV.move rfl) ?_
  refine Lt.ofWL.orQ 8 13 12 (p := ?pz1) (rest := ?qz1) (B := q1_9) rfl (fun hz => orO_t e1_9 hz) ?Tz1 ?Fz1 ?az1 ?bz1 ?cz1 ?dz1 ?ez1
  case Tz1 =>
    intro hcz1 hkz1
    refine Lt.ofWL.skip rfl rfl rfl ?_
    refine Lt.ofWL.skip rfl rfl rfl ?_
    refine Lt.ofWL.skip rfl rfl rfl ?_
    refine Lt.ofWL.skip rfl rfl rfl ?_
    refine hkz1 _ ?_
    repeat (first | exact Sub.refl _ | refine Sub.skip rfl ?_)
  case Fz1 =>
    intro hcz1 hkz1
    have hqz1 := orO_f e1_9 hcz1
    obtain ⟨x1_7, e1_7, hqz1⟩ := bnd hqz1
    obtain rfl := Option.some.inj hqz1
    refine Lt.ofWL.step rfl rfl rfl (OpV.fieldAddr rfl fo_53_1) ?_
    refine Lt.ofWL.step rfl rfl rfl (OpV.loadBox rfl pt_3 (.head _) rfl) ?_
    refine Lt.ofWL.step rfl rfl rfl (OpV.call (evs.cons rfl (evs.cons rfl (evs.cons rfl (evs.nil)))) ca_83 (fun w hs => w_spec_l01In e1_7)) ?_
    refine Lt.ofWL.step rfl rfl rfl (OpV.not rfl) ?_
    refine hkz1 _ ?_ ?_
    exact rfl
    repeat (first | exact Sub.refl _ | refine Sub.skip rfl ?_)
  case az1 => exact rfl
  case bz1 => exact rfl
  case cz1 => exact rfl
  case dz1 => exact rfl
  refine Lt.ofWL.step rfl rfl rfl (OpV.move rfl) ?_
  refine Lt.ofWL.or 14 24 23 (p := ?pz2) (rest := ?qz2) (B := ?Bz2) rfl ?Tz2 ?Fz2 ?az2 ?bz2 ?cz2 ?dz2 ?ez2
  case Tz2 =>
    intro hcz2 hkz2
    refine Lt.ofWL.skip rfl rfl rfl ?_
    refine Lt.ofWL.skip rfl rfl rfl ?_
    refine Lt.ofWL.skip rfl rfl rfl ?_
    refine Lt.ofWL.skip rfl rfl rfl ?_
    refine Lt.ofWL.skip rfl rfl rfl ?_
    refine Lt.ofWL.skip rfl rfl rfl ?_
    refine Lt.ofWL.skip rfl rfl rfl ?_
    refine Lt.ofWL.skip rfl rfl rfl ?_
    refine Lt.ofWL.skip rfl rfl rfl ?_
    refine hkz2 _ ?_
    repeat (first | exact Sub.refl _ | refine Sub.skip rfl ?_)
  case Fz2 =>
    intro hcz2 hkz2
    refine Lt.ofWL.step rfl rfl rfl (OpV.fieldAddr rfl fo_53_2) ?_
    refine Lt.ofWL.step rfl rfl rfl (OpV.loadBox rfl pt_46 (.head _) rfl) ?_
    refine Lt.ofWL.step rfl rfl rfl (OpV.len rfl si_46 rfl) ?_
    refine Lt.ofWL.step rfl rfl rfl (OpV.fieldAddr rfl fo_53_0) ?_
    refine Lt.ofWL.step rfl rfl rfl (OpV.loadBox rfl pt_3 (.head _) rfl) ?_
    refine Lt.ofWL.step rfl rfl rfl (OpV.fieldAddr rfl fo_53_1) ?_
    refine Lt.ofWL.step rfl rfl rfl (OpV.loadBox rfl pt_3 (.head _) rfl) ?_
    refine Lt.ofWL.step rfl rfl rfl (OpV.mulR rfl rfl) ?_
    refine Lt.ofWL.step rfl rfl rfl (OpV.neq rfl rfl) ?_
    refine hkz2 _ ?_ ?_
    exact rfl
    repeat (first | exact Sub.refl _ | refine Sub.skip rfl ?_)
  case az2 => exact rfl
  case bz2 => exact rfl
  case cz2 => exact rfl
  case dz2 => exact rfl
  refine WL.nil ?_
  refine En.next ?_
  refine WC.cond rfl ?_ ?_
  ·
    intro hc_1
    replace h := ifO_t hc_1 h
    refine WC.seq ?_
    refine WC.region ?_
    refine Lt.ofWL.step rfl rfl rfl (OpV.assign rfl) ?_
    refine WL.nil ?_
    refine En.next ?_
    refine WC.ret ?_
    refine En.then_ret ?_
    refine En.ret1 rfl (Res.tmp rfl) ?_
    obtain rfl := Option.some.inj h
    intro w' hs
    exact ⟨rfl, hs.below⟩
  ·
    intro hc_1
    replace h := ifO_f hc_1 h
    refine WC.skip ?_
    refine En.next ?_
    refine WC.seq ?_
    refine WC.seq ?_
    refine WC.region ?_
    refine Lt.ofWL.step rfl rfl rfl (OpV.assign rfl) ?_
    refine WL.nil ?_
    refine En.next ?_
    refine WC.block ?_
    obtain ⟨zy0, ezy0, h⟩ := bnd h
    refine WC.cut (X := (Unit) × (Unit)) (.exit 0) (fun x => zy0 = .inl x.1) (fun x => match x with | ((), ()) => []) (fun x => match x with | ((), ()) => []) ?_ ?_
    ·
      rintro ⟨⟨⟩, ⟨⟩⟩ hx
      replace hx : .inl () = zy0 := hx.symm
      subst hx
      replace h := fork_l h
      show En _ _ _ _ [] []
      refine En.block_exit ?_
      refine En.next ?_
      refine WC.seq ?_
      refine WC.region ?_
      refine Lt.ofWL.step rfl rfl rfl (OpV.assign rfl) ?_
      refine WL.nil ?_
      refine En.next ?_
      refine WC.ret ?_
      refine En.ret1 rfl (Res.tmp rfl) ?_
      obtain rfl := Option.some.inj h
      intro w' hs
      exact ⟨rfl, hs.below⟩
    ·
      intro zK0_0
      refine WC.loopP (G := Unit) (fun s g => match s, g with | k_0, () => [(1, .pointer (some ⟨b0_0, 0, .none⟩)), (3, .int .i64 k_0)]) (fun s g => match s, g with | k_0, () => [Chunk.box b0_0 53 [.int .i64 i_p0.W, .int .i64 i_p0.H, .slice q0_0 i_p0.Data.length k0_0]]) 0 () ezy0 (by exact Sub.cons rfl (Sub.cons rfl (Sub.nil _))) (by exact (fun _ h => h)) ?_
      rintro zm0 k_0 ⟨⟩ zo0 zf0 zb0 ze0
      have zh0 : spec_ImageOk_L0 i_p0 k_0 = some zo0 := zf0
      unfold spec_ImageOk_L0 at zh0
      show WC _ _ _ _ _ [(1, .pointer (some ⟨b0_0, 0, .none⟩)), (3, .int .i64 k_0)] [Chunk.box b0_0 53 [.int .i64 i_p0.W, .int .i64 i_p0.H, .slice q0_0 i_p0.Data.length k0_0]]
      refine WC.seq ?_
      refine WC.seq ?_
      refine WC.region ?_
      refine Lt.ofWL.step rfl rfl rfl (OpV.move rfl) ?_
      refine Lt.ofWL.step rfl rfl rfl (OpV.fieldAddr rfl fo_53_2) ?_
      refine Lt.ofWL.step rfl rfl rfl (OpV.loadBox rfl pt_46 (.head _) rfl) ?_
      refine Lt.ofWL.step rfl rfl rfl (OpV.len rfl si_46 rfl) ?_
      refine Lt.ofWL.step rfl rfl rfl (OpV.lss rfl rfl) ?_
      refine WL.nil ?_
      refine En.next ?_
      refine WC.cond rfl ?_ ?_
      ·
        intro hc_2
        replace zh0 := ifO_t hc_2 zh0
        refine WC.skip ?_
        refine En.next ?_
        refine WC.seq ?_
        refine WC.block ?_
        refine WC.seq ?_
        obtain ⟨x6_3, e6_3, zh0⟩ := bnd zh0
        obtain ⟨g6_3, o6_3, _, ha6_3, rfl, hd6_3⟩ := Rd.atIdx r0_0 e6_3
        replace hd6_3 : ∀ (j : Nat) v, ([.int .i64 x6_3] : List Value)[j]? = some v → w.cell? ⟨g6_3, o6_3 + k_0.toNat * 1 + j, .none⟩ = some v := hd6_3
        obtain ⟨x6_5, e6_5, zh0⟩ := bnd zh0
        refine WC.region ?_
        refine Lt.ofWL.step rfl rfl rfl (OpV.fieldAddr rfl fo_53_2) ?_
        refine Lt.ofWL.step rfl rfl rfl (OpV.loadBox rfl pt_46 (.head _) rfl) ?_
        refine Lt.ofWL.step rfl rfl rfl (OpV.move rfl) ?_
        refine Lt.ofWL.step rfl rfl rfl (OpV.idxA rfl rfl se_46 ha6_3 ⟨(idx_some e6_3).1, (idx_some e6_3).2.1⟩) ?_
        refine Lt.ofWL.step rfl rfl rfl (OpV.load1 rfl pt_3 (fun w hs => hs.cell (hd6_3 0 _ rfl))) ?_
        refine Lt.ofWL.step rfl rfl rfl (OpV.call (evs.cons rfl (evs.nil)) ca_138 (fun w hs => w_spec_l04Pixel e6_5)) ?_
        refine Lt.ofWL.step rfl rfl rfl (OpV.not rfl) ?_
        refine WL.nil ?_
        refine En.next ?_
        refine WC.cond rfl ?_ ?_
        ·
          intro hc_3
          replace zh0 := ifO_t hc_3 zh0
          refine WC.seq ?_
          refine WC.region ?_
          refine Lt.ofWL.step rfl rfl rfl (OpV.assign rfl) ?_
          refine WL.nil ?_
          refine En.next ?_
          refine WC.ret ?_
          refine En.block_ret ?_
          refine En.then_ret ?_
          refine En.then_ret ?_
          refine En.block_ret ?_
          refine En.then_ret ?_
          refine En.ret1 rfl (Res.tmp rfl) ?_
          have hx := exitP ze0 zh0
          subst hx
          replace h := fork_r h
          obtain rfl := Option.some.inj h
          intro w' hs
          exact ⟨rfl, hs.below⟩
        ·
          intro hc_3
          replace zh0 := ifO_f hc_3 zh0
          refine WC.skip ?_
          refine En.block_norm ?_
          refine En.next ?_
          refine WC.region ?_
          refine Lt.ofWL.step rfl rfl rfl (OpV.move rfl) ?_
          refine Lt.ofWL.step rfl rfl rfl (OpV.addR rfl rfl) ?_
          refine Lt.ofWL.step rfl rfl rfl (OpV.assign rfl) ?_
          refine WL.nil ?_
          exact En.backP zb0 zh0 () (Sub.cons rfl (Sub.cons rfl (Sub.nil _))) (fun _ h => h)
      ·
        intro hc_2
        replace zh0 := ifO_f hc_2 zh0
        refine WC.exit ?_
        refine En.then_exit ?_
        refine En.then_exit ?_
        have hx := exitP ze0 zh0
        exact En.wk _ _ (Sub.nil _) (fun _ h => (h).sub (.cons _ (.slnil))) (zK0_0 ((), ()) hx.symm)

theorem w_spec_SurfaceOk {s_p0 : SurfaceT} {r : Bool} {q0_0 : Option Addr} {n0_0 k0_0 : Nat} (h : spec_SurfaceOk s_p0 = some r) {w : World} (r0_0 : Rd tInt w q0_0 n0_0 k0_0 s_p0.Buffer.Data)  :
    Calls Try.prog 87 #[.agg #[.int .i64 s_p0.Id, .int .i64 s_p0.X, .int .i64 s_p0.Y, .int .i64 s_p0.W, .int .i64 s_p0.H, .int .i64 s_p0.Alpha, .int .i64 s_p0.Orient, .bool s_p0.Visible, .int .i64 s_p0.Buffer.W, .int .i64 s_p0.Buffer.H, .slice q0_0 n0_0 k0_0]] w (fun en w' => en = .returned (.bool r) ∧ Ext w w') := by
  obtain rfl := r0_0.1
  unfold spec_SurfaceOk at h
  refine enter (vs := [_]) Try.func87 rfl rfl rfl rfl ?_
  refine WC.seq ?_
  refine WC.region ?_
  refine WL.heavy rfl rfl rfl (OpH.box rfl rfl ?_)
  intro b0_0
  refine Lt.ofWL.step rfl rfl rfl (OpV.assign rfl) ?_
  refine WL.nil ?_
  refine En.next ?_
  refine WC.seq ?_
  refine WC.seq ?_
  obtain ⟨x1_2, e1_2, h⟩ := bnd h
  obtain ⟨q1_9, e1_9, h⟩ := bnd h
  obtain ⟨q1_15, e1_15, h⟩ := bnd h
  obtain ⟨q1_21, e1_21, h⟩ := bnd h
  obtain ⟨q1_27, e1_27, h⟩ := bnd h
  obtain ⟨q1_33, e1_33, h⟩ := bnd h
  refine WC.region ?_
  refine Lt.ofWL.step rfl rfl rfl (OpV.fieldAddr rfl fo_55_0) ?_
  refine Lt.ofWL.step rfl rfl rfl (OpV.loadBox rfl pt_3 (.head _) rfl) ?_
  refine Lt.ofWL.step rfl rfl rfl (OpV.call (evs.cons rfl (evs.cons rfl (evs.cons rfl (evs.nil)))) ca_83 (fun w hs => w_spec_l01In e1_2)) ?_
  refine Lt.ofWL.step rfl rfl rfl (OpV.not rfl) ?_
  refine Lt.ofWL.step rfl rfl rfl (OpV.move rfl) ?_
  refine Lt.ofWL.orQ 7 12 11 (p := ?pz1) (rest := ?qz1) (B := q1_9) rfl (fun hz => orO_t e1_9 hz) ?Tz1 ?Fz1 ?az1 ?bz1 ?cz1 ?dz1 ?ez1
  case Tz1 =>
    intro hcz1 hkz1
    refine Lt.ofWL.skip rfl rfl rfl ?_
    refine Lt.ofWL.skip rfl rfl rfl ?_
    refine Lt.ofWL.skip rfl rfl rfl ?_
    refine Lt.ofWL.skip rfl rfl rfl ?_
    refine hkz1 _ ?_
    repeat (first | exact Sub.refl _ | refine Sub.skip rfl ?_)
  case Fz1 =>
    intro hcz1 hkz1
    have hqz1 := orO_f e1_9 hcz1
    obtain ⟨x1_7, e1_7, hqz1⟩ := bnd hqz1
    obtain rfl := Option.some.inj hqz1
    refine Lt.ofWL.step rfl rfl rfl (OpV.fieldAddr rfl fo_55_1) ?_
    refine Lt.ofWL.step rfl rfl rfl (OpV.loadBox rfl pt_3 (.head _) rfl) ?_
    refine Lt.ofWL.step rfl rfl rfl (OpV.call (evs.cons rfl (evs.cons rfl (evs.cons rfl (evs.nil)))) ca_83 (fun w hs => w_spec_l01In e1_7)) ?_
    refine Lt.ofWL.step rfl rfl rfl (OpV.not rfl) ?_
    refine hkz1 _ ?_ ?_
    exact rfl
    repeat (first | exact Sub.refl _ | refine Sub.skip rfl ?_)
  case az1 => exact rfl
  case bz1 => exact rfl
  case cz1 => exact rfl
  case dz1 => exact rfl
  refine Lt.ofWL.step rfl rfl rfl (OpV.move rfl) ?_
  refine Lt.ofWL.orQ 13 18 17 (p := ?pz2) (rest := ?qz2) (B := q1_15) rfl (fun hz => orO_t e1_15 hz) ?Tz2 ?Fz2 ?az2 ?bz2 ?cz2 ?dz2 ?ez2
  case Tz2 =>
    intro hcz2 hkz2
    refine Lt.ofWL.skip rfl rfl rfl ?_
    refine Lt.ofWL.skip rfl rfl rfl ?_
    refine Lt.ofWL.skip rfl rfl rfl ?_
    refine Lt.ofWL.skip rfl rfl rfl ?_
    refine hkz2 _ ?_
    repeat (first | exact Sub.refl _ | refine Sub.skip rfl ?_)
  case Fz2 =>
    intro hcz2 hkz2
    have hqz2 := orO_f e1_15 hcz2
    obtain ⟨x1_13, e1_13, hqz2⟩ := bnd hqz2
    obtain rfl := Option.some.inj hqz2
    refine Lt.ofWL.step rfl rfl rfl (OpV.fieldAddr rfl fo_55_2) ?_
    refine Lt.ofWL.step rfl rfl rfl (OpV.loadBox rfl pt_3 (.head _) rfl) ?_
    refine Lt.ofWL.step rfl rfl rfl (OpV.call (evs.cons rfl (evs.cons rfl (evs.cons rfl (evs.nil)))) ca_83 (fun w hs => w_spec_l01In e1_13)) ?_
    refine Lt.ofWL.step rfl rfl rfl (OpV.not rfl) ?_
    refine hkz2 _ ?_ ?_
    exact rfl
    repeat (first | exact Sub.refl _ | refine Sub.skip rfl ?_)
  case az2 => exact rfl
  case bz2 => exact rfl
  case cz2 => exact rfl
  case dz2 => exact rfl
  refine Lt.ofWL.step rfl rfl rfl (OpV.move rfl) ?_
  refine Lt.ofWL.orQ 19 24 23 (p := ?pz3) (rest := ?qz3) (B := q1_21) rfl (fun hz => orO_t e1_21 hz) ?Tz3 ?Fz3 ?az3 ?bz3 ?cz3 ?dz3 ?ez3
  case Tz3 =>
    intro hcz3 hkz3
    refine Lt.ofWL.skip rfl rfl rfl ?_
    refine Lt.ofWL.skip rfl rfl rfl ?_
    refine Lt.ofWL.skip rfl rfl rfl ?_
    refine Lt.ofWL.skip rfl rfl rfl ?_
    refine hkz3 _ ?_
    repeat (first | exact Sub.refl _ | refine Sub.skip rfl ?_)
  case Fz3 =>
    intro hcz3 hkz3
    have hqz3 := orO_f e1_21 hcz3
    obtain ⟨x1_19, e1_19, hqz3⟩ := bnd hqz3
    obtain rfl := Option.some.inj hqz3
    refine Lt.ofWL.step rfl rfl rfl (OpV.fieldAddr rfl fo_55_5) ?_
    refine Lt.ofWL.step rfl rfl rfl (OpV.loadBox rfl pt_3 (.head _) rfl) ?_
    refine Lt.ofWL.step rfl rfl rfl (OpV.call (evs.cons rfl (evs.cons rfl (evs.cons rfl (evs.nil)))) ca_83 (fun w hs => w_spec_l01In e1_19)) ?_
    refine Lt.ofWL.step rfl rfl rfl (OpV.not rfl) ?_
    refine hkz3 _ ?_ ?_
    exact rfl
    repeat (first | exact Sub.refl _ | refine Sub.skip rfl ?_)
  case az3 => exact rfl
  case bz3 => exact rfl
  case cz3 => exact rfl
  case dz3 => exact rfl
  refine Lt.ofWL.step rfl rfl rfl (OpV.move rfl) ?_
  refine Lt.ofWL.orQ 25 30 29 (p := ?pz4) (rest := ?qz4) (B := q1_27) rfl (fun hz => orO_t e1_27 hz) ?Tz4 ?Fz4 ?az4 ?bz4 ?cz4 ?dz4 ?ez4
  case Tz4 =>
    intro hcz4 hkz4
    refine Lt.ofWL.skip rfl rfl rfl ?_
    refine Lt.ofWL.skip rfl rfl rfl ?_
    refine Lt.ofWL.skip rfl rfl rfl ?_
    refine Lt.ofWL.skip rfl rfl rfl ?_
    refine hkz4 _ ?_
    repeat (first | exact Sub.refl _ | refine Sub.skip rfl ?_)
  case Fz4 =>
    intro hcz4 hkz4
    have hqz4 := orO_f e1_27 hcz4
    obtain ⟨x1_25, e1_25, hqz4⟩ := bnd hqz4
    obtain rfl := Option.some.inj hqz4
    refine Lt.ofWL.step rfl rfl rfl (OpV.fieldAddr rfl fo_55_6) ?_
    refine Lt.ofWL.step rfl rfl rfl (OpV.loadBox rfl pt_3 (.head _) rfl) ?_
    refine Lt.ofWL.step rfl rfl rfl (OpV.call (evs.cons rfl (evs.cons rfl (evs.cons rfl (evs.nil)))) ca_83 (fun w hs => w_spec_l01In e1_25)) ?_
    refine Lt.ofWL.step rfl rfl rfl (OpV.not rfl) ?_
    refine hkz4 _ ?_ ?_
    exact rfl
    repeat (first | exact Sub.refl _ | refine Sub.skip rfl ?_)
  case az4 => exact rfl
  case bz4 => exact rfl
  case cz4 => exact rfl
  case dz4 => exact rfl
  refine Lt.ofWL.step rfl rfl rfl (OpV.move rfl) ?_
  refine Lt.ofWL.orQ 31 36 35 (p := ?pz5) (rest := ?qz5) (B := q1_33) rfl (fun hz => orO_t e1_33 hz) ?Tz5 ?Fz5 ?az5 ?bz5 ?cz5 ?dz5 ?ez5
  case Tz5 =>
    intro hcz5 hkz5
    refine Lt.ofWL.skip rfl rfl rfl ?_
    refine Lt.ofWL.skip rfl rfl rfl ?_
    refine Lt.ofWL.skip rfl rfl rfl ?_
    refine Lt.ofWL.skip rfl rfl rfl ?_
    refine hkz5 _ ?_
    repeat (first | exact Sub.refl _ | refine Sub.skip rfl ?_)
  case Fz5 =>
    intro hcz5 hkz5
    have hqz5 := orO_f e1_33 hcz5
    obtain ⟨x1_31, e1_31, hqz5⟩ := bnd hqz5
    obtain rfl := Option.some.inj hqz5
    refine Lt.ofWL.step rfl rfl rfl (OpV.fieldAddr rfl fo_55_8) ?_
    refine Lt.ofWL.step rfl rfl rfl (OpV.loadPart rfl (.head _) ag_53 rfl rfl) ?_
    refine Lt.ofWL.step rfl rfl rfl (OpV.call (evs.cons rfl (evs.nil)) ca_122 (fun w hs => w_spec_ImageOk e1_31 (r0_0.ext hs.below))) ?_
    refine Lt.ofWL.step rfl rfl rfl (OpV.not rfl) ?_
    refine hkz5 _ ?_ ?_
    exact rfl
    repeat (first | exact Sub.refl _ | refine Sub.skip rfl ?_)
  case az5 => exact rfl
  case bz5 => exact rfl
  case cz5 => exact rfl
  case dz5 => exact rfl
  refine WL.nil ?_
  refine En.next ?_
  refine WC.cond rfl ?_ ?_
  ·
    intro hc_1
    replace h := ifO_t hc_1 h
    refine WC.seq ?_
    refine WC.region ?_
    refine Lt.ofWL.step rfl rfl rfl (OpV.assign rfl) ?_
    refine WL.nil ?_
    refine En.next ?_
    refine WC.ret ?_
    refine En.then_ret ?_
    refine En.ret1 rfl (Res.tmp rfl) ?_
    obtain rfl := Option.some.inj h
    intro w' hs
    exact ⟨rfl, hs.below⟩
  ·
    intro hc_1
    replace h := ifO_f hc_1 h
    refine WC.skip ?_
    refine En.next ?_
    refine WC.seq ?_
    obtain ⟨q3_17, e3_17, h⟩ := bnd h
    refine WC.region ?_
    refine Lt.ofWL.step rfl rfl rfl (OpV.fieldAddr rfl fo_55_3) ?_
    refine Lt.ofWL.step rfl rfl rfl (OpV.loadBox rfl pt_3 (.head _) rfl) ?_
    refine Lt.ofWL.step rfl rfl rfl (OpV.eql rfl rfl) ?_
    refine Lt.ofWL.step rfl rfl rfl (OpV.move rfl) ?_
    refine Lt.ofWL.and 40 44 43 (p := ?pz6) (rest := ?qz6) (B := ?Bz6) rfl ?Tz6 ?Fz6 ?az6 ?bz6 ?cz6 ?dz6 ?ez6
    case Tz6 =>
      intro hcz6 hkz6
      refine Lt.ofWL.step rfl rfl rfl (OpV.fieldAddr rfl fo_55_4) ?_
      refine Lt.ofWL.step rfl rfl rfl (OpV.loadBox rfl pt_3 (.head _) rfl) ?_
      refine Lt.ofWL.step rfl rfl rfl (OpV.eql rfl rfl) ?_
      refine hkz6 _ ?_ ?_
      exact rfl
      repeat (first | exact Sub.refl _ | refine Sub.skip rfl ?_)
    case Fz6 =>
      intro hcz6 hkz6
      refine Lt.ofWL.skip rfl rfl rfl ?_
      refine Lt.ofWL.skip rfl rfl rfl ?_
      refine Lt.ofWL.skip rfl rfl rfl ?_
      refine hkz6 _ ?_
      repeat (first | exact Sub.refl _ | refine Sub.skip rfl ?_)
    case az6 => exact rfl
    case bz6 => exact rfl
    case cz6 => exact rfl
    case dz6 => exact rfl
    refine Lt.ofWL.step rfl rfl rfl (OpV.move rfl) ?_
    refine Lt.ofWL.orQ 45 54 53 (p := ?pz7) (rest := ?qz7) (B := q3_17) rfl (fun hz => orO_t e3_17 hz) ?Tz7 ?Fz7 ?az7 ?bz7 ?cz7 ?dz7 ?ez7
    case Tz7 =>
      intro hcz7 hkz7
      refine Lt.ofWL.skip rfl rfl rfl ?_
      refine Lt.ofWL.skip rfl rfl rfl ?_
      refine Lt.ofWL.skip rfl rfl rfl ?_
      refine Lt.ofWL.skip rfl rfl rfl ?_
      refine Lt.ofWL.skip rfl rfl rfl ?_
      refine Lt.ofWL.skip rfl rfl rfl ?_
      refine Lt.ofWL.skip rfl rfl rfl ?_
      refine Lt.ofWL.skip rfl rfl rfl ?_
      refine hkz7 _ ?_
      repeat (first | exact Sub.refl _ | refine Sub.skip rfl ?_)
    case Fz7 =>
      intro hcz7 hkz7
      have hqz7 := orO_f e3_17 hcz7
      obtain ⟨x3_11, e3_11, hqz7⟩ := bnd hqz7
      obtain ⟨q3_16, e3_16, hqz7⟩ := bnd hqz7
      obtain rfl := Option.some.inj hqz7
      refine Lt.ofWL.step rfl rfl rfl (OpV.fieldAddr rfl fo_55_3) ?_
      refine Lt.ofWL.step rfl rfl rfl (OpV.loadBox rfl pt_3 (.head _) rfl) ?_
      refine Lt.ofWL.step rfl rfl rfl (OpV.call (evs.cons rfl (evs.cons rfl (evs.cons rfl (evs.nil)))) ca_83 (fun w hs => w_spec_l01In e3_11)) ?_
      refine Lt.ofWL.step rfl rfl rfl (OpV.move rfl) ?_
      refine Lt.ofWL.andQ 49 53 52 (p := ?pz8) (rest := ?qz8) (B := q3_16) rfl (fun hz => andO_f e3_16 hz) ?Tz8 ?Fz8 ?az8 ?bz8 ?cz8 ?dz8 ?ez8
      case Tz8 =>
        intro hcz8 hkz8
        have hqz8 := andO_t e3_16 hcz8
        obtain ⟨x3_15, e3_15, hqz8⟩ := bnd hqz8
        obtain rfl := Option.some.inj hqz8
        refine Lt.ofWL.step rfl rfl rfl (OpV.fieldAddr rfl fo_55_4) ?_
        refine Lt.ofWL.step rfl rfl rfl (OpV.loadBox rfl pt_3 (.head _) rfl) ?_
        refine Lt.ofWL.step rfl rfl rfl (OpV.call (evs.cons rfl (evs.cons rfl (evs.cons rfl (evs.nil)))) ca_83 (fun w hs => w_spec_l01In e3_15)) ?_
        refine hkz8 _ ?_ ?_
        exact rfl
        repeat (first | exact Sub.refl _ | refine Sub.skip rfl ?_)
      case Fz8 =>
        intro hcz8 hkz8
        refine Lt.ofWL.skip rfl rfl rfl ?_
        refine Lt.ofWL.skip rfl rfl rfl ?_
        refine Lt.ofWL.skip rfl rfl rfl ?_
        refine hkz8 _ ?_
        repeat (first | exact Sub.refl _ | refine Sub.skip rfl ?_)
      case az8 => exact rfl
      case bz8 => exact rfl
      case cz8 => exact rfl
      case dz8 => exact rfl
      refine hkz7 _ ?_ ?_
      exact rfl
      repeat (first | exact Sub.refl _ | refine Sub.skip rfl ?_)
    case az7 => exact rfl
    case bz7 => exact rfl
    case cz7 => exact rfl
    case dz7 => exact rfl
    refine Lt.ofWL.step rfl rfl rfl (OpV.assign rfl) ?_
    refine WL.nil ?_
    refine En.next ?_
    refine WC.ret ?_
    refine En.ret1 rfl (Res.tmp rfl) ?_
    obtain rfl := Option.some.inj h
    intro w' hs
    exact ⟨rfl, hs.below⟩

theorem w_spec_FitsCursor {s_p0 : SurfaceT} {r : Bool} {q0_0 : Option Addr} {n0_0 k0_0 : Nat} (h : spec_FitsCursor s_p0 = some r) {w : World} (r0_0 : Rd tInt w q0_0 n0_0 k0_0 s_p0.Buffer.Data)  :
    Calls Try.prog 28 #[.agg #[.int .i64 s_p0.Id, .int .i64 s_p0.X, .int .i64 s_p0.Y, .int .i64 s_p0.W, .int .i64 s_p0.H, .int .i64 s_p0.Alpha, .int .i64 s_p0.Orient, .bool s_p0.Visible, .int .i64 s_p0.Buffer.W, .int .i64 s_p0.Buffer.H, .slice q0_0 n0_0 k0_0]] w (fun en w' => en = .returned (.bool r) ∧ Ext w w') := by
  obtain rfl := r0_0.1
  unfold spec_FitsCursor at h
  refine enter (vs := [_]) Try.func28 rfl rfl rfl rfl ?_
  refine WC.seq ?_
  refine WC.region ?_
  refine WL.heavy rfl rfl rfl (OpH.box rfl rfl ?_)
  intro b0_0
  refine Lt.ofWL.step rfl rfl rfl (OpV.assign rfl) ?_
  refine WL.nil ?_
  refine En.next ?_
  refine WC.seq ?_
  obtain ⟨x1_1, e1_1, h⟩ := bnd h
  refine WC.region ?_
  refine Lt.ofWL.step rfl rfl rfl (OpV.loadAll rfl (.head _) ag_55) ?_
  refine Lt.ofWL.step rfl rfl rfl (OpV.call (evs.cons rfl (evs.nil)) ca_87 (fun w hs => w_spec_SurfaceOk e1_1 (r0_0.ext hs.below))) ?_
  refine Lt.ofWL.step rfl rfl rfl (OpV.move rfl) ?_
  refine Lt.ofWL.and 5 9 8 (p := ?pz1) (rest := ?qz1) (B := ?Bz1) rfl ?Tz1 ?Fz1 ?az1 ?bz1 ?cz1 ?dz1 ?ez1
  case Tz1 =>
    intro hcz1 hkz1
    refine Lt.ofWL.step rfl rfl rfl (OpV.fieldAddr rfl fo_55_5) ?_
    refine Lt.ofWL.step rfl rfl rfl (OpV.loadBox rfl pt_3 (.head _) rfl) ?_
    refine Lt.ofWL.step rfl rfl rfl (OpV.eql rfl rfl) ?_
    refine hkz1 _ ?_ ?_
    exact rfl
    repeat (first | exact Sub.refl _ | refine Sub.skip rfl ?_)
  case Fz1 =>
    intro hcz1 hkz1
    refine Lt.ofWL.skip rfl rfl rfl ?_
    refine Lt.ofWL.skip rfl rfl rfl ?_
    refine Lt.ofWL.skip rfl rfl rfl ?_
    refine hkz1 _ ?_
    repeat (first | exact Sub.refl _ | refine Sub.skip rfl ?_)
  case az1 => exact rfl
  case bz1 => exact rfl
  case cz1 => exact rfl
  case dz1 => exact rfl
  refine Lt.ofWL.step rfl rfl rfl (OpV.move rfl) ?_
  refine Lt.ofWL.and 10 14 13 (p := ?pz2) (rest := ?qz2) (B := ?Bz2) rfl ?Tz2 ?Fz2 ?az2 ?bz2 ?cz2 ?dz2 ?ez2
  case Tz2 =>
    intro hcz2 hkz2
    refine Lt.ofWL.step rfl rfl rfl (OpV.fieldAddr rfl fo_55_6) ?_
    refine Lt.ofWL.step rfl rfl rfl (OpV.loadBox rfl pt_3 (.head _) rfl) ?_
    refine Lt.ofWL.step rfl rfl rfl (OpV.eql rfl rfl) ?_
    refine hkz2 _ ?_ ?_
    exact rfl
    repeat (first | exact Sub.refl _ | refine Sub.skip rfl ?_)
  case Fz2 =>
    intro hcz2 hkz2
    refine Lt.ofWL.skip rfl rfl rfl ?_
    refine Lt.ofWL.skip rfl rfl rfl ?_
    refine Lt.ofWL.skip rfl rfl rfl ?_
    refine hkz2 _ ?_
    repeat (first | exact Sub.refl _ | refine Sub.skip rfl ?_)
  case az2 => exact rfl
  case bz2 => exact rfl
  case cz2 => exact rfl
  case dz2 => exact rfl
  refine Lt.ofWL.step rfl rfl rfl (OpV.move rfl) ?_
  refine Lt.ofWL.and 15 19 18 (p := ?pz3) (rest := ?qz3) (B := ?Bz3) rfl ?Tz3 ?Fz3 ?az3 ?bz3 ?cz3 ?dz3 ?ez3
  case Tz3 =>
    intro hcz3 hkz3
    refine Lt.ofWL.step rfl rfl rfl (OpV.fieldAddr rfl fo_55_3) ?_
    refine Lt.ofWL.step rfl rfl rfl (OpV.loadBox rfl pt_3 (.head _) rfl) ?_
    refine Lt.ofWL.step rfl rfl rfl (OpV.eql rfl rfl) ?_
    refine hkz3 _ ?_ ?_
    exact rfl
    repeat (first | exact Sub.refl _ | refine Sub.skip rfl ?_)
  case Fz3 =>
    intro hcz3 hkz3
    refine Lt.ofWL.skip rfl rfl rfl ?_
    refine Lt.ofWL.skip rfl rfl rfl ?_
    refine Lt.ofWL.skip rfl rfl rfl ?_
    refine hkz3 _ ?_
    repeat (first | exact Sub.refl _ | refine Sub.skip rfl ?_)
  case az3 => exact rfl
  case bz3 => exact rfl
  case cz3 => exact rfl
  case dz3 => exact rfl
  refine Lt.ofWL.step rfl rfl rfl (OpV.move rfl) ?_
  refine Lt.ofWL.and 20 24 23 (p := ?pz4) (rest := ?qz4) (B := ?Bz4) rfl ?Tz4 ?Fz4 ?az4 ?bz4 ?cz4 ?dz4 ?ez4
  case Tz4 =>
    intro hcz4 hkz4
    refine Lt.ofWL.step rfl rfl rfl (OpV.fieldAddr rfl fo_55_4) ?_
    refine Lt.ofWL.step rfl rfl rfl (OpV.loadBox rfl pt_3 (.head _) rfl) ?_
    refine Lt.ofWL.step rfl rfl rfl (OpV.eql rfl rfl) ?_
    refine hkz4 _ ?_ ?_
    exact rfl
    repeat (first | exact Sub.refl _ | refine Sub.skip rfl ?_)
  case Fz4 =>
    intro hcz4 hkz4
    refine Lt.ofWL.skip rfl rfl rfl ?_
    refine Lt.ofWL.skip rfl rfl rfl ?_
    refine Lt.ofWL.skip rfl rfl rfl ?_
    refine hkz4 _ ?_
    repeat (first | exact Sub.refl _ | refine Sub.skip rfl ?_)
  case az4 => exact rfl
  case bz4 => exact rfl
  case cz4 => exact rfl
  case dz4 => exact rfl
  refine Lt.ofWL.step rfl rfl rfl (OpV.move rfl) ?_
  refine Lt.ofWL.and 25 30 29 (p := ?pz5) (rest := ?qz5) (B := ?Bz5) rfl ?Tz5 ?Fz5 ?az5 ?bz5 ?cz5 ?dz5 ?ez5
  case Tz5 =>
    intro hcz5 hkz5
    refine Lt.ofWL.step rfl rfl rfl (OpV.fieldAddr rfl fo_55_8) ?_
    refine Lt.ofWL.step rfl rfl rfl (OpV.fieldAddr rfl fo_53_0) ?_
    refine Lt.ofWL.step rfl rfl rfl (OpV.loadBox rfl pt_3 (.head _) rfl) ?_
    refine Lt.ofWL.step rfl rfl rfl (OpV.leq rfl rfl) ?_
    refine hkz5 _ ?_ ?_
    exact rfl
    repeat (first | exact Sub.refl _ | refine Sub.skip rfl ?_)
  case Fz5 =>
    intro hcz5 hkz5
    refine Lt.ofWL.skip rfl rfl rfl ?_
    refine Lt.ofWL.skip rfl rfl rfl ?_
    refine Lt.ofWL.skip rfl rfl rfl ?_
    refine Lt.ofWL.skip rfl rfl rfl ?_
    refine hkz5 _ ?_
    repeat (first | exact Sub.refl _ | refine Sub.skip rfl ?_)
  case az5 => exact rfl
  case bz5 => exact rfl
  case cz5 => exact rfl
  case dz5 => exact rfl
  refine Lt.ofWL.step rfl rfl rfl (OpV.move rfl) ?_
  refine Lt.ofWL.and 31 36 35 (p := ?pz6) (rest := ?qz6) (B := ?Bz6) rfl ?Tz6 ?Fz6 ?az6 ?bz6 ?cz6 ?dz6 ?ez6
  case Tz6 =>
    intro hcz6 hkz6
    refine Lt.ofWL.step rfl rfl rfl (OpV.fieldAddr rfl fo_55_8) ?_
    refine Lt.ofWL.step rfl rfl rfl (OpV.fieldAddr rfl fo_53_1) ?_
    refine Lt.ofWL.step rfl rfl rfl (OpV.loadBox rfl pt_3 (.head _) rfl) ?_
    refine Lt.ofWL.step rfl rfl rfl (OpV.leq rfl rfl) ?_
    refine hkz6 _ ?_ ?_
    exact rfl
    repeat (first | exact Sub.refl _ | refine Sub.skip rfl ?_)
  case Fz6 =>
    intro hcz6 hkz6
    refine Lt.ofWL.skip rfl rfl rfl ?_
    refine Lt.ofWL.skip rfl rfl rfl ?_
    refine Lt.ofWL.skip rfl rfl rfl ?_
    refine Lt.ofWL.skip rfl rfl rfl ?_
    refine hkz6 _ ?_
    repeat (first | exact Sub.refl _ | refine Sub.skip rfl ?_)
  case az6 => exact rfl
  case bz6 => exact rfl
  case cz6 => exact rfl
  case dz6 => exact rfl
  refine Lt.ofWL.step rfl rfl rfl (OpV.assign rfl) ?_
  refine WL.nil ?_
  refine En.next ?_
  refine WC.ret ?_
  refine En.ret1 rfl (Res.tmp rfl) ?_
  obtain rfl := Option.some.inj h
  intro w' hs
  exact ⟨rfl, hs.below⟩

theorem w_impl_isOrient {o_p0 : Int} {r : Bool}  (h : impl_isOrient o_p0 = some r) {w : World}   :
    Calls Try.prog 123 #[.int .i64 o_p0] w (fun en w' => en = .returned (.bool r) ∧ Ext w w') := by
  unfold impl_isOrient at h
  refine enter (vs := [_]) Try.func123 rfl rfl rfl rfl ?_
  refine WC.seq ?_
  refine WC.region ?_
  refine Lt.ofWL.step rfl rfl rfl (OpV.assign rfl) ?_
  refine WL.nil ?_
  refine En.next ?_
  refine WC.seq ?_
  obtain ⟨x1_1, e1_1, h⟩ := bnd h
  refine WC.region ?_
  refine Lt.ofWL.step rfl rfl rfl (OpV.move rfl) ?_
  refine Lt.ofWL.step rfl rfl rfl (OpV.call (evs.cons rfl (evs.cons rfl (evs.cons rfl (evs.nil)))) ca_80 (fun w hs => w_impl_within e1_1)) ?_
  refine Lt.ofWL.step rfl rfl rfl (OpV.assign rfl) ?_
  refine WL.nil ?_
  refine En.next ?_
  refine WC.ret ?_
  refine En.ret1 rfl (Res.tmp rfl) ?_
  obtain rfl := Option.some.inj h
  intro w' hs
  exact ⟨rfl, hs.below⟩

theorem w_impl_isPixel {p_p0 : Int} {r : Bool}  (h : impl_isPixel p_p0 = some r) {w : World}   :
    Calls Try.prog 139 #[.int .i64 p_p0] w (fun en w' => en = .returned (.bool r) ∧ Ext w w') := by
  unfold impl_isPixel at h
  refine enter (vs := [_]) Try.func139 rfl rfl rfl rfl ?_
  refine WC.seq ?_
  refine WC.region ?_
  refine Lt.ofWL.step rfl rfl rfl (OpV.assign rfl) ?_
  refine WL.nil ?_
  refine En.next ?_
  refine WC.seq ?_
  obtain ⟨x1_1, e1_1, h⟩ := bnd h
  refine WC.region ?_
  refine Lt.ofWL.step rfl rfl rfl (OpV.move rfl) ?_
  refine Lt.ofWL.step rfl rfl rfl (OpV.call (evs.cons rfl (evs.cons rfl (evs.cons rfl (evs.nil)))) ca_80 (fun w hs => w_impl_within e1_1)) ?_
  refine Lt.ofWL.step rfl rfl rfl (OpV.assign rfl) ?_
  refine WL.nil ?_
  refine En.next ?_
  refine WC.ret ?_
  refine En.ret1 rfl (Res.tmp rfl) ?_
  obtain rfl := Option.some.inj h
  intro w' hs
  exact ⟨rfl, hs.below⟩

theorem w_impl_ImageOk {i_p0 : ImageT} {r : Bool} {q0_0 : Option Addr} {n0_0 k0_0 : Nat} (h : impl_ImageOk i_p0 = some r) {w : World} (r0_0 : Rd tInt w q0_0 n0_0 k0_0 i_p0.Data)  :
    Calls Try.prog 124 #[.agg #[.int .i64 i_p0.W, .int .i64 i_p0.H, .slice q0_0 n0_0 k0_0]] w (fun en w' => en = .returned (.bool r) ∧ Ext w w') := by
  obtain rfl := r0_0.1
  unfold impl_ImageOk at h
  refine enter (vs := [_]) Try.func124 rfl rfl rfl rfl ?_
  refine WC.seq ?_
  refine WC.region ?_
  refine WL.heavy rfl rfl rfl (OpH.box rfl rfl ?_)
  intro b0_0
  refine Lt.ofWL.step rfl rfl rfl (OpV.assign rfl) ?_
  refine WL.nil ?_
  refine En.next ?_
  refine WC.seq ?_
  refine WC.seq ?_
  obtain ⟨x1_2, e1_2, h⟩ := bnd h
  obtain ⟨q1_9, e1_9, h⟩ := bnd h
  refine WC.region ?_
  refine Lt.ofWL.step rfl rfl rfl (OpV.fieldAddr rfl fo_53_0) ?_
  refine Lt.ofWL.step rfl rfl rfl (OpV.loadBox rfl pt_3 (.head _) rfl) ?_
  refine Lt.ofWL.step rfl rfl rfl (OpV.call (evs.cons rfl (evs.nil)) ca_120 (fun w hs => w_impl_isSide e1_2)) ?_
  refine Lt.ofWL.step rfl rfl rfl (OpV.not rfl) ?_
  refine Lt.ofWL.step rfl rfl rfl (OpV.move rfl) ?_
  refine Lt.ofWL.orQ 9 14 13 (p := ?pz1) (rest := ?qz1) (B := q1_9) rfl (fun hz => orO_t e1_9 hz) ?Tz1 ?Fz1 ?az1 ?bz1 ?cz1 ?dz1 ?ez1
  case Tz1 =>
    intro hcz1 hkz1
    refine Lt.ofWL.skip rfl rfl rfl ?_
    refine Lt.ofWL.skip rfl rfl rfl ?_
    refine Lt.ofWL.skip rfl rfl rfl ?_
    refine Lt.ofWL.skip rfl rfl rfl ?_
    refine hkz1 _ ?_
    repeat (first | exact Sub.refl _ | refine Sub.skip rfl ?_)
  case Fz1 =>
    intro hcz1 hkz1
    have hqz1 := orO_f e1_9 hcz1
    obtain ⟨x1_7, e1_7, hqz1⟩ := bnd hqz1
    obtain rfl := Option.some.inj hqz1
    refine Lt.ofWL.step rfl rfl rfl (OpV.fieldAddr rfl fo_53_1) ?_
    refine Lt.ofWL.step rfl rfl rfl (OpV.loadBox rfl pt_3 (.head _) rfl) ?_
    refine Lt.ofWL.step rfl rfl rfl (OpV.call (evs.cons rfl (evs.nil)) ca_120 (fun w hs => w_impl_isSide e1_7)) ?_
    refine Lt.ofWL.step rfl rfl rfl (OpV.not rfl) ?_
    refine hkz1 _ ?_ ?_
    exact rfl
    repeat (first | exact Sub.refl _ | refine Sub.skip rfl ?_)
  case az1 => exact rfl
  case bz1 => exact rfl
  case cz1 => exact rfl
  case dz1 => exact rfl
  refine Lt.ofWL.step rfl rfl rfl (OpV.move rfl) ?_
  refine Lt.ofWL.or 15 25 24 (p := ?pz2) (rest := ?qz2) (B := ?Bz2) rfl ?Tz2 ?Fz2 ?az2 ?bz2 ?cz2 ?dz2 ?ez2
  case Tz2 =>
    intro hcz2 hkz2
    refine Lt.ofWL.skip rfl rfl rfl ?_
    refine Lt.ofWL.skip rfl rfl rfl ?_
    refine Lt.ofWL.skip rfl rfl rfl ?_
    refine Lt.ofWL.skip rfl rfl rfl ?_
    refine Lt.ofWL.skip rfl rfl rfl ?_
    refine Lt.ofWL.skip rfl rfl rfl ?_
    refine Lt.ofWL.skip rfl rfl rfl ?_
    refine Lt.ofWL.skip rfl rfl rfl ?_
    refine Lt.ofWL.skip rfl rfl rfl ?_
    refine hkz2 _ ?_
    repeat (first | exact Sub.refl _ | refine Sub.skip rfl ?_)
  case Fz2 =>
    intro hcz2 hkz2
    refine Lt.ofWL.step rfl rfl rfl (OpV.fieldAddr rfl fo_53_2) ?_
    refine Lt.ofWL.step rfl rfl rfl (OpV.loadBox rfl pt_46 (.head _) rfl) ?_
    refine Lt.ofWL.step rfl rfl rfl (OpV.len rfl si_46 rfl) ?_
    refine Lt.ofWL.step rfl rfl rfl (OpV.fieldAddr rfl fo_53_0) ?_
    refine Lt.ofWL.step rfl rfl rfl (OpV.loadBox rfl pt_3 (.head _) rfl) ?_
    refine Lt.ofWL.step rfl rfl rfl (OpV.fieldAddr rfl fo_53_1) ?_
    refine Lt.ofWL.step rfl rfl rfl (OpV.loadBox rfl pt_3 (.head _) rfl) ?_
    refine Lt.ofWL.step rfl rfl rfl (OpV.mulR rfl rfl) ?_
    refine Lt.ofWL.step rfl rfl rfl (OpV.neq rfl rfl) ?_
    refine hkz2 _ ?_ ?_
    exact rfl
    repeat (first | exact Sub.refl _ | refine Sub.skip rfl ?_)
  case az2 => exact rfl
  case bz2 => exact rfl
  case cz2 => exact rfl
  case dz2 => exact rfl
  refine WL.nil ?_
  refine En.next ?_
  refine WC.cond rfl ?_ ?_
  ·
    intro hc_1
    replace h := ifO_t hc_1 h
    refine WC.seq ?_
    refine WC.region ?_
    refine Lt.ofWL.step rfl rfl rfl (OpV.assign rfl) ?_
    refine WL.nil ?_
    refine En.next ?_
    refine WC.ret ?_
    refine En.then_ret ?_
    refine En.ret1 rfl (Res.tmp rfl) ?_
    obtain rfl := Option.some.inj h
    intro w' hs
    exact ⟨rfl, hs.below⟩
  ·
    intro hc_1
    replace h := ifO_f hc_1 h
    refine WC.skip ?_
    refine En.next ?_
    refine WC.seq ?_
    refine WC.seq ?_
    refine WC.region ?_
    refine Lt.ofWL.step rfl rfl rfl (OpV.fieldAddr rfl fo_53_2) ?_
    refine Lt.ofWL.step rfl rfl rfl (OpV.loadBox rfl pt_46 (.head _) rfl) ?_
    refine Lt.ofWL.step rfl rfl rfl (OpV.len rfl si_46 rfl) ?_
    refine Lt.ofWL.step rfl rfl rfl (OpV.move rfl) ?_
    refine WL.nil ?_
    refine En.next ?_
    refine WC.block ?_
    obtain ⟨zy0, ezy0, h⟩ := bnd h
    refine WC.cut (X := (Unit) × (Unit)) (.exit 0) (fun x => zy0 = .inl x.1) (fun x => match x with | ((), ()) => []) (fun x => match x with | ((), ()) => []) ?_ ?_
    ·
      rintro ⟨⟨⟩, ⟨⟩⟩ hx
      replace hx : .inl () = zy0 := hx.symm
      subst hx
      replace h := fork_l h
      show En _ _ _ _ [] []
      refine En.block_exit ?_
      refine En.next ?_
      refine WC.seq ?_
      refine WC.region ?_
      refine Lt.ofWL.step rfl rfl rfl (OpV.assign rfl) ?_
      refine WL.nil ?_
      refine En.next ?_
      refine WC.ret ?_
      refine En.ret1 rfl (Res.tmp rfl) ?_
      obtain rfl := Option.some.inj h
      intro w' hs
      exact ⟨rfl, hs.below⟩
    ·
      intro zK0_0
      refine WC.loopP (G := Unit) (fun s g => match s, g with | v_0, () => [(27, .slice q0_0 i_p0.Data.length k0_0), (28, .int .i64 (i_p0.Data.length : Int)), (29, .int .i64 v_0)]) (fun s g => match s, g with | v_0, () => []) 0 () ezy0 (by exact Sub.cons rfl (Sub.cons rfl (Sub.cons rfl (Sub.nil _)))) (by exact (fun _ h => (h).sub (.cons _ (.slnil)))) ?_
      rintro zm0 v_0 ⟨⟩ zo0 zf0 zb0 ze0
      have zh0 : impl_ImageOk_L0 i_p0 v_0 = some zo0 := zf0
      unfold impl_ImageOk_L0 at zh0
      show WC _ _ _ _ _ [(27, .slice q0_0 i_p0.Data.length k0_0), (28, .int .i64 (i_p0.Data.length : Int)), (29, .int .i64 v_0)] []
      refine WC.seq ?_
      refine WC.region ?_
      refine Lt.ofWL.step rfl rfl rfl (OpV.lss rfl rfl) ?_
      refine WL.nil ?_
      refine En.next ?_
      refine WC.seq ?_
      refine WC.cond rfl ?_ ?_
      ·
        intro hc_2
        replace zh0 := ifO_t hc_2 zh0
        refine WC.skip ?_
        refine En.next ?_
        refine WC.seq ?_
        refine WC.block ?_
        refine WC.seq ?_
        obtain ⟨x5_0, e5_0, zh0⟩ := bnd zh0
        obtain ⟨g5_0, o5_0, _, ha5_0, rfl, hd5_0⟩ := Rd.atIdx r0_0 e5_0
        replace hd5_0 : ∀ (j : Nat) v, ([.int .i64 x5_0] : List Value)[j]? = some v → w.cell? ⟨g5_0, o5_0 + v_0.toNat * 1 + j, .none⟩ = some v := hd5_0
        refine WC.region ?_
        refine Lt.ofWL.step rfl rfl rfl (OpV.idxA rfl rfl se_46 ha5_0 ⟨(idx_some e5_0).1, (idx_some e5_0).2.1⟩) ?_
        refine Lt.ofWL.step rfl rfl rfl (OpV.load1 rfl pt_3 (fun w hs => hs.cell (hd5_0 0 _ rfl))) ?_
        refine Lt.ofWL.step rfl rfl rfl (OpV.assign rfl) ?_
        refine WL.nil ?_
        refine En.next ?_
        refine WC.seq ?_
        obtain ⟨x6_1, e6_1, zh0⟩ := bnd zh0
        refine WC.region ?_
        refine Lt.ofWL.step rfl rfl rfl (OpV.move rfl) ?_
        refine Lt.ofWL.step rfl rfl rfl (OpV.call (evs.cons rfl (evs.nil)) ca_139 (fun w hs => w_impl_isPixel e6_1)) ?_
        refine Lt.ofWL.step rfl rfl rfl (OpV.not rfl) ?_
        refine WL.nil ?_
        refine En.next ?_
        refine WC.cond rfl ?_ ?_
        ·
          intro hc_3
          replace zh0 := ifO_t hc_3 zh0
          refine WC.seq ?_
          refine WC.region ?_
          refine Lt.ofWL.step rfl rfl rfl (OpV.assign rfl) ?_
          refine WL.nil ?_
          refine En.next ?_
          refine WC.ret ?_
          refine En.block_ret ?_
          refine En.then_ret ?_
          refine En.then_ret ?_
          refine En.block_ret ?_
          refine En.then_ret ?_
          refine En.ret1 rfl (Res.tmp rfl) ?_
          have hx := exitP ze0 zh0
          subst hx
          replace h := fork_r h
          obtain rfl := Option.some.inj h
          intro w' hs
          exact ⟨rfl, hs.below⟩
        ·
          intro hc_3
          replace zh0 := ifO_f hc_3 zh0
          refine WC.skip ?_
          refine En.block_norm ?_
          refine En.next ?_
          refine WC.region ?_
          refine Lt.ofWL.step rfl rfl rfl (OpV.addR rfl rfl) ?_
          refine Lt.ofWL.step rfl rfl rfl (OpV.move rfl) ?_
          refine WL.nil ?_
          exact En.backP zb0 zh0 () (Sub.cons rfl (Sub.cons rfl (Sub.cons rfl (Sub.nil _)))) (fun _ h => h)
      ·
        intro hc_2
        replace zh0 := ifO_f hc_2 zh0
        refine WC.exit ?_
        refine En.then_exit ?_
        refine En.then_exit ?_
        have hx := exitP ze0 zh0
        exact En.wk _ _ (Sub.nil _) (fun _ h => h) (zK0_0 ((), ()) hx.symm)

theorem w_impl_SurfaceOk {s_p0 : SurfaceT} {r : Bool} {q0_0 : Option Addr} {n0_0 k0_0 : Nat} (h : impl_SurfaceOk s_p0 = some r) {w : World} (r0_0 : Rd tInt w q0_0 n0_0 k0_0 s_p0.Buffer.Data)  :
    Calls Try.prog 88 #[.agg #[.int .i64 s_p0.Id, .int .i64 s_p0.X, .int .i64 s_p0.Y, .int .i64 s_p0.W, .int .i64 s_p0.H, .int .i64 s_p0.Alpha, .int .i64 s_p0.Orient, .bool s_p0.Visible, .int .i64 s_p0.Buffer.W, .int .i64 s_p0.Buffer.H, .slice q0_0 n0_0 k0_0]] w (fun en w' => en = .returned (.bool r) ∧ Ext w w') := by
  obtain rfl := r0_0.1
  unfold impl_SurfaceOk at h
  refine enter (vs := [_]) Try.func88 rfl rfl rfl rfl ?_
  refine WC.seq ?_
  refine WC.region ?_
  refine WL.heavy rfl rfl rfl (OpH.box rfl rfl ?_)
  intro b0_0
  refine Lt.ofWL.step rfl rfl rfl (OpV.assign rfl) ?_
  refine WL.nil ?_
  refine En.next ?_
  refine WC.seq ?_
  obtain ⟨x1_2, e1_2, h⟩ := bnd h
  obtain ⟨q1_7, e1_7, h⟩ := bnd h
  refine WC.region ?_
  refine Lt.ofWL.step rfl rfl rfl (OpV.fieldAddr rfl fo_55_3) ?_
  refine Lt.ofWL.step rfl rfl rfl (OpV.loadBox rfl pt_3 (.head _) rfl) ?_
  refine Lt.ofWL.step rfl rfl rfl (OpV.call (evs.cons rfl (evs.nil)) ca_120 (fun w hs => w_impl_isSide e1_2)) ?_
  refine Lt.ofWL.step rfl rfl rfl (OpV.move rfl) ?_
  refine Lt.ofWL.andQ 7 11 10 (p := ?pz1) (rest := ?qz1) (B := q1_7) rfl (fun hz => andO_f e1_7 hz) ?Tz1 ?Fz1 ?az1 ?bz1 ?cz1 ?dz1 ?ez1
  case Tz1 =>
    intro hcz1 hkz1
    have hqz1 := andO_t e1_7 hcz1
    obtain ⟨x1_6, e1_6, hqz1⟩ := bnd hqz1
    obtain rfl := Option.some.inj hqz1
    refine Lt.ofWL.step rfl rfl rfl (OpV.fieldAddr rfl fo_55_4) ?_
    refine Lt.ofWL.step rfl rfl rfl (OpV.loadBox rfl pt_3 (.head _) rfl) ?_
    refine Lt.ofWL.step rfl rfl rfl (OpV.call (evs.cons rfl (evs.nil)) ca_120 (fun w hs => w_impl_isSide e1_6)) ?_
    refine hkz1 _ ?_ ?_
    exact rfl
    repeat (first | exact Sub.refl _ | refine Sub.skip rfl ?_)
  case Fz1 =>
    intro hcz1 hkz1
    refine Lt.ofWL.skip rfl rfl rfl ?_
    refine Lt.ofWL.skip rfl rfl rfl ?_
    refine Lt.ofWL.skip rfl rfl rfl ?_
    refine hkz1 _ ?_
    repeat (first | exact Sub.refl _ | refine Sub.skip rfl ?_)
  case az1 => exact rfl
  case bz1 => exact rfl
  case cz1 => exact rfl
  case dz1 => exact rfl
  refine Lt.ofWL.step rfl rfl rfl (OpV.move rfl) ?_
  refine Lt.ofWL.or 12 21 20 (p := ?pz2) (rest := ?qz2) (B := ?Bz2) rfl ?Tz2 ?Fz2 ?az2 ?bz2 ?cz2 ?dz2 ?ez2
  case Tz2 =>
    intro hcz2 hkz2
    refine Lt.ofWL.skip rfl rfl rfl ?_
    refine Lt.ofWL.skip rfl rfl rfl ?_
    refine Lt.ofWL.skip rfl rfl rfl ?_
    refine Lt.ofWL.skip rfl rfl rfl ?_
    refine Lt.ofWL.skip rfl rfl rfl ?_
    refine Lt.ofWL.skip rfl rfl rfl ?_
    refine Lt.ofWL.skip rfl rfl rfl ?_
    refine Lt.ofWL.skip rfl rfl rfl ?_
    refine hkz2 _ ?_
    repeat (first | exact Sub.refl _ | refine Sub.skip rfl ?_)
  case Fz2 =>
    intro hcz2 hkz2
    refine Lt.ofWL.step rfl rfl rfl (OpV.fieldAddr rfl fo_55_3) ?_
    refine Lt.ofWL.step rfl rfl rfl (OpV.loadBox rfl pt_3 (.head _) rfl) ?_
    refine Lt.ofWL.step rfl rfl rfl (OpV.eql rfl rfl) ?_
    refine Lt.ofWL.step rfl rfl rfl (OpV.move rfl) ?_
    refine Lt.ofWL.and 16 20 19 (p := ?pz3) (rest := ?qz3) (B := ?Bz3) rfl ?Tz3 ?Fz3 ?az3 ?bz3 ?cz3 ?dz3 ?ez3
    case Tz3 =>
      intro hcz3 hkz3
      refine Lt.ofWL.step rfl rfl rfl (OpV.fieldAddr rfl fo_55_4) ?_
      refine Lt.ofWL.step rfl rfl rfl (OpV.loadBox rfl pt_3 (.head _) rfl) ?_
      refine Lt.ofWL.step rfl rfl rfl (OpV.eql rfl rfl) ?_
      refine hkz3 _ ?_ ?_
      exact rfl
      repeat (first | exact Sub.refl _ | refine Sub.skip rfl ?_)
    case Fz3 =>
      intro hcz3 hkz3
      refine Lt.ofWL.skip rfl rfl rfl ?_
      refine Lt.ofWL.skip rfl rfl rfl ?_
      refine Lt.ofWL.skip rfl rfl rfl ?_
      refine hkz3 _ ?_
      repeat (first | exact Sub.refl _ | refine Sub.skip rfl ?_)
    case az3 => exact rfl
    case bz3 => exact rfl
    case cz3 => exact rfl
    case dz3 => exact rfl
    refine hkz2 _ ?_ ?_
    exact rfl
    repeat (first | exact Sub.refl _ | refine Sub.skip rfl ?_)
  case az2 => exact rfl
  case bz2 => exact rfl
  case cz2 => exact rfl
  case dz2 => exact rfl
  refine Lt.ofWL.step rfl rfl rfl (OpV.assign rfl) ?_
  refine WL.nil ?_
  refine En.next ?_
  refine WC.seq ?_
  obtain ⟨x2_2, e2_2, h⟩ := bnd h
  obtain ⟨q2_7, e2_7, h⟩ := bnd h
  obtain ⟨q2_12, e2_12, h⟩ := bnd h
  obtain ⟨q2_20, e2_20, h⟩ := bnd h
  obtain ⟨q2_25, e2_25, h⟩ := bnd h
  obtain ⟨q2_30, e2_30, h⟩ := bnd h
  refine WC.region ?_
  refine Lt.ofWL.step rfl rfl rfl (OpV.fieldAddr rfl fo_55_0) ?_
  refine Lt.ofWL.step rfl rfl rfl (OpV.loadBox rfl pt_3 (.head _) rfl) ?_
  refine Lt.ofWL.step rfl rfl rfl (OpV.call (evs.cons rfl (evs.cons rfl (evs.cons rfl (evs.nil)))) ca_80 (fun w hs => w_impl_within e2_2)) ?_
  refine Lt.ofWL.step rfl rfl rfl (OpV.move rfl) ?_
  refine Lt.ofWL.andQ 25 29 28 (p := ?pz4) (rest := ?qz4) (B := q2_7) rfl (fun hz => andO_f e2_7 hz) ?Tz4 ?Fz4 ?az4 ?bz4 ?cz4 ?dz4 ?ez4
  case Tz4 =>
    intro hcz4 hkz4
    have hqz4 := andO_t e2_7 hcz4
    obtain ⟨x2_6, e2_6, hqz4⟩ := bnd hqz4
    obtain rfl := Option.some.inj hqz4
    refine Lt.ofWL.step rfl rfl rfl (OpV.fieldAddr rfl fo_55_1) ?_
    refine Lt.ofWL.step rfl rfl rfl (OpV.loadBox rfl pt_3 (.head _) rfl) ?_
    refine Lt.ofWL.step rfl rfl rfl (OpV.call (evs.cons rfl (evs.cons rfl (evs.cons rfl (evs.nil)))) ca_80 (fun w hs => w_impl_within e2_6)) ?_
    refine hkz4 _ ?_ ?_
    exact rfl
    repeat (first | exact Sub.refl _ | refine Sub.skip rfl ?_)
  case Fz4 =>
    intro hcz4 hkz4
    refine Lt.ofWL.skip rfl rfl rfl ?_
    refine Lt.ofWL.skip rfl rfl rfl ?_
    refine Lt.ofWL.skip rfl rfl rfl ?_
    refine hkz4 _ ?_
    repeat (first | exact Sub.refl _ | refine Sub.skip rfl ?_)
  case az4 => exact rfl
  case bz4 => exact rfl
  case cz4 => exact rfl
  case dz4 => exact rfl
  refine Lt.ofWL.step rfl rfl rfl (OpV.move rfl) ?_
  refine Lt.ofWL.andQ 30 34 33 (p := ?pz5) (rest := ?qz5) (B := q2_12) rfl (fun hz => andO_f e2_12 hz) ?Tz5 ?Fz5 ?az5 ?bz5 ?cz5 ?dz5 ?ez5
  case Tz5 =>
    intro hcz5 hkz5
    have hqz5 := andO_t e2_12 hcz5
    obtain ⟨x2_11, e2_11, hqz5⟩ := bnd hqz5
    obtain rfl := Option.some.inj hqz5
    refine Lt.ofWL.step rfl rfl rfl (OpV.fieldAddr rfl fo_55_2) ?_
    refine Lt.ofWL.step rfl rfl rfl (OpV.loadBox rfl pt_3 (.head _) rfl) ?_
    refine Lt.ofWL.step rfl rfl rfl (OpV.call (evs.cons rfl (evs.cons rfl (evs.cons rfl (evs.nil)))) ca_80 (fun w hs => w_impl_within e2_11)) ?_
    refine hkz5 _ ?_ ?_
    exact rfl
    repeat (first | exact Sub.refl _ | refine Sub.skip rfl ?_)
  case Fz5 =>
    intro hcz5 hkz5
    refine Lt.ofWL.skip rfl rfl rfl ?_
    refine Lt.ofWL.skip rfl rfl rfl ?_
    refine Lt.ofWL.skip rfl rfl rfl ?_
    refine hkz5 _ ?_
    repeat (first | exact Sub.refl _ | refine Sub.skip rfl ?_)
  case az5 => exact rfl
  case bz5 => exact rfl
  case cz5 => exact rfl
  case dz5 => exact rfl
  refine Lt.ofWL.step rfl rfl rfl (OpV.move rfl) ?_
  refine Lt.ofWL.and 35 37 36 (p := ?pz6) (rest := ?qz6) (B := ?Bz6) rfl ?Tz6 ?Fz6 ?az6 ?bz6 ?cz6 ?dz6 ?ez6
  case Tz6 =>
    intro hcz6 hkz6
    refine Lt.ofWL.step rfl rfl rfl (OpV.move rfl) ?_
    refine hkz6 _ ?_ ?_
    exact rfl
    repeat (first | exact Sub.refl _ | refine Sub.skip rfl ?_)
  case Fz6 =>
    intro hcz6 hkz6
    refine Lt.ofWL.skip rfl rfl rfl ?_
    refine hkz6 _ ?_
    repeat (first | exact Sub.refl _ | refine Sub.skip rfl ?_)
  case az6 => exact rfl
  case bz6 => exact rfl
  case cz6 => exact rfl
  case dz6 => exact rfl
  refine Lt.ofWL.step rfl rfl rfl (OpV.move rfl) ?_
  refine Lt.ofWL.andQ 38 42 41 (p := ?pz7) (rest := ?qz7) (B := q2_20) rfl (fun hz => andO_f e2_20 hz) ?Tz7 ?Fz7 ?az7 ?bz7 ?cz7 ?dz7 ?ez7
  case Tz7 =>
    intro hcz7 hkz7
    have hqz7 := andO_t e2_20 hcz7
    obtain ⟨x2_19, e2_19, hqz7⟩ := bnd hqz7
    obtain rfl := Option.some.inj hqz7
    refine Lt.ofWL.step rfl rfl rfl (OpV.fieldAddr rfl fo_55_5) ?_
    refine Lt.ofWL.step rfl rfl rfl (OpV.loadBox rfl pt_3 (.head _) rfl) ?_
    refine Lt.ofWL.step rfl rfl rfl (OpV.call (evs.cons rfl (evs.cons rfl (evs.cons rfl (evs.nil)))) ca_80 (fun w hs => w_impl_within e2_19)) ?_
    refine hkz7 _ ?_ ?_
    exact rfl
    repeat (first | exact Sub.refl _ | refine Sub.skip rfl ?_)
  case Fz7 =>
    intro hcz7 hkz7
    refine Lt.ofWL.skip rfl rfl rfl ?_
    refine Lt.ofWL.skip rfl rfl rfl ?_
    refine Lt.ofWL.skip rfl rfl rfl ?_
    refine hkz7 _ ?_
    repeat (first | exact Sub.refl _ | refine Sub.skip rfl ?_)
  case az7 => exact rfl
  case bz7 => exact rfl
  case cz7 => exact rfl
  case dz7 => exact rfl
  refine Lt.ofWL.step rfl rfl rfl (OpV.move rfl) ?_
  refine Lt.ofWL.andQ 43 47 46 (p := ?pz8) (rest := ?qz8) (B := q2_25) rfl (fun hz => andO_f e2_25 hz) ?Tz8 ?Fz8 ?az8 ?bz8 ?cz8 ?dz8 ?ez8
  case Tz8 =>
    intro hcz8 hkz8
    have hqz8 := andO_t e2_25 hcz8
    obtain ⟨x2_24, e2_24, hqz8⟩ := bnd hqz8
    obtain rfl := Option.some.inj hqz8
    refine Lt.ofWL.step rfl rfl rfl (OpV.fieldAddr rfl fo_55_6) ?_
    refine Lt.ofWL.step rfl rfl rfl (OpV.loadBox rfl pt_3 (.head _) rfl) ?_
    refine Lt.ofWL.step rfl rfl rfl (OpV.call (evs.cons rfl (evs.nil)) ca_123 (fun w hs => w_impl_isOrient e2_24)) ?_
    refine hkz8 _ ?_ ?_
    exact rfl
    repeat (first | exact Sub.refl _ | refine Sub.skip rfl ?_)
  case Fz8 =>
    intro hcz8 hkz8
    refine Lt.ofWL.skip rfl rfl rfl ?_
    refine Lt.ofWL.skip rfl rfl rfl ?_
    refine Lt.ofWL.skip rfl rfl rfl ?_
    refine hkz8 _ ?_
    repeat (first | exact Sub.refl _ | refine Sub.skip rfl ?_)
  case az8 => exact rfl
  case bz8 => exact rfl
  case cz8 => exact rfl
  case dz8 => exact rfl
  refine Lt.ofWL.step rfl rfl rfl (OpV.move rfl) ?_
  refine Lt.ofWL.andQ 48 52 51 (p := ?pz9) (rest := ?qz9) (B := q2_30) rfl (fun hz => andO_f e2_30 hz) ?Tz9 ?Fz9 ?az9 ?bz9 ?cz9 ?dz9 ?ez9
  case Tz9 =>
    intro hcz9 hkz9
    have hqz9 := andO_t e2_30 hcz9
    obtain ⟨x2_29, e2_29, hqz9⟩ := bnd hqz9
    obtain rfl := Option.some.inj hqz9
    refine Lt.ofWL.step rfl rfl rfl (OpV.fieldAddr rfl fo_55_8) ?_
    refine Lt.ofWL.step rfl rfl rfl (OpV.loadPart rfl (.head _) ag_53 rfl rfl) ?_
    refine Lt.ofWL.step rfl rfl rfl (OpV.call (evs.cons rfl (evs.nil)) ca_124 (fun w hs => w_impl_ImageOk e2_29 (r0_0.ext hs.below))) ?_
    refine hkz9 _ ?_ ?_
    exact rfl
    repeat (first | exact Sub.refl _ | refine Sub.skip rfl ?_)
  case Fz9 =>
    intro hcz9 hkz9
    refine Lt.ofWL.skip rfl rfl rfl ?_
    refine Lt.ofWL.skip rfl rfl rfl ?_
    refine Lt.ofWL.skip rfl rfl rfl ?_
    refine hkz9 _ ?_
    repeat (first | exact Sub.refl _ | refine Sub.skip rfl ?_)
  case az9 => exact rfl
  case bz9 => exact rfl
  case cz9 => exact rfl
  case dz9 => exact rfl
  refine Lt.ofWL.step rfl rfl rfl (OpV.assign rfl) ?_
  refine WL.nil ?_
  refine En.next ?_
  refine WC.ret ?_
  refine En.ret1 rfl (Res.tmp rfl) ?_
  obtain rfl := Option.some.inj h
  intro w' hs
  exact ⟨rfl, hs.below⟩

theorem w_impl_FitsCursor {s_p0 : SurfaceT} {r : Bool} {q0_0 : Option Addr} {n0_0 k0_0 : Nat} (h : impl_FitsCursor s_p0 = some r) {w : World} (r0_0 : Rd tInt w q0_0 n0_0 k0_0 s_p0.Buffer.Data)  :
    Calls Try.prog 30 #[.agg #[.int .i64 s_p0.Id, .int .i64 s_p0.X, .int .i64 s_p0.Y, .int .i64 s_p0.W, .int .i64 s_p0.H, .int .i64 s_p0.Alpha, .int .i64 s_p0.Orient, .bool s_p0.Visible, .int .i64 s_p0.Buffer.W, .int .i64 s_p0.Buffer.H, .slice q0_0 n0_0 k0_0]] w (fun en w' => en = .returned (.bool r) ∧ Ext w w') := by
  obtain rfl := r0_0.1
  unfold impl_FitsCursor at h
  refine enter (vs := [_]) Try.func30 rfl rfl rfl rfl ?_
  refine WC.seq ?_
  refine WC.region ?_
  refine WL.heavy rfl rfl rfl (OpH.box rfl rfl ?_)
  intro b0_0
  refine Lt.ofWL.step rfl rfl rfl (OpV.assign rfl) ?_
  refine WL.nil ?_
  refine En.next ?_
  refine WC.seq ?_
  obtain ⟨x1_1, e1_1, h⟩ := bnd h
  refine WC.region ?_
  refine Lt.ofWL.step rfl rfl rfl (OpV.loadAll rfl (.head _) ag_55) ?_
  refine Lt.ofWL.step rfl rfl rfl (OpV.call (evs.cons rfl (evs.nil)) ca_88 (fun w hs => w_impl_SurfaceOk e1_1 (r0_0.ext hs.below))) ?_
  refine Lt.ofWL.step rfl rfl rfl (OpV.move rfl) ?_
  refine Lt.ofWL.and 5 9 8 (p := ?pz1) (rest := ?qz1) (B := ?Bz1) rfl ?Tz1 ?Fz1 ?az1 ?bz1 ?cz1 ?dz1 ?ez1
  case Tz1 =>
    intro hcz1 hkz1
    refine Lt.ofWL.step rfl rfl rfl (OpV.fieldAddr rfl fo_55_5) ?_
    refine Lt.ofWL.step rfl rfl rfl (OpV.loadBox rfl pt_3 (.head _) rfl) ?_
    refine Lt.ofWL.step rfl rfl rfl (OpV.eql rfl rfl) ?_
    refine hkz1 _ ?_ ?_
    exact rfl
    repeat (first | exact Sub.refl _ | refine Sub.skip rfl ?_)
  case Fz1 =>
    intro hcz1 hkz1
    refine Lt.ofWL.skip rfl rfl rfl ?_
    refine Lt.ofWL.skip rfl rfl rfl ?_
    refine Lt.ofWL.skip rfl rfl rfl ?_
    refine hkz1 _ ?_
    repeat (first | exact Sub.refl _ | refine Sub.skip rfl ?_)
  case az1 => exact rfl
  case bz1 => exact rfl
  case cz1 => exact rfl
  case dz1 => exact rfl
  refine Lt.ofWL.step rfl rfl rfl (OpV.move rfl) ?_
  refine Lt.ofWL.and 10 14 13 (p := ?pz2) (rest := ?qz2) (B := ?Bz2) rfl ?Tz2 ?Fz2 ?az2 ?bz2 ?cz2 ?dz2 ?ez2
  case Tz2 =>
    intro hcz2 hkz2
    refine Lt.ofWL.step rfl rfl rfl (OpV.fieldAddr rfl fo_55_6) ?_
    refine Lt.ofWL.step rfl rfl rfl (OpV.loadBox rfl pt_3 (.head _) rfl) ?_
    refine Lt.ofWL.step rfl rfl rfl (OpV.eql rfl rfl) ?_
    refine hkz2 _ ?_ ?_
    exact rfl
    repeat (first | exact Sub.refl _ | refine Sub.skip rfl ?_)
  case Fz2 =>
    intro hcz2 hkz2
    refine Lt.ofWL.skip rfl rfl rfl ?_
    refine Lt.ofWL.skip rfl rfl rfl ?_
    refine Lt.ofWL.skip rfl rfl rfl ?_
    refine hkz2 _ ?_
    repeat (first | exact Sub.refl _ | refine Sub.skip rfl ?_)
  case az2 => exact rfl
  case bz2 => exact rfl
  case cz2 => exact rfl
  case dz2 => exact rfl
  refine Lt.ofWL.step rfl rfl rfl (OpV.move rfl) ?_
  refine Lt.ofWL.and 15 19 18 (p := ?pz3) (rest := ?qz3) (B := ?Bz3) rfl ?Tz3 ?Fz3 ?az3 ?bz3 ?cz3 ?dz3 ?ez3
  case Tz3 =>
    intro hcz3 hkz3
    refine Lt.ofWL.step rfl rfl rfl (OpV.fieldAddr rfl fo_55_3) ?_
    refine Lt.ofWL.step rfl rfl rfl (OpV.loadBox rfl pt_3 (.head _) rfl) ?_
    refine Lt.ofWL.step rfl rfl rfl (OpV.eql rfl rfl) ?_
    refine hkz3 _ ?_ ?_
    exact rfl
    repeat (first | exact Sub.refl _ | refine Sub.skip rfl ?_)
  case Fz3 =>
    intro hcz3 hkz3
    refine Lt.ofWL.skip rfl rfl rfl ?_
    refine Lt.ofWL.skip rfl rfl rfl ?_
    refine Lt.ofWL.skip rfl rfl rfl ?_
    refine hkz3 _ ?_
    repeat (first | exact Sub.refl _ | refine Sub.skip rfl ?_)
  case az3 => exact rfl
  case bz3 => exact rfl
  case cz3 => exact rfl
  case dz3 => exact rfl
  refine Lt.ofWL.step rfl rfl rfl (OpV.move rfl) ?_
  refine Lt.ofWL.and 20 24 23 (p := ?pz4) (rest := ?qz4) (B := ?Bz4) rfl ?Tz4 ?Fz4 ?az4 ?bz4 ?cz4 ?dz4 ?ez4
  case Tz4 =>
    intro hcz4 hkz4
    refine Lt.ofWL.step rfl rfl rfl (OpV.fieldAddr rfl fo_55_4) ?_
    refine Lt.ofWL.step rfl rfl rfl (OpV.loadBox rfl pt_3 (.head _) rfl) ?_
    refine Lt.ofWL.step rfl rfl rfl (OpV.eql rfl rfl) ?_
    refine hkz4 _ ?_ ?_
    exact rfl
    repeat (first | exact Sub.refl _ | refine Sub.skip rfl ?_)
  case Fz4 =>
    intro hcz4 hkz4
    refine Lt.ofWL.skip rfl rfl rfl ?_
    refine Lt.ofWL.skip rfl rfl rfl ?_
    refine Lt.ofWL.skip rfl rfl rfl ?_
    refine hkz4 _ ?_
    repeat (first | exact Sub.refl _ | refine Sub.skip rfl ?_)
  case az4 => exact rfl
  case bz4 => exact rfl
  case cz4 => exact rfl
  case dz4 => exact rfl
  refine Lt.ofWL.step rfl rfl rfl (OpV.move rfl) ?_
  refine Lt.ofWL.and 25 30 29 (p := ?pz5) (rest := ?qz5) (B := ?Bz5) rfl ?Tz5 ?Fz5 ?az5 ?bz5 ?cz5 ?dz5 ?ez5
  case Tz5 =>
    intro hcz5 hkz5
    refine Lt.ofWL.step rfl rfl rfl (OpV.fieldAddr rfl fo_55_8) ?_
    refine Lt.ofWL.step rfl rfl rfl (OpV.fieldAddr rfl fo_53_0) ?_
    refine Lt.ofWL.step rfl rfl rfl (OpV.loadBox rfl pt_3 (.head _) rfl) ?_
    refine Lt.ofWL.step rfl rfl rfl (OpV.leq rfl rfl) ?_
    refine hkz5 _ ?_ ?_
    exact rfl
    repeat (first | exact Sub.refl _ | refine Sub.skip rfl ?_)
  case Fz5 =>
    intro hcz5 hkz5
    refine Lt.ofWL.skip rfl rfl rfl ?_
    refine Lt.ofWL.skip rfl rfl rfl ?_
    refine Lt.ofWL.skip rfl rfl rfl ?_
    refine Lt.ofWL.skip rfl rfl rfl ?_
    refine hkz5 _ ?_
    repeat (first | exact Sub.refl _ | refine Sub.skip rfl ?_)
  case az5 => exact rfl
  case bz5 => exact rfl
  case cz5 => exact rfl
  case dz5 => exact rfl
  refine Lt.ofWL.step rfl rfl rfl (OpV.move rfl) ?_
  refine Lt.ofWL.and 31 36 35 (p := ?pz6) (rest := ?qz6) (B := ?Bz6) rfl ?Tz6 ?Fz6 ?az6 ?bz6 ?cz6 ?dz6 ?ez6
  case Tz6 =>
    intro hcz6 hkz6
    refine Lt.ofWL.step rfl rfl rfl (OpV.fieldAddr rfl fo_55_8) ?_
    refine Lt.ofWL.step rfl rfl rfl (OpV.fieldAddr rfl fo_53_1) ?_
    refine Lt.ofWL.step rfl rfl rfl (OpV.loadBox rfl pt_3 (.head _) rfl) ?_
    refine Lt.ofWL.step rfl rfl rfl (OpV.leq rfl rfl) ?_
    refine hkz6 _ ?_ ?_
    exact rfl
    repeat (first | exact Sub.refl _ | refine Sub.skip rfl ?_)
  case Fz6 =>
    intro hcz6 hkz6
    refine Lt.ofWL.skip rfl rfl rfl ?_
    refine Lt.ofWL.skip rfl rfl rfl ?_
    refine Lt.ofWL.skip rfl rfl rfl ?_
    refine Lt.ofWL.skip rfl rfl rfl ?_
    refine hkz6 _ ?_
    repeat (first | exact Sub.refl _ | refine Sub.skip rfl ?_)
  case az6 => exact rfl
  case bz6 => exact rfl
  case cz6 => exact rfl
  case dz6 => exact rfl
  refine Lt.ofWL.step rfl rfl rfl (OpV.assign rfl) ?_
  refine WL.nil ?_
  refine En.next ?_
  refine WC.ret ?_
  refine En.ret1 rfl (Res.tmp rfl) ?_
  obtain rfl := Option.some.inj h
  intro w' hs
  exact ⟨rfl, hs.below⟩

theorem w_laws_eqIntS {a_p0 : List Int} {b_p1 : List Int} {r : Bool} {q0_0 : Option Addr} {n0_0 k0_0 : Nat} {q1_0 : Option Addr} {n1_0 k1_0 : Nat} (h : laws_eqIntS a_p0 b_p1 = some r) {w : World} (r0_0 : Rd tInt w q0_0 n0_0 k0_0 a_p0) (r1_0 : Rd tInt w q1_0 n1_0 k1_0 b_p1)  :
    Calls Try.prog 102 #[.slice q0_0 n0_0 k0_0, .slice q1_0 n1_0 k1_0] w (fun en w' => en = .returned (.bool r) ∧ Ext w w') := by
  obtain rfl := r0_0.1
  obtain rfl := r1_0.1
  unfold laws_eqIntS at h
  refine enter (vs := [_, _]) Try.func102 rfl rfl rfl rfl ?_
  refine WC.seq ?_
  refine WC.region ?_
  refine Lt.ofWL.step rfl rfl rfl (OpV.assign rfl) ?_
  refine WL.nil ?_
  refine En.next ?_
  refine WC.seq ?_
  refine WC.seq ?_
  refine WC.region ?_
  refine Lt.ofWL.step rfl rfl rfl (OpV.move rfl) ?_
  refine Lt.ofWL.step rfl rfl rfl (OpV.len rfl si_46 rfl) ?_
  refine Lt.ofWL.step rfl rfl rfl (OpV.move rfl) ?_
  refine Lt.ofWL.step rfl rfl rfl (OpV.len rfl si_46 rfl) ?_
  refine Lt.ofWL.step rfl rfl rfl (OpV.neq rfl rfl) ?_
  refine WL.nil ?_
  refine En.next ?_
  refine WC.cond rfl ?_ ?_
  ·
    intro hc_1
    replace h := ifO_t hc_1 h
    refine WC.seq ?_
    refine WC.region ?_
    refine Lt.ofWL.step rfl rfl rfl (OpV.assign rfl) ?_
    refine WL.nil ?_
    refine En.next ?_
    refine WC.ret ?_
    refine En.then_ret ?_
    refine En.ret1 rfl (Res.tmp rfl) ?_
    obtain rfl := Option.some.inj h
    intro w' hs
    exact ⟨rfl, hs.below⟩
  ·
    intro hc_1
    replace h := ifO_f hc_1 h
    refine WC.skip ?_
    refine En.next ?_
    refine WC.seq ?_
    refine WC.seq ?_
    refine WC.region ?_
    refine Lt.ofWL.step rfl rfl rfl (OpV.assign rfl) ?_
    refine WL.nil ?_
    refine En.next ?_
    refine WC.block ?_
    obtain ⟨zy0, ezy0, h⟩ := bnd h
    refine WC.cut (X := (Unit) × (Unit)) (.exit 0) (fun x => zy0 = .inl x.1) (fun x => match x with | ((), ()) => []) (fun x => match x with | ((), ()) => []) ?_ ?_
    ·
      rintro ⟨⟨⟩, ⟨⟩⟩ hx
      replace hx : .inl () = zy0 := hx.symm
      subst hx
      replace h := fork_l h
      show En _ _ _ _ [] []
      refine En.block_exit ?_
      refine En.next ?_
      refine WC.seq ?_
      refine WC.region ?_
      refine Lt.ofWL.step rfl rfl rfl (OpV.assign rfl) ?_
      refine WL.nil ?_
      refine En.next ?_
      refine WC.ret ?_
      refine En.ret1 rfl (Res.tmp rfl) ?_
      obtain rfl := Option.some.inj h
      intro w' hs
      exact ⟨rfl, hs.below⟩
    ·
      intro zK0_0
      refine WC.loopP (G := Unit) (fun s g => match s, g with | i_0, () => [(0, .slice q0_0 a_p0.length k0_0), (1, .slice q1_0 b_p1.length k1_0), (5, .int .i64 i_0)]) (fun s g => match s, g with | i_0, () => []) 0 () ezy0 (by exact Sub.cons rfl (Sub.cons rfl (Sub.cons rfl (Sub.nil _)))) (by exact (fun _ h => h)) ?_
      rintro zm0 i_0 ⟨⟩ zo0 zf0 zb0 ze0
      have zh0 : laws_eqIntS_L0 a_p0 b_p1 i_0 = some zo0 := zf0
      unfold laws_eqIntS_L0 at zh0
      show WC _ _ _ _ _ [(0, .slice q0_0 a_p0.length k0_0), (1, .slice q1_0 b_p1.length k1_0), (5, .int .i64 i_0)] []
      refine WC.seq ?_
      refine WC.seq ?_
      refine WC.region ?_
      refine Lt.ofWL.step rfl rfl rfl (OpV.move rfl) ?_
      refine Lt.ofWL.step rfl rfl rfl (OpV.move rfl) ?_
      refine Lt.ofWL.step rfl rfl rfl (OpV.len rfl si_46 rfl) ?_
      refine Lt.ofWL.step rfl rfl rfl (OpV.lss rfl rfl) ?_
      refine WL.nil ?_
      refine En.next ?_
      refine WC.cond rfl ?_ ?_
      ·
        intro hc_2
        replace zh0 := ifO_t hc_2 zh0
        refine WC.skip ?_
        refine En.next ?_
        refine WC.seq ?_
        refine WC.block ?_
        refine WC.seq ?_
        obtain ⟨x6_2, e6_2, zh0⟩ := bnd zh0
        obtain ⟨g6_2, o6_2, _, ha6_2, rfl, hd6_2⟩ := Rd.atIdx r0_0 e6_2
        replace hd6_2 : ∀ (j : Nat) v, ([.int .i64 x6_2] : List Value)[j]? = some v → w.cell? ⟨g6_2, o6_2 + i_0.toNat * 1 + j, .none⟩ = some v := hd6_2
        obtain ⟨x6_6, e6_6, zh0⟩ := bnd zh0
        obtain ⟨g6_6, o6_6, _, ha6_6, rfl, hd6_6⟩ := Rd.atIdx r1_0 e6_6
        replace hd6_6 : ∀ (j : Nat) v, ([.int .i64 x6_6] : List Value)[j]? = some v → w.cell? ⟨g6_6, o6_6 + i_0.toNat * 1 + j, .none⟩ = some v := hd6_6
        refine WC.drawn [(0, ?r6v0), (1, ?r6v1), (5, ?r6v5), (25, ?r6v25)] (by kernel_rfl) (by kernel_rfl) ?dH6 ?dK6
        case dH6 =>
          intro W hW hk
          refine hW.step rfl rfl rfl (OpV.move rfl) ?_
          refine hW.step rfl rfl rfl (OpV.move rfl) ?_
          refine hW.step rfl rfl rfl (OpV.idxA rfl rfl se_46 ha6_2 ⟨(idx_some e6_2).1, (idx_some e6_2).2.1⟩) ?_
          refine hW.step rfl rfl rfl (OpV.load1 rfl pt_3 (fun w hs => hs.cell (hd6_2 0 _ rfl))) ?_
          refine hW.step rfl rfl rfl (OpV.move rfl) ?_
          refine hW.step rfl rfl rfl (OpV.move rfl) ?_
          refine hW.step rfl rfl rfl (OpV.idxA rfl rfl se_46 ha6_6 ⟨(idx_some e6_6).1, (idx_some e6_6).2.1⟩) ?_
          refine hW.step rfl rfl rfl (OpV.load1 rfl pt_3 (fun w hs => hs.cell (hd6_6 0 _ rfl))) ?_
          refine hW.step rfl rfl rfl (OpV.neq rfl rfl) ?_
          refine hk _ ?_
          refine Sub.cons ?_ (Sub.cons ?_ (Sub.cons ?_ (Sub.cons ?_ (Sub.nil _))))
          all_goals exact rfl
        refine En.next ?_
        refine WC.cond rfl ?_ ?_
        ·
          intro hc_3
          replace zh0 := ifO_t hc_3 zh0
          refine WC.seq ?_
          refine WC.region ?_
          refine Lt.ofWL.step rfl rfl rfl (OpV.assign rfl) ?_
          refine WL.nil ?_
          refine En.next ?_
          refine WC.ret ?_
          refine En.block_ret ?_
          refine En.then_ret ?_
          refine En.then_ret ?_
          refine En.block_ret ?_
          refine En.then_ret ?_
          refine En.ret1 rfl (Res.tmp rfl) ?_
          have hx := exitP ze0 zh0
          subst hx
          replace h := fork_r h
          obtain rfl := Option.some.inj h
          intro w' hs
          exact ⟨rfl, hs.below⟩
        ·
          intro hc_3
          replace zh0 := ifO_f hc_3 zh0
          refine WC.skip ?_
          refine En.block_norm ?_
          refine En.next ?_
          refine WC.region ?_
          refine Lt.ofWL.step rfl rfl rfl (OpV.move rfl) ?_
          refine Lt.ofWL.step rfl rfl rfl (OpV.addR rfl rfl) ?_
          refine Lt.ofWL.step rfl rfl rfl (OpV.assign rfl) ?_
          refine WL.nil ?_
          exact En.backP zb0 zh0 () (Sub.cons rfl (Sub.cons rfl (Sub.cons rfl (Sub.nil _)))) (fun _ h => h)
      ·
        intro hc_2
        replace zh0 := ifO_f hc_2 zh0
        refine WC.exit ?_
        refine En.then_exit ?_
        refine En.then_exit ?_
        have hx := exitP ze0 zh0
        exact En.wk _ _ (Sub.nil _) (fun _ h => h) (zK0_0 ((), ()) hx.symm)

theorem w_laws_eqImage {a_p0 : ImageT} {b_p1 : ImageT} {r : Bool} {q0_0 : Option Addr} {n0_0 k0_0 : Nat} {q1_0 : Option Addr} {n1_0 k1_0 : Nat} (h : laws_eqImage a_p0 b_p1 = some r) {w : World} (r0_0 : Rd tInt w q0_0 n0_0 k0_0 a_p0.Data) (r1_0 : Rd tInt w q1_0 n1_0 k1_0 b_p1.Data)  :
    Calls Try.prog 50 #[.agg #[.int .i64 a_p0.W, .int .i64 a_p0.H, .slice q0_0 n0_0 k0_0], .agg #[.int .i64 b_p1.W, .int .i64 b_p1.H, .slice q1_0 n1_0 k1_0]] w (fun en w' => en = .returned (.bool r) ∧ Ext w w') := by
  obtain rfl := r0_0.1
  obtain rfl := r1_0.1
  unfold laws_eqImage at h
  refine enter (vs := [_, _]) Try.func50 rfl rfl rfl rfl ?_
  refine WC.seq ?_
  refine WC.region ?_
  refine WL.heavy rfl rfl rfl (OpH.box rfl rfl ?_)
  intro b0_0
  refine WL.heavy rfl rfl rfl (OpH.box rfl rfl ?_)
  intro b0_1
  refine Lt.ofWL.step rfl rfl rfl (OpV.assign rfl) ?_
  refine WL.nil ?_
  refine En.next ?_
  refine WC.seq ?_
  refine WC.seq ?_
  refine WC.region ?_
  refine Lt.ofWL.step rfl rfl rfl (OpV.fieldAddr rfl fo_53_0) ?_
  refine Lt.ofWL.step rfl rfl rfl (OpV.loadBox rfl pt_3 (.tail _ (.head _)) rfl) ?_
  refine Lt.ofWL.step rfl rfl rfl (OpV.fieldAddr rfl fo_53_0) ?_
  refine Lt.ofWL.step rfl rfl rfl (OpV.loadBox rfl pt_3 (.head _) rfl) ?_
  refine Lt.ofWL.step rfl rfl rfl (OpV.neq rfl rfl) ?_
  refine WL.nil ?_
  refine En.next ?_
  refine WC.cond rfl ?_ ?_
  ·
    intro hc_1
    replace h := ifO_t hc_1 h
    refine WC.seq ?_
    refine WC.region ?_
    refine Lt.ofWL.step rfl rfl rfl (OpV.assign rfl) ?_
    refine WL.nil ?_
    refine En.next ?_
    refine WC.ret ?_
    refine En.then_ret ?_
    refine En.ret1 rfl (Res.tmp rfl) ?_
    obtain rfl := Option.some.inj h
    intro w' hs
    exact ⟨rfl, hs.below⟩
  ·
    intro hc_1
    replace h := ifO_f hc_1 h
    refine WC.skip ?_
    refine En.next ?_
    refine WC.seq ?_
    refine WC.seq ?_
    refine WC.region ?_
    refine Lt.ofWL.step rfl rfl rfl (OpV.fieldAddr rfl fo_53_1) ?_
    refine Lt.ofWL.step rfl rfl rfl (OpV.loadBox rfl pt_3 (.tail _ (.head _)) rfl) ?_
    refine Lt.ofWL.step rfl rfl rfl (OpV.fieldAddr rfl fo_53_1) ?_
    refine Lt.ofWL.step rfl rfl rfl (OpV.loadBox rfl pt_3 (.head _) rfl) ?_
    refine Lt.ofWL.step rfl rfl rfl (OpV.neq rfl rfl) ?_
    refine WL.nil ?_
    refine En.next ?_
    refine WC.cond rfl ?_ ?_
    ·
      intro hc_2
      replace h := ifO_t hc_2 h
      refine WC.seq ?_
      refine WC.region ?_
      refine Lt.ofWL.step rfl rfl rfl (OpV.assign rfl) ?_
      refine WL.nil ?_
      refine En.next ?_
      refine WC.ret ?_
      refine En.then_ret ?_
      refine En.ret1 rfl (Res.tmp rfl) ?_
      obtain rfl := Option.some.inj h
      intro w' hs
      exact ⟨rfl, hs.below⟩
    ·
      intro hc_2
      replace h := ifO_f hc_2 h
      refine WC.skip ?_
      refine En.next ?_
      refine WC.seq ?_
      refine WC.seq ?_
      obtain ⟨x5_4, e5_4, h⟩ := bnd h
      refine WC.region ?_
      refine Lt.ofWL.step rfl rfl rfl (OpV.fieldAddr rfl fo_53_2) ?_
      refine Lt.ofWL.step rfl rfl rfl (OpV.loadBox rfl pt_46 (.tail _ (.head _)) rfl) ?_
      refine Lt.ofWL.step rfl rfl rfl (OpV.fieldAddr rfl fo_53_2) ?_
      refine Lt.ofWL.step rfl rfl rfl (OpV.loadBox rfl pt_46 (.head _) rfl) ?_
      refine Lt.ofWL.step rfl rfl rfl (OpV.call (evs.cons rfl (evs.cons rfl (evs.nil))) ca_102 (fun w hs => w_laws_eqIntS e5_4 (r0_0.ext hs.below) (r1_0.ext hs.below))) ?_
      refine Lt.ofWL.step rfl rfl rfl (OpV.not rfl) ?_
      refine WL.nil ?_
      refine En.next ?_
      refine WC.cond rfl ?_ ?_
      ·
        intro hc_3
        replace h := ifO_t hc_3 h
        refine WC.seq ?_
        refine WC.region ?_
        refine Lt.ofWL.step rfl rfl rfl (OpV.assign rfl) ?_
        refine WL.nil ?_
        refine En.next ?_
        refine WC.ret ?_
        refine En.then_ret ?_
        refine En.ret1 rfl (Res.tmp rfl) ?_
        obtain rfl := Option.some.inj h
        intro w' hs
        exact ⟨rfl, hs.below⟩
      ·
        intro hc_3
        replace h := ifO_f hc_3 h
        refine WC.skip ?_
        refine En.next ?_
        refine WC.seq ?_
        refine WC.region ?_
        refine Lt.ofWL.step rfl rfl rfl (OpV.assign rfl) ?_
        refine WL.nil ?_
        refine En.next ?_
        refine WC.ret ?_
        refine En.ret1 rfl (Res.tmp rfl) ?_
        obtain rfl := Option.some.inj h
        intro w' hs
        exact ⟨rfl, hs.below⟩

end Go.Proofs.Ytfgkgkkcaclfpaa
