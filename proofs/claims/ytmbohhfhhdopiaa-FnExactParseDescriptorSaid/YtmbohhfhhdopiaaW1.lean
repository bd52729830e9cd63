/- Walks: the program computes the pure functions. -/
import Derived.Test.YtmbohhfhhdopiaaDefs
import Derived.Test.YtmbohhfhhdopiaaFacts
namespace Go.Proofs.Ytmbohhfhhdopiaa
open Go.RowKit K
set_option maxRecDepth 100000
set_option maxHeartbeats 4000000

theorem w_laws_big {code_p0 : List Int} {r : Bool} {q0_0 : Option Addr} {l0_0 k0_0 : Nat} (h : laws_big code_p0 = some r) {w : World} (r0_0 : Rd tU8 w q0_0 l0_0 k0_0 code_p0)   :
    Calls Try.prog 10 #[.slice q0_0 l0_0 k0_0] w (fun en w' => en = .returned (.bool r) ∧ Ext w w') := by
 obtain rfl := r0_0.1
 unfold laws_big at h
 refine enter (vs := [_]) Try.func10 rfl rfl rfl rfl ?_
 refine WC.seq (WC.region ?_)
 refine sp (OpV.assign rfl) ?_
 refine WL.nil (En.next (WC.seq (WC.region ?_)))
 refine sp (OpV.move rfl) ?_
 refine sp (OpV.len rfl si_22 rfl) ?_
 refine sp (OpV.gtr rfl rfl) ?_
 refine sp (OpV.assign rfl) ?_
 refine WL.nil (En.next (WC.ret ?_))
 refine En.ret1 rfl (Res.tmp rfl) ?_
 obtain rfl := Option.some.inj h
 intro w' hs
 exact ⟨rfl, hs.below⟩

theorem w_spec_l01New {code_p0 : List Int} {r : L01CurT} {q0_0 : Option Addr} {l0_0 k0_0 : Nat} (h : spec_l01New code_p0 = some r) {w : World} (r0_0 : Rd tU8 w q0_0 l0_0 k0_0 code_p0)   :
    Calls Try.prog 43 #[.slice q0_0 l0_0 k0_0] w (fun en w' => ∃ rv G, en = .returned rv ∧ (∃ (b0_p : Nat), rv = .pointer (some ⟨b0_p, 0, .none⟩) ∧ G = [Chunk.box b0_p 88 [.slice q0_0 l0_0 k0_0, .int .i64 r.i, .int .i64 r.h]]) ∧ St w G w') := by
 obtain rfl := r0_0.1
 unfold spec_l01New at h
 refine enter (vs := [_]) Try.func43 rfl rfl rfl rfl ?_
 refine WC.seq (WC.region ?_)
 refine sp (OpV.assign rfl) ?_
 refine WL.nil (En.next (WC.seq (WC.region ?_)))
 refine sp (OpV.move rfl) ?_
 refine sp (OpV.len rfl si_22 rfl) ?_
 refine sp (OpV.addR rfl rfl) ?_
 refine sp (OpV.assign rfl) ?_
 refine WL.nil (En.next (WC.seq (WC.seq (WC.region ?_))))
 refine sp (OpV.assign rfl) ?_
 refine WL.nil (En.next (WC.block ?_))
 obtain ⟨zy0, ezy0, h⟩ := bnd h
 refine WC.cut (X := (Int) × (Unit)) (.exit 0) (fun x => zy0 = x.1) (fun x => match x with | (h_0e, ()) => [(0, .slice q0_0 code_p0.length k0_0), (3, .int .i64 h_0e)]) (fun x => match x with | (h_0e, ()) => []) ?_ ?_
 ·
  rintro ⟨h_0e, ⟨⟩⟩ hx
  replace hx : h_0e = zy0 := hx.symm
  subst hx
  show En _ _ _ _ [(0, .slice q0_0 code_p0.length k0_0), (3, .int .i64 h_0e)] []
  refine En.block_exit (En.next (WC.seq (WC.region ?_)))
  refine sp (OpV.move rfl) ?_
  refine sp (OpV.move rfl) ?_
  refine sp (OpV.build (evps.cons rfl (evps.cons rfl (evps.nil))) (bd_88_0_2 _ _ _ _)) ?_
  refine WL.heavy rfl rfl rfl (OpH.box rfl rfl ?_)
  intro b6_3
  refine sp (OpV.assign rfl) ?_
  refine WL.nil (En.next (WC.ret ?_))
  refine En.ret1 rfl (Res.tmp rfl) ?_
  obtain rfl := Option.some.inj h
  intro w' hs
  have hs := hs
  exact ⟨_, _, rfl, ⟨b6_3, rfl, rfl⟩, hs⟩
 ·
  intro zK0_0
  refine WC.loopP (G := Unit) (fun s g => match s, g with | (h_0, i_0), () => [(0, .slice q0_0 code_p0.length k0_0), (3, .int .i64 h_0), (4, .int .i64 i_0)]) (fun s g => match s, g with | (h_0, i_0), () => []) ((wr (33137 + (code_p0.length : Int))), 0) () ezy0 (by exact Sub.cons rfl (Sub.cons rfl (Sub.cons rfl (Sub.nil _)))) (by exact (fun _ h => h)) ?_
  rintro zm0 ⟨h_0, i_0⟩ ⟨⟩ zo0 zf0 zb0 ze0
  have zh0 : spec_l01New_L0 code_p0 h_0 i_0 = some zo0 := zf0
  unfold spec_l01New_L0 at zh0
  show WC _ _ _ _ _ [(0, .slice q0_0 code_p0.length k0_0), (3, .int .i64 h_0), (4, .int .i64 i_0)] []
  refine WC.seq (WC.seq (WC.region ?_))
  refine sp (OpV.move rfl) ?_
  refine sp (OpV.move rfl) ?_
  refine sp (OpV.len rfl si_22 rfl) ?_
  refine sp (OpV.lss rfl rfl) ?_
  refine sp (OpV.move rfl) ?_
  refine Lt.ofWL.and 12 15 14 (p := ?pz1) (rest := ?qz1) (B := ?Bz1) rfl ?Tz1 ?Fz1 ?az1 ?bz1 ?cz1 ?dz1 ?ez1
  case Tz1 =>
   intro hcz1 hkz1
   refine sp (OpV.move rfl) ?_
   refine sp (OpV.lss rfl rfl) ?_
   refine hkz1 _ ?_ ?_
   exact rfl
   repeat (first | exact Sub.refl _ | refine Sub.skip rfl ?_)
  case Fz1 =>
   intro hcz1 hkz1
   refine sk ?_
   refine sk ?_
   refine hkz1 _ ?_
   repeat (first | exact Sub.refl _ | refine Sub.skip rfl ?_)
  case az1 => exact rfl
  case bz1 => exact rfl
  case cz1 => exact rfl
  case dz1 => exact rfl
  refine WL.nil (En.next ?_)
  refine WC.cond rfl ?_ ?_
  ·
   intro hc_1
   replace zh0 := ifO_t hc_1 zh0
   refine WC.skip (En.next (WC.seq (WC.block ?_)))
   obtain ⟨x5_4, e5_4, zh0⟩ := bnd zh0
   obtain ⟨g5_4, o5_4, _, ha5_4, rfl, hd5_4⟩ := Rd.atIdx r0_0 e5_4
   replace hd5_4 : ∀ (j : Nat) v, ([.int .u8 x5_4] : List Value)[j]? = some v → w.cell? ⟨g5_4, o5_4 + i_0.toNat * 1 + j, .none⟩ = some v := hd5_4
   refine WC.region ?_
   refine sp (OpV.move rfl) ?_
   refine sp (OpV.mulR rfl rfl) ?_
   refine sp (OpV.move rfl) ?_
   refine sp (OpV.move rfl) ?_
   refine sp (OpV.idxA rfl rfl se_22 ha5_4 ⟨(idx_some e5_4).1, (idx_some e5_4).2.1⟩) ?_
   refine sp (OpV.load1 rfl pt_5 (fun w hs => hs.cell (hd5_4 0 _ rfl))) ?_
   refine sp (OpV.convR rfl uS_5 ui_3_i64) ?_
   refine sp (OpV.addR rfl rfl) ?_
   refine sp (OpV.addR rfl rfl) ?_
   refine sp (OpV.andR rfl rfl) ?_
   refine sp (OpV.assign rfl) ?_
   refine WL.nil (En.block_norm (En.next (WC.region ?_)))
   refine sp (OpV.move rfl) ?_
   refine sp (OpV.addR rfl rfl) ?_
   refine sp (OpV.assign rfl) ?_
   refine WL.nil ?_
   exact En.backP zb0 zh0 () (Sub.cons rfl (Sub.cons rfl (Sub.cons rfl (Sub.nil _)))) (fun _ h => h)
  ·
   intro hc_1
   replace zh0 := ifO_f hc_1 zh0
   refine WC.exit (En.then_exit (En.then_exit ?_))
   have hx := exitP ze0 zh0
   exact En.wk _ _ (Sub.cons rfl (Sub.cons rfl (Sub.nil _))) (fun _ h => h) (zK0_0 (h_0, ()) hx.symm)

theorem w_spec_l01Byte {c_p0 : L01CurT} {r : Int × L01CurT} {b0 : Nat} {q0_0 : Option Addr} {l0_0 k0_0 : Nat} (h : spec_l01Byte c_p0 = some r) {w0 w : World} {C : List Chunk} (hs0 : St w0 (Chunk.box b0 88 [.slice q0_0 l0_0 k0_0, .int .i64 c_p0.i, .int .i64 c_p0.h] :: C) w) (r0_0 : ∀ w, St w0 C w → Rd tU8 w q0_0 l0_0 k0_0 c_p0.b) :
    Calls Try.prog 71 #[.pointer (some ⟨b0, 0, .none⟩)] w (fun en w' => ∃ rv G, en = .returned rv ∧ (rv = .int .i64 r.1 ∧ G = Chunk.box b0 88 [.slice q0_0 l0_0 k0_0, .int .i64 r.2.i, .int .i64 r.2.h] :: C) ∧ St w0 G w') := by
 obtain rfl := (r0_0 _ (St.tl (F := [_]) hs0)).1
 unfold spec_l01Byte at h
 refine enterF hs0 (vs := [_]) Try.func71 rfl rfl rfl rfl ?_
 refine WC.seq (WC.region ?_)
 refine sp (OpV.assign rfl) ?_
 refine WL.nil (En.next (WC.seq (WC.region ?_)))
 refine sp (OpV.move rfl) ?_
 refine sp (OpV.move rfl) ?_
 refine sp (OpV.nilCheck rfl) ?_
 refine sp (OpV.fieldAddr rfl fo_88_2) ?_
 refine sp (OpV.loadBox rfl pt_3 (.head _) rfl) ?_
 refine sp (OpV.mulR rfl rfl) ?_
 refine sp (OpV.addR rfl rfl) ?_
 refine sp (OpV.nilCheck rfl) ?_
 refine sp (OpV.fieldAddr rfl fo_88_2) ?_
 refine WL.heavy0 rfl rfl (OpH.storeTo (A := []) [_, _, _] rfl rfl rfl ts_3 rfl rfl rfl ?_)
 refine WL.nil (En.next (WC.seq ?_))
 refine WC.drawn [(0, ?r2v0), (3, ?r2v3)] (by kernel_rfl) (by kernel_rfl) ?dH2 ?dK2
 case dH2 =>
  intro W hW hk
  refine hW.step rfl rfl rfl (OpV.move rfl) ?_
  refine hW.step rfl rfl rfl (OpV.nilCheck rfl) ?_
  refine hW.step rfl rfl rfl (OpV.fieldAddr rfl fo_88_2) ?_
  refine hW.step rfl rfl rfl (OpV.loadBox rfl pt_3 (.head _) rfl) ?_
  refine hW.step rfl rfl rfl (OpV.shrR rfl rfl rfl) ?_
  refine hW.step rfl rfl rfl (OpV.move rfl) ?_
  refine hW.step rfl rfl rfl (OpV.nilCheck rfl) ?_
  refine hW.step rfl rfl rfl (OpV.fieldAddr rfl fo_88_2) ?_
  refine hW.step rfl rfl rfl (OpV.loadBox rfl pt_3 (.head _) rfl) ?_
  refine hW.step rfl rfl rfl (OpV.shrR rfl rfl rfl) ?_
  refine hW.step rfl rfl rfl (OpV.xorR rfl rfl) ?_
  refine hW.step rfl rfl rfl (OpV.andR rfl rfl) ?_
  refine hW.step rfl rfl rfl (OpV.assign rfl) ?_
  refine hk _ ?_
  refine Sub.cons ?_ (Sub.cons ?_ (Sub.nil _))
  all_goals exact rfl
 refine En.next (WC.seq (WC.seq ?_))
 refine WC.drawn [(0, ?r3v0), (3, ?r3v3), (34, ?r3v34)] (by kernel_rfl) (by kernel_rfl) ?dH3 ?dK3
 case dH3 =>
  intro W hW hk
  refine hW.step rfl rfl rfl (OpV.move rfl) ?_
  refine hW.step rfl rfl rfl (OpV.nilCheck rfl) ?_
  refine hW.step rfl rfl rfl (OpV.fieldAddr rfl fo_88_1) ?_
  refine hW.step rfl rfl rfl (OpV.loadBox rfl pt_3 (.head _) rfl) ?_
  refine hW.step rfl rfl rfl (OpV.move rfl) ?_
  refine hW.step rfl rfl rfl (OpV.nilCheck rfl) ?_
  refine hW.step rfl rfl rfl (OpV.fieldAddr rfl fo_88_0) ?_
  refine hW.step rfl rfl rfl (OpV.loadBox rfl pt_22 (.head _) rfl) ?_
  refine hW.step rfl rfl rfl (OpV.len rfl si_22 rfl) ?_
  refine hW.step rfl rfl rfl (OpV.lss rfl rfl) ?_
  refine hk _ ?_
  refine Sub.cons ?_ (Sub.cons ?_ (Sub.cons ?_ (Sub.nil _)))
  all_goals exact rfl
 refine En.next ?_
 refine WC.cond rfl ?_ ?_
 ·
  intro hc_1
  replace h := ifO_t hc_1 h
  refine WC.seq ?_
  refine WC.inh fun hin4 => ?_
  obtain ⟨x4_9, e4_9, h⟩ := bnd h
  obtain ⟨g4_9, o4_9, ha4_9⟩ : ∃ b o, q0_0 = some ⟨b, o, .none⟩ := by obtain ⟨wi, hsi⟩ := hin4; obtain ⟨b, o, _, e, _⟩ := Rd.atIdx (r0_0 _ (St.tl (F := [_]) hsi)) e4_9; exact ⟨b, o, e⟩
  refine WC.drawn [(0, ?r4v0), (3, ?r4v3)] (by kernel_rfl) (by kernel_rfl) ?dH4 ?dK4
  case dH4 =>
   intro W hW hk
   refine hW.step rfl rfl rfl (OpV.move rfl) ?_
   refine hW.step rfl rfl rfl (OpV.move rfl) ?_
   refine hW.step rfl rfl rfl (OpV.nilCheck rfl) ?_
   refine hW.step rfl rfl rfl (OpV.fieldAddr rfl fo_88_0) ?_
   refine hW.step rfl rfl rfl (OpV.loadBox rfl pt_22 (.head _) rfl) ?_
   refine hW.step rfl rfl rfl (OpV.move rfl) ?_
   refine hW.step rfl rfl rfl (OpV.nilCheck rfl) ?_
   refine hW.step rfl rfl rfl (OpV.fieldAddr rfl fo_88_1) ?_
   refine hW.step rfl rfl rfl (OpV.loadBox rfl pt_3 (.head _) rfl) ?_
   refine hW.step rfl rfl rfl (OpV.idxA rfl rfl se_22 ha4_9 ⟨(idx_some e4_9).1, (idx_some e4_9).2.1⟩) ?_
   refine hW.step rfl rfl rfl (OpV.load1 rfl pt_5 (fun w hs => Rd.cell1 tU8_flat (r0_0 _ (St.tl (F := [_]) hs)) e4_9 ha4_9 rfl)) ?_
   refine hW.step rfl rfl rfl (OpV.convR rfl uS_5 ui_3_i64) ?_
   refine hW.step rfl rfl rfl (OpV.addR rfl rfl) ?_
   refine hW.step rfl rfl rfl (OpV.andR rfl rfl) ?_
   refine hW.step rfl rfl rfl (OpV.assign rfl) ?_
   refine hk _ ?_
   refine Sub.cons ?_ (Sub.cons ?_ (Sub.nil _))
   all_goals exact rfl
  refine En.next (WC.region ?_)
  refine sp (OpV.move rfl) ?_
  refine sp (OpV.move rfl) ?_
  refine sp (OpV.nilCheck rfl) ?_
  refine sp (OpV.fieldAddr rfl fo_88_1) ?_
  refine sp (OpV.loadBox rfl pt_3 (.head _) rfl) ?_
  refine sp (OpV.addR rfl rfl) ?_
  refine sp (OpV.nilCheck rfl) ?_
  refine sp (OpV.fieldAddr rfl fo_88_1) ?_
  refine WL.heavy0 rfl rfl (OpH.storeTo (A := []) [_, _, _] rfl rfl rfl ts_3 rfl rfl rfl ?_)
  refine WL.nil (En.next (WC.seq (WC.region ?_)))
  refine sp (OpV.move rfl) ?_
  refine sp (OpV.assign rfl) ?_
  refine WL.nil (En.next (WC.ret ?_))
  refine En.ret1 rfl (Res.tmp rfl) ?_
  obtain rfl := Option.some.inj h
  intro w' hs
  have hs := hs
  exact ⟨_, _, rfl, ⟨rfl, rfl⟩, hs⟩
 ·
  intro hc_1
  replace h := ifO_f hc_1 h
  refine WC.skip (En.next (WC.seq (WC.region ?_)))
  refine sp (OpV.move rfl) ?_
  refine sp (OpV.assign rfl) ?_
  refine WL.nil (En.next (WC.ret ?_))
  refine En.ret1 rfl (Res.tmp rfl) ?_
  obtain rfl := Option.some.inj h
  intro w' hs
  have hs := hs
  exact ⟨_, _, rfl, ⟨rfl, rfl⟩, hs⟩

theorem w_spec_l01Below {c_p0 : L01CurT} {n_p1 : Int} {r : Int × L01CurT} {b0 : Nat} {q0_0 : Option Addr} {l0_0 k0_0 : Nat} (h : spec_l01Below c_p0 n_p1 = some r) {w0 w : World} {C : List Chunk} (hs0 : St w0 (Chunk.box b0 88 [.slice q0_0 l0_0 k0_0, .int .i64 c_p0.i, .int .i64 c_p0.h] :: C) w) (r0_0 : ∀ w, St w0 C w → Rd tU8 w q0_0 l0_0 k0_0 c_p0.b) :
    Calls Try.prog 62 #[.pointer (some ⟨b0, 0, .none⟩), .int .i64 n_p1] w (fun en w' => ∃ rv G, en = .returned rv ∧ (rv = .int .i64 r.1 ∧ G = Chunk.box b0 88 [.slice q0_0 l0_0 k0_0, .int .i64 r.2.i, .int .i64 r.2.h] :: C) ∧ St w0 G w') := by
 obtain rfl := (r0_0 _ (St.tl (F := [_]) hs0)).1
 unfold spec_l01Below at h
 refine enterF hs0 (vs := [_, _]) Try.func62 rfl rfl rfl rfl ?_
 refine WC.seq (WC.region ?_)
 refine sp (OpV.assign rfl) ?_
 refine WL.nil (En.next (WC.seq (WC.seq (WC.region ?_))))
 refine sp (OpV.move rfl) ?_
 refine sp (OpV.leq rfl rfl) ?_
 refine WL.nil (En.next ?_)
 refine WC.cond rfl ?_ ?_
 ·
  intro hc_1
  replace h := ifO_t hc_1 h
  refine WC.seq (WC.region ?_)
  refine sp (OpV.assign rfl) ?_
  refine WL.nil (En.next (WC.ret (En.then_ret ?_)))
  refine En.ret1 rfl (Res.tmp rfl) ?_
  obtain rfl := Option.some.inj h
  intro w' hs
  have hs := hs
  exact ⟨_, _, rfl, ⟨rfl, rfl⟩, hs⟩
 ·
  intro hc_1
  replace h := ifO_f hc_1 h
  refine WC.skip (En.next (WC.seq (WC.seq (WC.region ?_))))
  refine sp (OpV.move rfl) ?_
  refine sp (OpV.leq rfl rfl) ?_
  refine WL.nil (En.next ?_)
  refine WC.cond rfl ?_ ?_
  ·
   intro hc_2
   replace h := ifO_t hc_2 h
   refine WC.seq ?_
   obtain ⟨⟨x4_1a, x4_1b⟩, e4_1, h⟩ := bnd h
   obtain ⟨x4_3, e4_3, h⟩ := bnd h
   refine WC.region ?_
   refine sp (OpV.move rfl) ?_
   refine WL.heavy rfl rfl rfl (OpH.callX (evs.cons rfl (evs.nil)) ca_71 (fun w hs => w_spec_l01Byte e4_1 hs (fun w hs => (r0_0 _ (St.tl (F := []) hs)))) ?_)
   rintro _ _ ⟨rfl, rfl⟩
   refine sp (OpV.move rfl) ?_
   refine sp (OpV.remR rfl rfl e4_3) ?_
   refine sp (OpV.assign rfl) ?_
   refine WL.nil (En.next (WC.ret (En.then_ret ?_)))
   refine En.ret1 rfl (Res.tmp rfl) ?_
   obtain rfl := Option.some.inj h
   intro w' hs
   have hs := hs
   exact ⟨_, _, rfl, ⟨rfl, rfl⟩, hs⟩
  ·
   intro hc_2
   replace h := ifO_f hc_2 h
   refine WC.skip (En.next (WC.seq ?_))
   obtain ⟨⟨x5_1a, x5_1b⟩, e5_1, h⟩ := bnd h
   refine WC.region ?_
   refine sp (OpV.move rfl) ?_
   refine WL.heavy rfl rfl rfl (OpH.callX (evs.cons rfl (evs.nil)) ca_71 (fun w hs => w_spec_l01Byte e5_1 hs (fun w hs => (r0_0 _ (St.tl (F := []) hs)))) ?_)
   rintro _ _ ⟨rfl, rfl⟩
   refine sp (OpV.assign rfl) ?_
   refine WL.nil (En.next (WC.seq ?_))
   obtain ⟨⟨x6_1a, x6_1b⟩, e6_1, h⟩ := bnd h
   refine WC.region ?_
   refine sp (OpV.move rfl) ?_
   refine WL.heavy rfl rfl rfl (OpH.callX (evs.cons rfl (evs.nil)) ca_71 (fun w hs => w_spec_l01Byte e6_1 hs (fun w hs => (r0_0 _ (St.tl (F := []) hs)))) ?_)
   rintro _ _ ⟨rfl, rfl⟩
   refine sp (OpV.assign rfl) ?_
   refine WL.nil (En.next (WC.seq ?_))
   obtain ⟨⟨x7_1a, x7_1b⟩, e7_1, h⟩ := bnd h
   refine WC.region ?_
   refine sp (OpV.move rfl) ?_
   refine WL.heavy rfl rfl rfl (OpH.callX (evs.cons rfl (evs.nil)) ca_71 (fun w hs => w_spec_l01Byte e7_1 hs (fun w hs => (r0_0 _ (St.tl (F := []) hs)))) ?_)
   rintro _ _ ⟨rfl, rfl⟩
   refine sp (OpV.assign rfl) ?_
   refine WL.nil (En.next (WC.seq ?_))
   obtain ⟨⟨x8_1a, x8_1b⟩, e8_1, h⟩ := bnd h
   refine WC.region ?_
   refine sp (OpV.move rfl) ?_
   refine WL.heavy rfl rfl rfl (OpH.callX (evs.cons rfl (evs.nil)) ca_71 (fun w hs => w_spec_l01Byte e8_1 hs (fun w hs => (r0_0 _ (St.tl (F := []) hs)))) ?_)
   rintro _ _ ⟨rfl, rfl⟩
   refine sp (OpV.assign rfl) ?_
   refine WL.nil (En.next (WC.seq ?_))
   obtain ⟨x9_11, e9_11, h⟩ := bnd h
   refine WC.region ?_
   refine sp (OpV.move rfl) ?_
   refine sp (OpV.mulR rfl rfl) ?_
   refine sp (OpV.move rfl) ?_
   refine sp (OpV.mulR rfl rfl) ?_
   refine sp (OpV.addR rfl rfl) ?_
   refine sp (OpV.move rfl) ?_
   refine sp (OpV.mulR rfl rfl) ?_
   refine sp (OpV.addR rfl rfl) ?_
   refine sp (OpV.move rfl) ?_
   refine sp (OpV.addR rfl rfl) ?_
   refine sp (OpV.move rfl) ?_
   refine sp (OpV.remR rfl rfl e9_11) ?_
   refine sp (OpV.assign rfl) ?_
   refine WL.nil (En.next (WC.ret ?_))
   refine En.ret1 rfl (Res.tmp rfl) ?_
   obtain rfl := Option.some.inj h
   intro w' hs
   have hs := hs
   exact ⟨_, _, rfl, ⟨rfl, rfl⟩, hs⟩

theorem w_spec_l18Pick {c_p0 : L01CurT} {list_p1 : List ByteArray} {r : ByteArray × L01CurT} {b0 : Nat} {q0_0 : Option Addr} {l0_0 k0_0 : Nat} {q1_0 : Option Addr} {l1_0 k1_0 : Nat} (h : spec_l18Pick c_p0 list_p1 = some r) {w0 w : World} {C : List Chunk} (hs0 : St w0 (Chunk.box b0 88 [.slice q0_0 l0_0 k0_0, .int .i64 c_p0.i, .int .i64 c_p0.h] :: C) w) (r0_0 : ∀ w, St w0 C w → Rd tU8 w q0_0 l0_0 k0_0 c_p0.b) (r1_0 : ∀ w, St w0 C w → Rd tStr w q1_0 l1_0 k1_0 list_p1) :
    Calls Try.prog 67 #[.pointer (some ⟨b0, 0, .none⟩), .slice q1_0 l1_0 k1_0] w (fun en w' => ∃ rv G, en = .returned rv ∧ (rv = .string r.1 ∧ G = Chunk.box b0 88 [.slice q0_0 l0_0 k0_0, .int .i64 r.2.i, .int .i64 r.2.h] :: C) ∧ St w0 G w') := by
 obtain rfl := (r0_0 _ (St.tl (F := [_]) hs0)).1
 obtain rfl := (r1_0 _ (St.tl (F := [_]) hs0)).1
 unfold spec_l18Pick at h
 refine enterF hs0 (vs := [_, _]) Try.func67 rfl rfl rfl rfl ?_
 refine WC.seq (WC.region ?_)
 refine sp (OpV.assign rfl) ?_
 refine WL.nil (En.next (WC.seq ?_))
 refine WC.inh fun hin1 => ?_
 obtain ⟨⟨x1_4a, x1_4b⟩, e1_4, h⟩ := bnd h
 obtain ⟨x1_5, e1_5, h⟩ := bnd h
 obtain ⟨g1_5, o1_5, ha1_5⟩ : ∃ b o, q1_0 = some ⟨b, o, .none⟩ := by obtain ⟨wi, hsi⟩ := hin1; obtain ⟨b, o, _, e, _⟩ := Rd.atIdx (r1_0 _ (St.tl (F := [_]) hsi)) e1_5; exact ⟨b, o, e⟩
 refine WC.region ?_
 refine sp (OpV.move rfl) ?_
 refine sp (OpV.move rfl) ?_
 refine sp (OpV.move rfl) ?_
 refine sp (OpV.len rfl si_95 rfl) ?_
 refine WL.heavy rfl rfl rfl (OpH.callX (evs.cons rfl (evs.cons rfl (evs.nil))) ca_62 (fun w hs => w_spec_l01Below e1_4 hs (fun w hs => (r0_0 _ (St.tl (F := []) hs)))) ?_)
 rintro _ _ ⟨rfl, rfl⟩
 refine sp (OpV.idxA rfl rfl se_95 ha1_5 ⟨(idx_some e1_5).1, (idx_some e1_5).2.1⟩) ?_
 refine sp (OpV.load1 rfl pt_9 (fun w hs => Rd.cell1 tStr_flat (r1_0 _ (St.tl (F := [_]) hs)) e1_5 ha1_5 rfl)) ?_
 refine sp (OpV.assign rfl) ?_
 refine WL.nil (En.next (WC.ret ?_))
 refine En.ret1 rfl (Res.tmp rfl) ?_
 obtain rfl := Option.some.inj h
 intro w' hs
 have hs := hs
 exact ⟨_, _, rfl, ⟨rfl, rfl⟩, hs⟩

theorem w_spec_l01PickInt {c_p0 : L01CurT} {list_p1 : List Int} {r : Int × L01CurT} {b0 : Nat} {q0_0 : Option Addr} {l0_0 k0_0 : Nat} {q1_0 : Option Addr} {l1_0 k1_0 : Nat} (h : spec_l01PickInt c_p0 list_p1 = some r) {w0 w : World} {C : List Chunk} (hs0 : St w0 (Chunk.box b0 88 [.slice q0_0 l0_0 k0_0, .int .i64 c_p0.i, .int .i64 c_p0.h] :: C) w) (r0_0 : ∀ w, St w0 C w → Rd tU8 w q0_0 l0_0 k0_0 c_p0.b) (r1_0 : ∀ w, St w0 C w → Rd tInt w q1_0 l1_0 k1_0 list_p1) :
    Calls Try.prog 45 #[.pointer (some ⟨b0, 0, .none⟩), .slice q1_0 l1_0 k1_0] w (fun en w' => ∃ rv G, en = .returned rv ∧ (rv = .int .i64 r.1 ∧ G = Chunk.box b0 88 [.slice q0_0 l0_0 k0_0, .int .i64 r.2.i, .int .i64 r.2.h] :: C) ∧ St w0 G w') := by
 obtain rfl := (r0_0 _ (St.tl (F := [_]) hs0)).1
 obtain rfl := (r1_0 _ (St.tl (F := [_]) hs0)).1
 unfold spec_l01PickInt at h
 refine enterF hs0 (vs := [_, _]) Try.func45 rfl rfl rfl rfl ?_
 refine WC.seq (WC.region ?_)
 refine sp (OpV.assign rfl) ?_
 refine WL.nil (En.next (WC.seq ?_))
 refine WC.inh fun hin1 => ?_
 obtain ⟨⟨x1_4a, x1_4b⟩, e1_4, h⟩ := bnd h
 obtain ⟨x1_5, e1_5, h⟩ := bnd h
 obtain ⟨g1_5, o1_5, ha1_5⟩ : ∃ b o, q1_0 = some ⟨b, o, .none⟩ := by obtain ⟨wi, hsi⟩ := hin1; obtain ⟨b, o, _, e, _⟩ := Rd.atIdx (r1_0 _ (St.tl (F := [_]) hsi)) e1_5; exact ⟨b, o, e⟩
 refine WC.region ?_
 refine sp (OpV.move rfl) ?_
 refine sp (OpV.move rfl) ?_
 refine sp (OpV.move rfl) ?_
 refine sp (OpV.len rfl si_34 rfl) ?_
 refine WL.heavy rfl rfl rfl (OpH.callX (evs.cons rfl (evs.cons rfl (evs.nil))) ca_62 (fun w hs => w_spec_l01Below e1_4 hs (fun w hs => (r0_0 _ (St.tl (F := []) hs)))) ?_)
 rintro _ _ ⟨rfl, rfl⟩
 refine sp (OpV.idxA rfl rfl se_34 ha1_5 ⟨(idx_some e1_5).1, (idx_some e1_5).2.1⟩) ?_
 refine sp (OpV.load1 rfl pt_3 (fun w hs => Rd.cell1 tInt_flat (r1_0 _ (St.tl (F := [_]) hs)) e1_5 ha1_5 rfl)) ?_
 refine sp (OpV.assign rfl) ?_
 refine WL.nil (En.next (WC.ret ?_))
 refine En.ret1 rfl (Res.tmp rfl) ?_
 obtain rfl := Option.some.inj h
 intro w' hs
 have hs := hs
 exact ⟨_, _, rfl, ⟨rfl, rfl⟩, hs⟩

theorem w_spec_l16Mode {c_p0 : L01CurT} {r : ModeT × L01CurT} {b0 : Nat} {q0_0 : Option Addr} {l0_0 k0_0 : Nat} (h : spec_l16Mode c_p0 = some r) {w0 w : World} {C : List Chunk} (hs0 : St w0 (Chunk.box b0 88 [.slice q0_0 l0_0 k0_0, .int .i64 c_p0.i, .int .i64 c_p0.h] :: C) w) (r0_0 : ∀ w, St w0 C w → Rd tU8 w q0_0 l0_0 k0_0 c_p0.b) :
    Calls Try.prog 44 #[.pointer (some ⟨b0, 0, .none⟩)] w (fun en w' => ∃ rv G, en = .returned rv ∧ (rv = .agg #[.int .i64 r.1.Clock, .int .i64 r.1.W, .int .i64 r.1.HFront, .int .i64 r.1.HSync, .int .i64 r.1.HBack, .int .i64 r.1.H, .int .i64 r.1.VFront, .int .i64 r.1.VSync, .int .i64 r.1.VBack] ∧ G = Chunk.box b0 88 [.slice q0_0 l0_0 k0_0, .int .i64 r.2.i, .int .i64 r.2.h] :: C) ∧ St w0 G w') := by
 obtain rfl := (r0_0 _ (St.tl (F := [_]) hs0)).1
 unfold spec_l16Mode at h
 refine enterF hs0 (vs := [_]) Try.func44 rfl rfl rfl rfl ?_
 refine WC.seq (WC.region ?_)
 refine WL.heavy rfl rfl rfl (OpH.alloc zc_33 ?_)
 intro b0_0
 refine WL.nil (En.next (WC.seq ?_))
 obtain ⟨⟨x1_2a, x1_2b⟩, e1_2, h⟩ := bnd h
 obtain ⟨⟨x1_4a, x1_4b⟩, e1_4, h⟩ := bnd h
 obtain ⟨⟨x1_7a, x1_7b⟩, e1_7, h⟩ := bnd h
 obtain ⟨⟨x1_9a, x1_9b⟩, e1_9, h⟩ := bnd h
 obtain ⟨⟨x1_12a, x1_12b⟩, e1_12, h⟩ := bnd h
 obtain ⟨⟨x1_14a, x1_14b⟩, e1_14, h⟩ := bnd h
 obtain ⟨⟨x1_17a, x1_17b⟩, e1_17, h⟩ := bnd h
 obtain ⟨⟨x1_19a, x1_19b⟩, e1_19, h⟩ := bnd h
 obtain ⟨⟨x1_22a, x1_22b⟩, e1_22, h⟩ := bnd h
 refine WC.region ?_
 refine sp (OpV.move rfl) ?_
 refine WL.heavy rfl rfl rfl (OpH.litF (A := tInt) (xs := [1, 25, 100, 1000]) tInt_flat (evps.cons rfl (evps.cons rfl (evps.cons rfl (evps.cons rfl (evps.nil))))) (bs_34_4_0_1_2_3 _ _ _ _) rfl rfl (Nat.le_of_ble_eq_true rfl) ?_)
 intro b1_1
 refine WL.wkF (fun _ h => h.perm (List.perm_middle (l₁ := [_, _]))) ?_
 refine WL.heavy rfl rfl rfl (OpH.callX (evs.cons rfl (evs.cons rfl (evs.nil))) ca_45 (fun w hs => w_spec_l01PickInt e1_2 hs (fun w hs => (r0_0 _ (St.tl (F := [_, _]) hs))) (fun w hs => (Ow.rd (hs.mem (.head _))))) ?_)
 rintro _ _ ⟨rfl, rfl⟩
 refine sp (OpV.move rfl) ?_
 refine WL.heavy rfl rfl rfl (OpH.callX (evs.cons rfl (evs.cons rfl (evs.nil))) ca_62 (fun w hs => w_spec_l01Below e1_4 hs (fun w hs => (r0_0 _ (St.tl (F := [_, _]) hs)))) ?_)
 rintro _ _ ⟨rfl, rfl⟩
 refine sp (OpV.addR rfl rfl) ?_
 refine sp (OpV.move rfl) ?_
 refine WL.heavy rfl rfl rfl (OpH.callX (evs.cons rfl (evs.cons rfl (evs.nil))) ca_62 (fun w hs => w_spec_l01Below e1_7 hs (fun w hs => (r0_0 _ (St.tl (F := [_, _]) hs)))) ?_)
 rintro _ _ ⟨rfl, rfl⟩
 refine sp (OpV.move rfl) ?_
 refine WL.heavy rfl rfl rfl (OpH.callX (evs.cons rfl (evs.cons rfl (evs.nil))) ca_62 (fun w hs => w_spec_l01Below e1_9 hs (fun w hs => (r0_0 _ (St.tl (F := [_, _]) hs)))) ?_)
 rintro _ _ ⟨rfl, rfl⟩
 refine sp (OpV.addR rfl rfl) ?_
 refine sp (OpV.move rfl) ?_
 refine WL.heavy rfl rfl rfl (OpH.callX (evs.cons rfl (evs.cons rfl (evs.nil))) ca_62 (fun w hs => w_spec_l01Below e1_12 hs (fun w hs => (r0_0 _ (St.tl (F := [_, _]) hs)))) ?_)
 rintro _ _ ⟨rfl, rfl⟩
 refine sp (OpV.move rfl) ?_
 refine WL.heavy rfl rfl rfl (OpH.callX (evs.cons rfl (evs.cons rfl (evs.nil))) ca_62 (fun w hs => w_spec_l01Below e1_14 hs (fun w hs => (r0_0 _ (St.tl (F := [_, _]) hs)))) ?_)
 rintro _ _ ⟨rfl, rfl⟩
 refine sp (OpV.addR rfl rfl) ?_
 refine sp (OpV.move rfl) ?_
 refine WL.heavy rfl rfl rfl (OpH.callX (evs.cons rfl (evs.cons rfl (evs.nil))) ca_62 (fun w hs => w_spec_l01Below e1_17 hs (fun w hs => (r0_0 _ (St.tl (F := [_, _]) hs)))) ?_)
 rintro _ _ ⟨rfl, rfl⟩
 refine sp (OpV.move rfl) ?_
 refine WL.heavy rfl rfl rfl (OpH.callX (evs.cons rfl (evs.cons rfl (evs.nil))) ca_62 (fun w hs => w_spec_l01Below e1_19 hs (fun w hs => (r0_0 _ (St.tl (F := [_, _]) hs)))) ?_)
 rintro _ _ ⟨rfl, rfl⟩
 refine sp (OpV.addR rfl rfl) ?_
 refine sp (OpV.move rfl) ?_
 refine WL.heavy rfl rfl rfl (OpH.callX (evs.cons rfl (evs.cons rfl (evs.nil))) ca_62 (fun w hs => w_spec_l01Below e1_22 hs (fun w hs => (r0_0 _ (St.tl (F := [_, _]) hs)))) ?_)
 rintro _ _ ⟨rfl, rfl⟩
 refine sp (OpV.build (evps.cons rfl (evps.cons rfl (evps.cons rfl (evps.cons rfl (evps.cons rfl (evps.cons rfl (evps.cons rfl (evps.cons rfl (evps.cons rfl (evps.nil)))))))))) (bd_33_0_1_2_3_4_5_6_7_8 _ _ _ _ _ _ _ _ _)) ?_
 refine WL.heavy0 rfl rfl (OpH.storeTo (A := [_, _]) [_, _, _, _, _, _, _, _, _] rfl rfl rfl ts_33 rfl rfl rfl ?_)
 refine WL.nil (En.next (WC.ret ?_))
 refine En.ret1 rfl (Res.cell rfl (.tail _ (.tail _ (.head _))) ag_33) ?_
 obtain rfl := Option.some.inj h
 intro w' hs
 have hs := (hs).sub (.cons_cons _ (.cons _ (.cons _ (List.Sublist.refl _))))
 exact ⟨_, _, rfl, ⟨rfl, rfl⟩, hs⟩

theorem w_spec_l18Monitor {c_p0 : L01CurT} {r : MonitorT × L01CurT} {b0 : Nat} {q0_0 : Option Addr} {l0_0 k0_0 : Nat} (h : spec_l18Monitor c_p0 = some r) {w0 w : World} {C : List Chunk} (hs0 : St w0 (Chunk.box b0 88 [.slice q0_0 l0_0 k0_0, .int .i64 c_p0.i, .int .i64 c_p0.h] :: C) w) (r0_0 : ∀ w, St w0 C w → Rd tU8 w q0_0 l0_0 k0_0 c_p0.b) :
    Calls Try.prog 51 #[.pointer (some ⟨b0, 0, .none⟩)] w (fun en w' => ∃ rv G, en = .returned rv ∧ (∃ (a0_0 : Option Addr) (n0_0 : Nat) (c0_0 : Nat) (f0_0 : List Nat), rv = .agg #[.string r.1.Name, .slice a0_0 n0_0 c0_0, .int .i64 r.1.Stretch] ∧ G = Chunk.own tMode f0_0 a0_0 n0_0 c0_0 r.1.Modes :: Chunk.box b0 88 [.slice q0_0 l0_0 k0_0, .int .i64 r.2.i, .int .i64 r.2.h] :: C) ∧ St w0 G w') := by
 obtain rfl := (r0_0 _ (St.tl (F := [_]) hs0)).1
 unfold spec_l18Monitor at h
 refine enterF hs0 (vs := [_]) Try.func51 rfl rfl rfl rfl ?_
 refine WC.seq (WC.region ?_)
 refine WL.heavy rfl rfl rfl (OpH.alloc zc_47 ?_)
 intro b0_0
 refine WL.nil (En.next (WC.seq ?_))
 obtain ⟨⟨x1_2a, x1_2b⟩, e1_2, h⟩ := bnd h
 obtain ⟨⟨x1_5a, x1_5b⟩, e1_5, h⟩ := bnd h
 refine WC.region ?_
 refine sp (OpV.move rfl) ?_
 refine WL.heavy rfl rfl rfl (OpH.litF (A := tStr) (xs := [(⟨#[77]⟩ : ByteArray), (⟨#[80, 65, 78, 69, 76]⟩ : ByteArray), (⟨#[65, 66, 67, 68, 69, 70, 71, 72]⟩ : ByteArray), (⟨#[126, 33]⟩ : ByteArray)]) tStr_flat (evps.cons rfl (evps.cons rfl (evps.cons rfl (evps.cons rfl (evps.nil))))) (bs_95_4_0_1_2_3 _ _ _ _) rfl rfl (Nat.le_of_ble_eq_true rfl) ?_)
 intro b1_1
 refine WL.wkF (fun _ h => h.perm (List.perm_middle (l₁ := [_, _]))) ?_
 refine WL.heavy rfl rfl rfl (OpH.callX (evs.cons rfl (evs.cons rfl (evs.nil))) ca_67 (fun w hs => w_spec_l18Pick e1_2 hs (fun w hs => (r0_0 _ (St.tl (F := [_, _]) hs))) (fun w hs => (Ow.rd (hs.mem (.head _))))) ?_)
 rintro _ _ ⟨rfl, rfl⟩
 refine sp (OpV.move rfl) ?_
 refine WL.heavy rfl rfl rfl (OpH.litF (A := tInt) (xs := [0, 3, 255]) tInt_flat (evps.cons rfl (evps.cons rfl (evps.cons rfl (evps.nil)))) (bs_34_3_0_1_2 _ _ _) rfl rfl (Nat.le_of_ble_eq_true rfl) ?_)
 intro b1_4
 refine WL.wkF (fun _ h => h.perm (List.perm_middle (l₁ := [_]))) ?_
 refine WL.heavy rfl rfl rfl (OpH.callX (evs.cons rfl (evs.cons rfl (evs.nil))) ca_45 (fun w hs => w_spec_l01PickInt e1_5 hs (fun w hs => (r0_0 _ (St.tl (F := [_, _, _]) hs))) (fun w hs => (Ow.rd (hs.mem (.head _))))) ?_)
 rintro _ _ ⟨rfl, rfl⟩
 refine sp (OpV.build (evps.cons rfl (evps.cons rfl (evps.nil))) (bd_47_0_2 _ _)) ?_
 refine WL.heavy rfl rfl rfl (OpH.alloc zc_47 ?_)
 intro b1_7
 refine WL.heavy0 rfl rfl (OpH.storeTo (A := []) [_, _, _] rfl rfl rfl ts_47 rfl rfl rfl ?_)
 refine WL.nil (En.next (WC.seq (WC.seq ?_)))
 obtain ⟨⟨x2_1a, x2_1b⟩, e2_1, h⟩ := bnd h
 refine WC.region ?_
 refine sp (OpV.move rfl) ?_
 refine WL.wkF (fun _ h => h.perm (List.perm_middle (l₁ := [_]))) ?_
 refine WL.heavy rfl rfl rfl (OpH.callX (evs.cons rfl (evs.cons rfl (evs.nil))) ca_62 (fun w hs => w_spec_l01Below e2_1 hs (fun w hs => (r0_0 _ (St.tl (F := [_, _, _, _]) hs)))) ?_)
 rintro _ _ ⟨rfl, rfl⟩
 refine sp (OpV.addR rfl rfl) ?_
 refine sp (OpV.assign rfl) ?_
 refine WL.nil (En.next (WC.block ?_))
 obtain ⟨zy0, ezy0, h⟩ := bnd h
 refine WC.cut (X := ((List ModeT) × Int × Int) × ((Option Addr) × Nat × Nat × (List Nat))) (.exit 0) (fun x => zy0 = x.1) (fun x => match x with | ((m_0e, c_0e, c1_0e), (am_0e, nm_0e, cm_0e, fm_0e)) => [(2, .pointer (some ⟨b0_0, 0, .none⟩)), (3, .pointer (some ⟨b1_7, 0, .none⟩))]) (fun x => match x with | ((m_0e, c_0e, c1_0e), (am_0e, nm_0e, cm_0e, fm_0e)) => (Chunk.box b0_0 47 [.string (⟨#[]⟩ : ByteArray), .slice .none 0 0, .int .i64 0] :: Chunk.box b1_7 47 [.string x1_2a, .slice am_0e nm_0e cm_0e, .int .i64 x1_5a] :: Chunk.own tMode fm_0e am_0e nm_0e cm_0e m_0e :: Chunk.box b0 88 [.slice q0_0 c_p0.b.length k0_0, .int .i64 c_0e, .int .i64 c1_0e] :: C)) ?_ ?_
 ·
  rintro ⟨⟨m_0e, c_0e, c1_0e⟩, ⟨am_0e, nm_0e, cm_0e, fm_0e⟩⟩ hx
  replace hx : (m_0e, c_0e, c1_0e) = zy0 := hx.symm
  subst hx
  show En _ _ _ _ [(2, .pointer (some ⟨b0_0, 0, .none⟩)), (3, .pointer (some ⟨b1_7, 0, .none⟩))] (Chunk.box b0_0 47 [.string (⟨#[]⟩ : ByteArray), .slice .none 0 0, .int .i64 0] :: Chunk.box b1_7 47 [.string x1_2a, .slice am_0e nm_0e cm_0e, .int .i64 x1_5a] :: Chunk.own tMode fm_0e am_0e nm_0e cm_0e m_0e :: Chunk.box b0 88 [.slice q0_0 c_p0.b.length k0_0, .int .i64 c_0e, .int .i64 c1_0e] :: C)
  refine En.block_exit (En.next (WC.seq (WC.region ?_)))
  refine sp (OpV.loadAll rfl (.tail _ (.head _)) ag_47) ?_
  refine WL.heavy0 rfl rfl (OpH.storeTo (A := []) [_, _, _] rfl rfl rfl ts_47 rfl rfl rfl ?_)
  refine WL.nil (En.next (WC.ret ?_))
  refine En.ret1 rfl (Res.cell rfl (.head _) ag_47) ?_
  obtain rfl := Option.some.inj h
  intro w' hs
  have hs := (((hs).perm (List.perm_middle (l₁ := [_, _, _]))).perm (List.perm_middle (l₁ := [_, _, _]))).sub (.cons_cons _ (.cons_cons _ (.cons _ (.cons _ (List.Sublist.refl _)))))
  exact ⟨_, _, rfl, ⟨am_0e, nm_0e, cm_0e, fm_0e, rfl, rfl⟩, hs⟩
 ·
  intro zK0_0
  refine WC.loopP (G := (Option Addr) × Nat × Nat × (List Nat)) (fun s g => match s, g with | (c_0, c1_0, m_0, k_0), (am_0, nm_0, cm_0, fm_0) => [(0, .pointer (some ⟨b0, 0, .none⟩)), (2, .pointer (some ⟨b0_0, 0, .none⟩)), (3, .pointer (some ⟨b1_7, 0, .none⟩)), (4, .int .i64 k_0)]) (fun s g => match s, g with | (c_0, c1_0, m_0, k_0), (am_0, nm_0, cm_0, fm_0) => (Chunk.box b0 88 [.slice q0_0 c_p0.b.length k0_0, .int .i64 c_0, .int .i64 c1_0] :: Chunk.box b0_0 47 [.string (⟨#[]⟩ : ByteArray), .slice .none 0 0, .int .i64 0] :: Chunk.box b1_7 47 [.string x1_2a, .slice am_0 nm_0 cm_0, .int .i64 x1_5a] :: Chunk.own tMode fm_0 am_0 nm_0 cm_0 m_0 :: C)) (x2_1b.i, x2_1b.h, [], (wr (1 + x2_1a))) (.none, 0, 0, []) ezy0 (by exact Sub.cons rfl (Sub.cons rfl (Sub.cons rfl (Sub.cons rfl (Sub.nil _))))) (by exact (fun _ h => (((((h).ownNil (A := tMode)).perm (List.perm_middle (l₁ := [_, _]))).perm (List.perm_middle (l₁ := [_, _, _, _, _]))).perm (List.perm_middle (l₁ := [_, _, _]))).sub (.cons_cons _ (.cons_cons _ (.cons_cons _ (.cons_cons _ (.cons _ (.cons _ (List.Sublist.refl _))))))))) ?_
  rintro zm0 ⟨c_0, c1_0, m_0, k_0⟩ ⟨am_0, nm_0, cm_0, fm_0⟩ zo0 zf0 zb0 ze0
  have zh0 : spec_l18Monitor_L0 c_p0 c_0 c1_0 m_0 k_0 = some zo0 := zf0
  unfold spec_l18Monitor_L0 at zh0
  show WC _ _ _ _ _ [(0, .pointer (some ⟨b0, 0, .none⟩)), (2, .pointer (some ⟨b0_0, 0, .none⟩)), (3, .pointer (some ⟨b1_7, 0, .none⟩)), (4, .int .i64 k_0)] (Chunk.box b0 88 [.slice q0_0 c_p0.b.length k0_0, .int .i64 c_0, .int .i64 c1_0] :: Chunk.box b0_0 47 [.string (⟨#[]⟩ : ByteArray), .slice .none 0 0, .int .i64 0] :: Chunk.box b1_7 47 [.string x1_2a, .slice am_0 nm_0 cm_0, .int .i64 x1_5a] :: Chunk.own tMode fm_0 am_0 nm_0 cm_0 m_0 :: C)
  refine WC.seq (WC.seq (WC.region ?_))
  refine sp (OpV.move rfl) ?_
  refine sp (OpV.gtr rfl rfl) ?_
  refine WL.nil (En.next ?_)
  refine WC.cond rfl ?_ ?_
  ·
   intro hc_1
   replace zh0 := ifO_t hc_1 zh0
   refine WC.skip (En.next (WC.seq (WC.block ?_)))
   obtain ⟨⟨x5_3a, x5_3b⟩, e5_3, zh0⟩ := bnd zh0
   obtain ⟨x5_5, e5_5, zh0⟩ := bnd zh0
   refine WC.wkF (fun _ h => h.perm (List.perm_middle (l₁ := [_, _, _]))) ?_
   refine WC.wkF (fun _ h => h.perm (List.perm_middle (l₁ := [_, _, _]))) ?_
   refine WC.wkF (fun _ h => h.perm (List.perm_middle (l₁ := [_, _]))) ?_
   refine WC.drawnH [_, _, _] (_ :: C) (fun _ h => h) (by kernel_rfl) ?_
   refine WAE.take (i := 0) rfl (by kernel_rfl) (by kernel_rfl) (by kernel_rfl) rfl rfl rfl (OpV.fieldAddr rfl fo_47_1) ?_
   refine WAE.take (i := 2) rfl (by kernel_rfl) (by kernel_rfl) (by kernel_rfl) rfl rfl rfl (OpV.move rfl) ?_
   refine WAE.all (rs := [1, 3]) (by kernel_rfl) rfl (AllR.cons rfl rfl rfl rfl ?_ (AllR.cons rfl rfl rfl rfl ?_ AllR.nil))
   ·
    refine OpH.light (OpV.loadBox rfl pt_45 (.tail _ (.head _)) rfl) ?_
    refine ⟨[_, _, _], rfl, ?_⟩
    refine WAE.all (rs := [3]) (by kernel_rfl) rfl (AllR.cons rfl rfl rfl rfl ?_ AllR.nil)
    refine OpH.callX (evs.cons rfl (evs.nil)) ca_44 (fun w hs => w_spec_l16Mode e5_3 hs (fun w hs => (r0_0 _ (St.tl (F := [_, _, _]) hs)))) ?_
    rintro _ _ ⟨rfl, rfl⟩
    refine ⟨[_, _, _], rfl, ?_⟩
    refine WAE.all (rs := [4]) (by kernel_rfl) rfl (AllR.cons rfl rfl rfl rfl ?_ AllR.nil)
    refine OpH.litF (A := tMode) (xs := [x5_3a]) tMode_flat (evps.cons rfl (evps.nil)) (bs_45_1_0 _ _ _ _ _ _ _ _ _) rfl rfl (Nat.le_of_ble_eq_true rfl) ?_
    intro b5_4
    refine ⟨[_, _, _, _], rfl, ?_⟩
    refine WAE.all (rs := [5]) (by kernel_rfl) rfl (AllR.cons rfl rfl rfl rfl ?_ AllR.nil)
    refine OpH.appS (F := [_, _, _]) (A := tMode) tMode_flat rfl rfl rfl mi_45 rfl (by decide) (fun w hs => (Ow.rd (hs.mem (.head _)))) e5_5 ?_
    intro f5_5 a5_5 c5_5
    refine ⟨[_, _, _, _], rfl, ?_⟩
    refine WAE.take (i := 6) rfl (by kernel_rfl) (by kernel_rfl) (by kernel_rfl) rfl rfl rfl (OpV.fieldAddr rfl fo_47_1) ?_
    refine WAE.all (rs := [7]) (by kernel_rfl) rfl (AllR.cons0 rfl rfl rfl ?_ AllR.nil)
    refine OpH.storeTo (A := [_, _]) [_, _, _] rfl rfl rfl ts_45 rfl rfl rfl ?_
    refine ⟨[_, _, _, _], rfl, ?_⟩
    refine WAE.rebase (H := []) ?_
    refine WAE.done (by kernel_rfl) ?_ _
    refine En.block_norm (En.next (WC.region ?_))
    refine sp (OpV.move rfl) ?_
    refine sp (OpV.subR rfl rfl) ?_
    refine sp (OpV.assign rfl) ?_
    refine WL.nil ?_
    exact En.backP zb0 zh0 (a5_5, x5_5.length, c5_5, f5_5) (Sub.cons rfl (Sub.cons rfl (Sub.cons rfl (Sub.cons rfl (Sub.nil _))))) (fun _ h => (((((h).perm (List.perm_middle (l₁ := [_, _, _]))).perm (List.perm_middle (l₁ := [_, _, _]))).perm (List.perm_middle (l₁ := [_, _, _, _]))).perm (List.perm_middle (l₁ := [_, _, _, _]))).sub (.cons_cons _ (.cons_cons _ (.cons_cons _ (.cons_cons _ (.cons _ (List.Sublist.refl _)))))))
   ·
    refine OpH.callX (evs.cons rfl (evs.nil)) ca_44 (fun w hs => w_spec_l16Mode e5_3 hs (fun w hs => (r0_0 _ (St.tl (F := [_, _, _]) hs)))) ?_
    rintro _ _ ⟨rfl, rfl⟩
    refine ⟨[_, _, _], rfl, ?_⟩
    refine WAE.all (rs := [1, 4]) (by kernel_rfl) rfl (AllR.cons rfl rfl rfl rfl ?_ (AllR.cons rfl rfl rfl rfl ?_ AllR.nil))
    ·
     refine OpH.light (OpV.loadBox rfl pt_45 (.tail _ (.head _)) rfl) ?_
     refine ⟨[_, _, _], rfl, ?_⟩
     refine WAE.all (rs := [4]) (by kernel_rfl) rfl (AllR.cons rfl rfl rfl rfl ?_ AllR.nil)
     refine OpH.litF (A := tMode) (xs := [x5_3a]) tMode_flat (evps.cons rfl (evps.nil)) (bs_45_1_0 _ _ _ _ _ _ _ _ _) rfl rfl (Nat.le_of_ble_eq_true rfl) ?_
     intro b5_4
     refine ⟨[_, _, _, _], rfl, ?_⟩
     refine WAE.all (rs := [5]) (by kernel_rfl) rfl (AllR.cons rfl rfl rfl rfl ?_ AllR.nil)
     refine OpH.appS (F := [_, _, _]) (A := tMode) tMode_flat rfl rfl rfl mi_45 rfl (by decide) (fun w hs => (Ow.rd (hs.mem (.head _)))) e5_5 ?_
     intro f5_5 a5_5 c5_5
     refine ⟨[_, _, _, _], rfl, ?_⟩
     refine WAE.take (i := 6) rfl (by kernel_rfl) (by kernel_rfl) (by kernel_rfl) rfl rfl rfl (OpV.fieldAddr rfl fo_47_1) ?_
     refine WAE.all (rs := [7]) (by kernel_rfl) rfl (AllR.cons0 rfl rfl rfl ?_ AllR.nil)
     refine OpH.storeTo (A := [_, _]) [_, _, _] rfl rfl rfl ts_45 rfl rfl rfl ?_
     refine ⟨[_, _, _, _], rfl, ?_⟩
     refine WAE.rebase (H := []) ?_
     refine WAE.done (by kernel_rfl) ?_ _
     refine En.block_norm (En.next (WC.region ?_))
     refine sp (OpV.move rfl) ?_
     refine sp (OpV.subR rfl rfl) ?_
     refine sp (OpV.assign rfl) ?_
     refine WL.nil ?_
     exact En.backP zb0 zh0 (a5_5, x5_5.length, c5_5, f5_5) (Sub.cons rfl (Sub.cons rfl (Sub.cons rfl (Sub.cons rfl (Sub.nil _))))) (fun _ h => (((((h).perm (List.perm_middle (l₁ := [_, _, _]))).perm (List.perm_middle (l₁ := [_, _, _]))).perm (List.perm_middle (l₁ := [_, _, _, _]))).perm (List.perm_middle (l₁ := [_, _, _, _]))).sub (.cons_cons _ (.cons_cons _ (.cons_cons _ (.cons_cons _ (.cons _ (List.Sublist.refl _)))))))
    ·
     refine OpH.litF (A := tMode) (xs := [x5_3a]) tMode_flat (evps.cons rfl (evps.nil)) (bs_45_1_0 _ _ _ _ _ _ _ _ _) rfl rfl (Nat.le_of_ble_eq_true rfl) ?_
     intro b5_4
     refine ⟨[_, _, _, _], rfl, ?_⟩
     refine WAE.all (rs := [1]) (by kernel_rfl) rfl (AllR.cons rfl rfl rfl rfl ?_ AllR.nil)
     refine OpH.light (OpV.loadBox rfl pt_45 (.tail _ (.tail _ (.head _))) rfl) ?_
     refine ⟨[_, _, _, _], rfl, ?_⟩
     refine WAE.all (rs := [5]) (by kernel_rfl) rfl (AllR.cons rfl rfl rfl rfl ?_ AllR.nil)
     refine OpH.appS (F := [_, _, _]) (A := tMode) tMode_flat rfl rfl rfl mi_45 rfl (by decide) (fun w hs => (Ow.rd (hs.mem (.head _)))) e5_5 ?_
     intro f5_5 a5_5 c5_5
     refine ⟨[_, _, _, _], rfl, ?_⟩
     refine WAE.take (i := 6) rfl (by kernel_rfl) (by kernel_rfl) (by kernel_rfl) rfl rfl rfl (OpV.fieldAddr rfl fo_47_1) ?_
     refine WAE.all (rs := [7]) (by kernel_rfl) rfl (AllR.cons0 rfl rfl rfl ?_ AllR.nil)
     refine OpH.storeTo (A := [_, _]) [_, _, _] rfl rfl rfl ts_45 rfl rfl rfl ?_
     refine ⟨[_, _, _, _], rfl, ?_⟩
     refine WAE.rebase (H := []) ?_
     refine WAE.done (by kernel_rfl) ?_ _
     refine En.block_norm (En.next (WC.region ?_))
     refine sp (OpV.move rfl) ?_
     refine sp (OpV.subR rfl rfl) ?_
     refine sp (OpV.assign rfl) ?_
     refine WL.nil ?_
     exact En.backP zb0 zh0 (a5_5, x5_5.length, c5_5, f5_5) (Sub.cons rfl (Sub.cons rfl (Sub.cons rfl (Sub.cons rfl (Sub.nil _))))) (fun _ h => (((((h).perm (List.perm_middle (l₁ := [_, _, _]))).perm (List.perm_middle (l₁ := [_, _, _]))).perm (List.perm_middle (l₁ := [_, _, _, _]))).perm (List.perm_middle (l₁ := [_, _, _, _]))).sub (.cons_cons _ (.cons_cons _ (.cons_cons _ (.cons_cons _ (.cons _ (List.Sublist.refl _)))))))
  ·
   intro hc_1
   replace zh0 := ifO_f hc_1 zh0
   refine WC.exit (En.then_exit (En.then_exit ?_))
   have hx := exitP ze0 zh0
   exact En.wk _ _ (Sub.cons rfl (Sub.cons rfl (Sub.nil _))) (fun _ h => (((h).perm (List.perm_middle (l₁ := [_, _, _]))).perm (List.perm_middle (l₁ := [_, _, _]))).perm (List.perm_middle (l₁ := [_, _, _]))) (zK0_0 ((m_0, c_0, c1_0), (am_0, nm_0, cm_0, fm_0)) hx.symm)

theorem w_spec_DrawMonitor {code_p0 : List Int} {r : MonitorT} {q0_0 : Option Addr} {l0_0 k0_0 : Nat} (h : spec_DrawMonitor code_p0 = some r) {w : World} (r0_0 : Rd tU8 w q0_0 l0_0 k0_0 code_p0)   :
    Calls Try.prog 25 #[.slice q0_0 l0_0 k0_0] w (fun en w' => ∃ rv G, en = .returned rv ∧ (∃ (a0_0 : Option Addr) (n0_0 : Nat) (c0_0 : Nat) (f0_0 : List Nat), rv = .agg #[.string r.Name, .slice a0_0 n0_0 c0_0, .int .i64 r.Stretch] ∧ G = [Chunk.own tMode f0_0 a0_0 n0_0 c0_0 r.Modes]) ∧ St w G w') := by
 obtain rfl := r0_0.1
 unfold spec_DrawMonitor at h
 refine enter (vs := [_]) Try.func25 rfl rfl rfl rfl ?_
 refine WC.seq (WC.region ?_)
 refine WL.heavy rfl rfl rfl (OpH.alloc zc_47 ?_)
 intro b0_0
 refine WL.nil (En.next (WC.seq ?_))
 obtain ⟨x1_1, e1_1, h⟩ := bnd h
 obtain ⟨⟨x1_2a, x1_2b⟩, e1_2, h⟩ := bnd h
 refine WC.region ?_
 refine sp (OpV.move rfl) ?_
 refine WL.heavy rfl rfl rfl (OpH.callR (evs.cons rfl (evs.nil)) ca_43 (fun w hs => w_spec_l01New e1_1 (r0_0.ext hs.below)) ?_)
 rintro _ _ ⟨b1_10p, rfl, rfl⟩
 refine WL.heavy rfl rfl rfl (OpH.callX (evs.cons rfl (evs.nil)) ca_51 (fun w hs => w_spec_l18Monitor e1_2 hs (fun w hs => (r0_0.ext hs.below))) ?_)
 rintro _ _ ⟨a1_200, n1_200, c1_200, f1_200, rfl, rfl⟩
 refine WL.heavy0 rfl rfl (OpH.storeTo (A := [_, _]) [_, _, _] rfl rfl rfl ts_47 rfl rfl rfl ?_)
 refine WL.nil (En.next (WC.ret ?_))
 refine En.ret1 rfl (Res.cell rfl (.tail _ (.tail _ (.head _))) ag_47) ?_
 obtain rfl := Option.some.inj h
 intro w' hs
 have hs := (hs).sub (.cons_cons _ (.cons _ (.cons _ (.slnil))))
 exact ⟨_, _, rfl, ⟨a1_200, n1_200, c1_200, f1_200, rfl, rfl⟩, hs⟩

theorem w_laws_at {code_p0 : List Int} {i_p1 : Int} {r : Int} {q0_0 : Option Addr} {l0_0 k0_0 : Nat} (h : laws_at code_p0 i_p1 = some r) {w : World} (r0_0 : Rd tU8 w q0_0 l0_0 k0_0 code_p0)   :
    Calls Try.prog 11 #[.slice q0_0 l0_0 k0_0, .int .i64 i_p1] w (fun en w' => en = .returned (.int .i64 r) ∧ Ext w w') := by
 obtain rfl := r0_0.1
 unfold laws_at at h
 refine enter (vs := [_, _]) Try.func11 rfl rfl rfl rfl ?_
 refine WC.seq (WC.region ?_)
 refine sp (OpV.assign rfl) ?_
 refine WL.nil (En.next (WC.seq (WC.seq (WC.region ?_))))
 refine sp (OpV.move rfl) ?_
 refine sp (OpV.len rfl si_22 rfl) ?_
 refine sp (OpV.eql rfl rfl) ?_
 refine WL.nil (En.next ?_)
 refine WC.cond rfl ?_ ?_
 ·
  intro hc_1
  replace h := ifO_t hc_1 h
  refine WC.seq (WC.region ?_)
  refine sp (OpV.assign rfl) ?_
  refine WL.nil (En.next (WC.ret (En.then_ret ?_)))
  refine En.ret1 rfl (Res.tmp rfl) ?_
  obtain rfl := Option.some.inj h
  intro w' hs
  exact ⟨rfl, hs.below⟩
 ·
  intro hc_1
  replace h := ifO_f hc_1 h
  refine WC.skip (En.next (WC.seq ?_))
  obtain ⟨x3_6, e3_6, h⟩ := bnd h
  obtain ⟨x3_7, e3_7, h⟩ := bnd h
  obtain ⟨g3_7, o3_7, _, ha3_7, rfl, hd3_7⟩ := Rd.atIdx r0_0 e3_7
  replace hd3_7 : ∀ (j : Nat) v, ([.int .u8 x3_7] : List Value)[j]? = some v → w.cell? ⟨g3_7, o3_7 + x3_6.toNat * 1 + j, .none⟩ = some v := hd3_7
  refine WC.region ?_
  refine sp (OpV.move rfl) ?_
  refine sp (OpV.move rfl) ?_
  refine sp (OpV.mulR rfl rfl) ?_
  refine sp (OpV.addR rfl rfl) ?_
  refine sp (OpV.move rfl) ?_
  refine sp (OpV.len rfl si_22 rfl) ?_
  refine sp (OpV.remR rfl rfl e3_6) ?_
  refine sp (OpV.idxA rfl rfl se_22 ha3_7 ⟨(idx_some e3_7).1, (idx_some e3_7).2.1⟩) ?_
  refine sp (OpV.load1 rfl pt_5 (fun w hs => hs.cell (hd3_7 0 _ rfl))) ?_
  refine sp (OpV.convR rfl uS_5 ui_3_i64) ?_
  refine sp (OpV.assign rfl) ?_
  refine WL.nil (En.next (WC.ret ?_))
  refine En.ret1 rfl (Res.tmp rfl) ?_
  obtain rfl := Option.some.inj h
  intro w' hs
  exact ⟨rfl, hs.below⟩

theorem w_impl_within {n_p0 : Int} {low_p1 : Int} {high_p2 : Int} {r : Bool}  (h : impl_within n_p0 low_p1 high_p2 = some r) {w : World}    :
    Calls Try.prog 39 #[.int .i64 n_p0, .int .i64 low_p1, .int .i64 high_p2] w (fun en w' => en = .returned (.bool r) ∧ Ext w w') := by
 unfold impl_within at h
 refine enter (vs := [_, _, _]) Try.func39 rfl rfl rfl rfl ?_
 refine WC.seq (WC.region ?_)
 refine sp (OpV.assign rfl) ?_
 refine WL.nil (En.next (WC.seq (WC.region ?_)))
 refine sp (OpV.move rfl) ?_
 refine sp (OpV.move rfl) ?_
 refine sp (OpV.leq rfl rfl) ?_
 refine sp (OpV.move rfl) ?_
 refine Lt.ofWL.and 10 14 13 (p := ?pz1) (rest := ?qz1) (B := ?Bz1) rfl ?Tz1 ?Fz1 ?az1 ?bz1 ?cz1 ?dz1 ?ez1
 case Tz1 =>
  intro hcz1 hkz1
  refine sp (OpV.move rfl) ?_
  refine sp (OpV.move rfl) ?_
  refine sp (OpV.leq rfl rfl) ?_
  refine hkz1 _ ?_ ?_
  exact rfl
  repeat (first | exact Sub.refl _ | refine Sub.skip rfl ?_)
 case Fz1 =>
  intro hcz1 hkz1
  refine sk ?_
  refine sk ?_
  refine sk ?_
  refine hkz1 _ ?_
  repeat (first | exact Sub.refl _ | refine Sub.skip rfl ?_)
 case az1 => exact rfl
 case bz1 => exact rfl
 case cz1 => exact rfl
 case dz1 => exact rfl
 refine sp (OpV.assign rfl) ?_
 refine WL.nil (En.next (WC.ret ?_))
 refine En.ret1 rfl (Res.tmp rfl) ?_
 obtain rfl := Option.some.inj h
 intro w' hs
 exact ⟨rfl, hs.below⟩

theorem w_impl_isSide {n_p0 : Int} {r : Bool}  (h : impl_isSide n_p0 = some r) {w : World}    :
    Calls Try.prog 66 #[.int .i64 n_p0] w (fun en w' => en = .returned (.bool r) ∧ Ext w w') := by
 unfold impl_isSide at h
 refine enter (vs := [_]) Try.func66 rfl rfl rfl rfl ?_
 refine WC.seq (WC.region ?_)
 refine sp (OpV.assign rfl) ?_
 refine WL.nil (En.next (WC.seq ?_))
 obtain ⟨x1_1, e1_1, h⟩ := bnd h
 refine WC.region ?_
 refine sp (OpV.move rfl) ?_
 refine sp (OpV.call (evs.cons rfl (evs.cons rfl (evs.cons rfl (evs.nil)))) ca_39 (fun w hs => w_impl_within e1_1)) ?_
 refine sp (OpV.assign rfl) ?_
 refine WL.nil (En.next (WC.ret ?_))
 refine En.ret1 rfl (Res.tmp rfl) ?_
 obtain rfl := Option.some.inj h
 intro w' hs
 exact ⟨rfl, hs.below⟩

theorem w_impl_ModeOk {m_p0 : ModeT} {r : Bool}  (h : impl_ModeOk m_p0 = some r) {w : World}    :
    Calls Try.prog 50 #[.agg #[.int .i64 m_p0.Clock, .int .i64 m_p0.W, .int .i64 m_p0.HFront, .int .i64 m_p0.HSync, .int .i64 m_p0.HBack, .int .i64 m_p0.H, .int .i64 m_p0.VFront, .int .i64 m_p0.VSync, .int .i64 m_p0.VBack]] w (fun en w' => en = .returned (.bool r) ∧ Ext w w') := by
 unfold impl_ModeOk at h
 refine enter (vs := [_]) Try.func50 rfl rfl rfl rfl ?_
 refine WC.seq (WC.region ?_)
 refine WL.heavy rfl rfl rfl (OpH.box rfl rfl ?_)
 intro b0_0
 refine sp (OpV.assign rfl) ?_
 refine WL.nil (En.next (WC.seq ?_))
 obtain ⟨x1_2, e1_2, h⟩ := bnd h
 obtain ⟨q1_7, e1_7, h⟩ := bnd h
 obtain ⟨q1_12, e1_12, h⟩ := bnd h
 obtain ⟨q1_17, e1_17, h⟩ := bnd h
 obtain ⟨q1_22, e1_22, h⟩ := bnd h
 obtain ⟨q1_27, e1_27, h⟩ := bnd h
 obtain ⟨q1_32, e1_32, h⟩ := bnd h
 obtain ⟨q1_37, e1_37, h⟩ := bnd h
 obtain ⟨q1_42, e1_42, h⟩ := bnd h
 refine WC.region ?_
 refine sp (OpV.fieldAddr rfl fo_33_0) ?_
 refine sp (OpV.loadBox rfl pt_3 (.head _) rfl) ?_
 refine sp (OpV.call (evs.cons rfl (evs.cons rfl (evs.cons rfl (evs.nil)))) ca_39 (fun w hs => w_impl_within e1_2)) ?_
 refine sp (OpV.move rfl) ?_
 refine Lt.ofWL.andQ 6 10 9 (p := ?pz1) (rest := ?qz1) (B := q1_7) rfl (fun hz => andO_f e1_7 hz) ?Tz1 ?Fz1 ?az1 ?bz1 ?cz1 ?dz1 ?ez1
 case Tz1 =>
  intro hcz1 hkz1
  have hqz1 := andO_t e1_7 hcz1
  obtain ⟨x1_6, e1_6, hqz1⟩ := bnd hqz1
  obtain rfl := Option.some.inj hqz1
  refine sp (OpV.fieldAddr rfl fo_33_1) ?_
  refine sp (OpV.loadBox rfl pt_3 (.head _) rfl) ?_
  refine sp (OpV.call (evs.cons rfl (evs.nil)) ca_66 (fun w hs => w_impl_isSide e1_6)) ?_
  refine hkz1 _ ?_ ?_
  exact rfl
  repeat (first | exact Sub.refl _ | refine Sub.skip rfl ?_)
 case Fz1 =>
  intro hcz1 hkz1
  refine sk ?_
  refine sk ?_
  refine sk ?_
  refine hkz1 _ ?_
  repeat (first | exact Sub.refl _ | refine Sub.skip rfl ?_)
 case az1 => exact rfl
 case bz1 => exact rfl
 case cz1 => exact rfl
 case dz1 => exact rfl
 refine sp (OpV.move rfl) ?_
 refine Lt.ofWL.andQ 11 15 14 (p := ?pz2) (rest := ?qz2) (B := q1_12) rfl (fun hz => andO_f e1_12 hz) ?Tz2 ?Fz2 ?az2 ?bz2 ?cz2 ?dz2 ?ez2
 case Tz2 =>
  intro hcz2 hkz2
  have hqz2 := andO_t e1_12 hcz2
  obtain ⟨x1_11, e1_11, hqz2⟩ := bnd hqz2
  obtain rfl := Option.some.inj hqz2
  refine sp (OpV.fieldAddr rfl fo_33_5) ?_
  refine sp (OpV.loadBox rfl pt_3 (.head _) rfl) ?_
  refine sp (OpV.call (evs.cons rfl (evs.nil)) ca_66 (fun w hs => w_impl_isSide e1_11)) ?_
  refine hkz2 _ ?_ ?_
  exact rfl
  repeat (first | exact Sub.refl _ | refine Sub.skip rfl ?_)
 case Fz2 =>
  intro hcz2 hkz2
  refine sk ?_
  refine sk ?_
  refine sk ?_
  refine hkz2 _ ?_
  repeat (first | exact Sub.refl _ | refine Sub.skip rfl ?_)
 case az2 => exact rfl
 case bz2 => exact rfl
 case cz2 => exact rfl
 case dz2 => exact rfl
 refine sp (OpV.move rfl) ?_
 refine Lt.ofWL.andQ 16 20 19 (p := ?pz3) (rest := ?qz3) (B := q1_17) rfl (fun hz => andO_f e1_17 hz) ?Tz3 ?Fz3 ?az3 ?bz3 ?cz3 ?dz3 ?ez3
 case Tz3 =>
  intro hcz3 hkz3
  have hqz3 := andO_t e1_17 hcz3
  obtain ⟨x1_16, e1_16, hqz3⟩ := bnd hqz3
  obtain rfl := Option.some.inj hqz3
  refine sp (OpV.fieldAddr rfl fo_33_3) ?_
  refine sp (OpV.loadBox rfl pt_3 (.head _) rfl) ?_
  refine sp (OpV.call (evs.cons rfl (evs.cons rfl (evs.cons rfl (evs.nil)))) ca_39 (fun w hs => w_impl_within e1_16)) ?_
  refine hkz3 _ ?_ ?_
  exact rfl
  repeat (first | exact Sub.refl _ | refine Sub.skip rfl ?_)
 case Fz3 =>
  intro hcz3 hkz3
  refine sk ?_
  refine sk ?_
  refine sk ?_
  refine hkz3 _ ?_
  repeat (first | exact Sub.refl _ | refine Sub.skip rfl ?_)
 case az3 => exact rfl
 case bz3 => exact rfl
 case cz3 => exact rfl
 case dz3 => exact rfl
 refine sp (OpV.move rfl) ?_
 refine Lt.ofWL.andQ 21 25 24 (p := ?pz4) (rest := ?qz4) (B := q1_22) rfl (fun hz => andO_f e1_22 hz) ?Tz4 ?Fz4 ?az4 ?bz4 ?cz4 ?dz4 ?ez4
 case Tz4 =>
  intro hcz4 hkz4
  have hqz4 := andO_t e1_22 hcz4
  obtain ⟨x1_21, e1_21, hqz4⟩ := bnd hqz4
  obtain rfl := Option.some.inj hqz4
  refine sp (OpV.fieldAddr rfl fo_33_7) ?_
  refine sp (OpV.loadBox rfl pt_3 (.head _) rfl) ?_
  refine sp (OpV.call (evs.cons rfl (evs.cons rfl (evs.cons rfl (evs.nil)))) ca_39 (fun w hs => w_impl_within e1_21)) ?_
  refine hkz4 _ ?_ ?_
  exact rfl
  repeat (first | exact Sub.refl _ | refine Sub.skip rfl ?_)
 case Fz4 =>
  intro hcz4 hkz4
  refine sk ?_
  refine sk ?_
  refine sk ?_
  refine hkz4 _ ?_
  repeat (first | exact Sub.refl _ | refine Sub.skip rfl ?_)
 case az4 => exact rfl
 case bz4 => exact rfl
 case cz4 => exact rfl
 case dz4 => exact rfl
 refine sp (OpV.move rfl) ?_
 refine Lt.ofWL.andQ 26 30 29 (p := ?pz5) (rest := ?qz5) (B := q1_27) rfl (fun hz => andO_f e1_27 hz) ?Tz5 ?Fz5 ?az5 ?bz5 ?cz5 ?dz5 ?ez5
 case Tz5 =>
  intro hcz5 hkz5
  have hqz5 := andO_t e1_27 hcz5
  obtain ⟨x1_26, e1_26, hqz5⟩ := bnd hqz5
  obtain rfl := Option.some.inj hqz5
  refine sp (OpV.fieldAddr rfl fo_33_2) ?_
  refine sp (OpV.loadBox rfl pt_3 (.head _) rfl) ?_
  refine sp (OpV.call (evs.cons rfl (evs.cons rfl (evs.cons rfl (evs.nil)))) ca_39 (fun w hs => w_impl_within e1_26)) ?_
  refine hkz5 _ ?_ ?_
  exact rfl
  repeat (first | exact Sub.refl _ | refine Sub.skip rfl ?_)
 case Fz5 =>
  intro hcz5 hkz5
  refine sk ?_
  refine sk ?_
  refine sk ?_
  refine hkz5 _ ?_
  repeat (first | exact Sub.refl _ | refine Sub.skip rfl ?_)
 case az5 => exact rfl
 case bz5 => exact rfl
 case cz5 => exact rfl
 case dz5 => exact rfl
 refine sp (OpV.move rfl) ?_
 refine Lt.ofWL.andQ 31 35 34 (p := ?pz6) (rest := ?qz6) (B := q1_32) rfl (fun hz => andO_f e1_32 hz) ?Tz6 ?Fz6 ?az6 ?bz6 ?cz6 ?dz6 ?ez6
 case Tz6 =>
  intro hcz6 hkz6
  have hqz6 := andO_t e1_32 hcz6
  obtain ⟨x1_31, e1_31, hqz6⟩ := bnd hqz6
  obtain rfl := Option.some.inj hqz6
  refine sp (OpV.fieldAddr rfl fo_33_4) ?_
  refine sp (OpV.loadBox rfl pt_3 (.head _) rfl) ?_
  refine sp (OpV.call (evs.cons rfl (evs.cons rfl (evs.cons rfl (evs.nil)))) ca_39 (fun w hs => w_impl_within e1_31)) ?_
  refine hkz6 _ ?_ ?_
  exact rfl
  repeat (first | exact Sub.refl _ | refine Sub.skip rfl ?_)
 case Fz6 =>
  intro hcz6 hkz6
  refine sk ?_
  refine sk ?_
  refine sk ?_
  refine hkz6 _ ?_
  repeat (first | exact Sub.refl _ | refine Sub.skip rfl ?_)
 case az6 => exact rfl
 case bz6 => exact rfl
 case cz6 => exact rfl
 case dz6 => exact rfl
 refine sp (OpV.move rfl) ?_
 refine Lt.ofWL.andQ 36 40 39 (p := ?pz7) (rest := ?qz7) (B := q1_37) rfl (fun hz => andO_f e1_37 hz) ?Tz7 ?Fz7 ?az7 ?bz7 ?cz7 ?dz7 ?ez7
 case Tz7 =>
  intro hcz7 hkz7
  have hqz7 := andO_t e1_37 hcz7
  obtain ⟨x1_36, e1_36, hqz7⟩ := bnd hqz7
  obtain rfl := Option.some.inj hqz7
  refine sp (OpV.fieldAddr rfl fo_33_6) ?_
  refine sp (OpV.loadBox rfl pt_3 (.head _) rfl) ?_
  refine sp (OpV.call (evs.cons rfl (evs.cons rfl (evs.cons rfl (evs.nil)))) ca_39 (fun w hs => w_impl_within e1_36)) ?_
  refine hkz7 _ ?_ ?_
  exact rfl
  repeat (first | exact Sub.refl _ | refine Sub.skip rfl ?_)
 case Fz7 =>
  intro hcz7 hkz7
  refine sk ?_
  refine sk ?_
  refine sk ?_
  refine hkz7 _ ?_
  repeat (first | exact Sub.refl _ | refine Sub.skip rfl ?_)
 case az7 => exact rfl
 case bz7 => exact rfl
 case cz7 => exact rfl
 case dz7 => exact rfl
 refine sp (OpV.move rfl) ?_
 refine Lt.ofWL.andQ 41 45 44 (p := ?pz8) (rest := ?qz8) (B := q1_42) rfl (fun hz => andO_f e1_42 hz) ?Tz8 ?Fz8 ?az8 ?bz8 ?cz8 ?dz8 ?ez8
 case Tz8 =>
  intro hcz8 hkz8
  have hqz8 := andO_t e1_42 hcz8
  obtain ⟨x1_41, e1_41, hqz8⟩ := bnd hqz8
  obtain rfl := Option.some.inj hqz8
  refine sp (OpV.fieldAddr rfl fo_33_8) ?_
  refine sp (OpV.loadBox rfl pt_3 (.head _) rfl) ?_
  refine sp (OpV.call (evs.cons rfl (evs.cons rfl (evs.cons rfl (evs.nil)))) ca_39 (fun w hs => w_impl_within e1_41)) ?_
  refine hkz8 _ ?_ ?_
  exact rfl
  repeat (first | exact Sub.refl _ | refine Sub.skip rfl ?_)
 case Fz8 =>
  intro hcz8 hkz8
  refine sk ?_
  refine sk ?_
  refine sk ?_
  refine hkz8 _ ?_
  repeat (first | exact Sub.refl _ | refine Sub.skip rfl ?_)
 case az8 => exact rfl
 case bz8 => exact rfl
 case cz8 => exact rfl
 case dz8 => exact rfl
 refine sp (OpV.assign rfl) ?_
 refine WL.nil (En.next (WC.ret ?_))
 refine En.ret1 rfl (Res.tmp rfl) ?_
 obtain rfl := Option.some.inj h
 intro w' hs
 exact ⟨rfl, hs.below⟩

theorem w_impl_MonitorOk {m_p0 : MonitorT} {r : Bool} {q0_0 : Option Addr} {l0_0 k0_0 : Nat} (h : impl_MonitorOk m_p0 = some r) {w : World} (r0_0 : Rd tMode w q0_0 l0_0 k0_0 m_p0.Modes)   :
    Calls Try.prog 30 #[.agg #[.string m_p0.Name, .slice q0_0 l0_0 k0_0, .int .i64 m_p0.Stretch]] w (fun en w' => en = .returned (.bool r) ∧ Ext w w') := by
 obtain rfl := r0_0.1
 unfold impl_MonitorOk at h
 refine enter (vs := [_]) Try.func30 rfl rfl rfl rfl ?_
 refine WC.seq (WC.region ?_)
 refine WL.heavy rfl rfl rfl (OpH.box rfl rfl ?_)
 intro b0_0
 refine sp (OpV.assign rfl) ?_
 refine WL.nil (En.next (WC.seq (WC.seq ?_)))
 obtain ⟨x1_3, e1_3, h⟩ := bnd h
 obtain ⟨q1_11, e1_11, h⟩ := bnd h
 obtain ⟨q1_17, e1_17, h⟩ := bnd h
 refine WC.region ?_
 refine sp (OpV.fieldAddr rfl fo_47_0) ?_
 refine sp (OpV.loadBox rfl pt_9 (.head _) rfl) ?_
 refine sp (OpV.lenS rfl us_9 rfl) ?_
 refine sp (OpV.call (evs.cons rfl (evs.cons rfl (evs.cons rfl (evs.nil)))) ca_39 (fun w hs => w_impl_within e1_3)) ?_
 refine sp (OpV.not rfl) ?_
 refine sp (OpV.move rfl) ?_
 refine Lt.ofWL.orQ 11 17 16 (p := ?pz1) (rest := ?qz1) (B := q1_11) rfl (fun hz => orO_t e1_11 hz) ?Tz1 ?Fz1 ?az1 ?bz1 ?cz1 ?dz1 ?ez1
 case Tz1 =>
  intro hcz1 hkz1
  refine sk ?_
  refine sk ?_
  refine sk ?_
  refine sk ?_
  refine sk ?_
  refine hkz1 _ ?_
  repeat (first | exact Sub.refl _ | refine Sub.skip rfl ?_)
 case Fz1 =>
  intro hcz1 hkz1
  have hqz1 := orO_f e1_11 hcz1
  obtain ⟨x1_9, e1_9, hqz1⟩ := bnd hqz1
  obtain rfl := Option.some.inj hqz1
  refine sp (OpV.fieldAddr rfl fo_47_1) ?_
  refine sp (OpV.loadBox rfl pt_45 (.head _) rfl) ?_
  refine sp (OpV.len rfl si_45 rfl) ?_
  refine sp (OpV.call (evs.cons rfl (evs.cons rfl (evs.cons rfl (evs.nil)))) ca_39 (fun w hs => w_impl_within e1_9)) ?_
  refine sp (OpV.not rfl) ?_
  refine hkz1 _ ?_ ?_
  exact rfl
  repeat (first | exact Sub.refl _ | refine Sub.skip rfl ?_)
 case az1 => exact rfl
 case bz1 => exact rfl
 case cz1 => exact rfl
 case dz1 => exact rfl
 refine sp (OpV.move rfl) ?_
 refine Lt.ofWL.orQ 18 23 22 (p := ?pz2) (rest := ?qz2) (B := q1_17) rfl (fun hz => orO_t e1_17 hz) ?Tz2 ?Fz2 ?az2 ?bz2 ?cz2 ?dz2 ?ez2
 case Tz2 =>
  intro hcz2 hkz2
  refine sk ?_
  refine sk ?_
  refine sk ?_
  refine sk ?_
  refine hkz2 _ ?_
  repeat (first | exact Sub.refl _ | refine Sub.skip rfl ?_)
 case Fz2 =>
  intro hcz2 hkz2
  have hqz2 := orO_f e1_17 hcz2
  obtain ⟨x1_15, e1_15, hqz2⟩ := bnd hqz2
  obtain rfl := Option.some.inj hqz2
  refine sp (OpV.fieldAddr rfl fo_47_2) ?_
  refine sp (OpV.loadBox rfl pt_3 (.head _) rfl) ?_
  refine sp (OpV.call (evs.cons rfl (evs.cons rfl (evs.cons rfl (evs.nil)))) ca_39 (fun w hs => w_impl_within e1_15)) ?_
  refine sp (OpV.not rfl) ?_
  refine hkz2 _ ?_ ?_
  exact rfl
  repeat (first | exact Sub.refl _ | refine Sub.skip rfl ?_)
 case az2 => exact rfl
 case bz2 => exact rfl
 case cz2 => exact rfl
 case dz2 => exact rfl
 refine WL.nil (En.next ?_)
 refine WC.cond rfl ?_ ?_
 ·
  intro hc_1
  replace h := ifO_t hc_1 h
  refine WC.seq (WC.region ?_)
  refine sp (OpV.assign rfl) ?_
  refine WL.nil (En.next (WC.ret (En.then_ret ?_)))
  refine En.ret1 rfl (Res.tmp rfl) ?_
  obtain rfl := Option.some.inj h
  intro w' hs
  exact ⟨rfl, hs.below⟩
 ·
  intro hc_1
  replace h := ifO_f hc_1 h
  refine WC.skip (En.next (WC.seq (WC.seq (WC.region ?_))))
  refine sp (OpV.fieldAddr rfl fo_47_0) ?_
  refine sp (OpV.loadBox rfl pt_9 (.head _) rfl) ?_
  refine sp (OpV.lenS rfl us_9 rfl) ?_
  refine sp (OpV.move rfl) ?_
  refine WL.nil (En.next (WC.block ?_))
  obtain ⟨zy0, ezy0, h⟩ := bnd h
  refine WC.cut (X := (Unit) × (Unit)) (.exit 0) (fun x => zy0 = .inl x.1) (fun x => match x with | ((), ()) => [(1, .pointer (some ⟨b0_0, 0, .none⟩))]) (fun x => match x with | ((), ()) => [Chunk.box b0_0 47 [.string m_p0.Name, .slice q0_0 m_p0.Modes.length k0_0, .int .i64 m_p0.Stretch]]) ?_ ?_
  ·
   rintro ⟨⟨⟩, ⟨⟩⟩ hx
   replace hx : .inl () = zy0 := hx.symm
   subst hx
   replace h := fork_l h
   show En _ _ _ _ [(1, .pointer (some ⟨b0_0, 0, .none⟩))] [Chunk.box b0_0 47 [.string m_p0.Name, .slice q0_0 m_p0.Modes.length k0_0, .int .i64 m_p0.Stretch]]
   refine En.block_exit (En.next (WC.seq (WC.seq (WC.region ?_))))
   refine sp (OpV.fieldAddr rfl fo_47_1) ?_
   refine sp (OpV.loadBox rfl pt_45 (.head _) rfl) ?_
   refine sp (OpV.len rfl si_45 rfl) ?_
   refine sp (OpV.move rfl) ?_
   refine WL.nil (En.next (WC.block ?_))
   obtain ⟨zy1, ezy1, h⟩ := bnd h
   refine WC.cut (X := (Unit) × (Unit)) (.exit 2) (fun x => zy1 = .inl x.1) (fun x => match x with | ((), ()) => []) (fun x => match x with | ((), ()) => []) ?_ ?_
   ·
    rintro ⟨⟨⟩, ⟨⟩⟩ hx
    replace hx : .inl () = zy1 := hx.symm
    subst hx
    replace h := fork_l h
    show En _ _ _ _ [] []
    refine En.block_exit (En.next (WC.seq (WC.region ?_)))
    refine sp (OpV.assign rfl) ?_
    refine WL.nil (En.next (WC.ret ?_))
    refine En.ret1 rfl (Res.tmp rfl) ?_
    obtain rfl := Option.some.inj h
    intro w' hs
    exact ⟨rfl, hs.below⟩
   ·
    intro zK1_0
    refine WC.loopP (G := Unit) (fun s g => match s, g with | v_1, () => [(39, .slice q0_0 m_p0.Modes.length k0_0), (40, .int .i64 (m_p0.Modes.length : Int)), (41, .int .i64 v_1)]) (fun s g => match s, g with | v_1, () => []) 0 () ezy1 (by exact Sub.cons rfl (Sub.cons rfl (Sub.cons rfl (Sub.nil _)))) (by exact (fun _ h => (h).sub (.cons _ (.slnil)))) ?_
    rintro zm1 v_1 ⟨⟩ zo1 zf1 zb1 ze1
    have zh1 : impl_MonitorOk_L1 m_p0 v_1 = some zo1 := zf1
    unfold impl_MonitorOk_L1 at zh1
    show WC _ _ _ _ _ [(39, .slice q0_0 m_p0.Modes.length k0_0), (40, .int .i64 (m_p0.Modes.length : Int)), (41, .int .i64 v_1)] []
    refine WC.seq (WC.region ?_)
    refine sp (OpV.lss rfl rfl) ?_
    refine WL.nil (En.next (WC.seq ?_))
    refine WC.cond rfl ?_ ?_
    ·
     intro hc_2
     replace zh1 := ifO_t hc_2 zh1
     refine WC.skip (En.next (WC.seq (WC.block (WC.seq ?_))))
     obtain ⟨x11_0, e11_0, zh1⟩ := bnd zh1
     obtain ⟨g11_0, o11_0, _, ha11_0, rfl, hd11_0⟩ := Rd.atIdx r0_0 e11_0
     replace hd11_0 : ∀ (j : Nat) v, ([.int .i64 x11_0.Clock, .int .i64 x11_0.W, .int .i64 x11_0.HFront, .int .i64 x11_0.HSync, .int .i64 x11_0.HBack, .int .i64 x11_0.H, .int .i64 x11_0.VFront, .int .i64 x11_0.VSync, .int .i64 x11_0.VBack] : List Value)[j]? = some v → w.cell? ⟨g11_0, o11_0 + v_1.toNat * 9 + j, .none⟩ = some v := hd11_0
     refine WC.region ?_
     refine sp (OpV.idxA rfl rfl se_45 ha11_0 ⟨(idx_some e11_0).1, (idx_some e11_0).2.1⟩) ?_
     refine sp (OpV.loadN rfl ag_33 rfl (fun w hs => hs.cellsAt hd11_0)) ?_
     refine WL.heavy rfl rfl rfl (OpH.alloc zc_33 ?_)
     intro b11_2
     refine WL.heavy0 rfl rfl (OpH.storeTo (A := []) [_, _, _, _, _, _, _, _, _] rfl rfl rfl ts_33 rfl rfl rfl ?_)
     refine WL.nil (En.next (WC.seq ?_))
     obtain ⟨x12_1, e12_1, zh1⟩ := bnd zh1
     refine WC.region ?_
     refine sp (OpV.loadAll rfl (.head _) ag_33) ?_
     refine sp (OpV.call (evs.cons rfl (evs.nil)) ca_50 (fun w hs => w_impl_ModeOk e12_1)) ?_
     refine sp (OpV.not rfl) ?_
     refine WL.nil (En.next ?_)
     refine WC.cond rfl ?_ ?_
     ·
      intro hc_3
      replace zh1 := ifO_t hc_3 zh1
      refine WC.seq (WC.region ?_)
      refine sp (OpV.assign rfl) ?_
      refine WL.nil (En.next (WC.ret (En.block_ret (En.then_ret (En.then_ret (En.block_ret (En.then_ret ?_)))))))
      refine En.ret1 rfl (Res.tmp rfl) ?_
      have hx := exitP ze1 zh1
      subst hx
      replace h := fork_r h
      obtain rfl := Option.some.inj h
      intro w' hs
      exact ⟨rfl, hs.below⟩
     ·
      intro hc_3
      replace zh1 := ifO_f hc_3 zh1
      refine WC.skip (En.block_norm (En.next (WC.region ?_)))
      refine sp (OpV.addR rfl rfl) ?_
      refine sp (OpV.move rfl) ?_
      refine WL.nil ?_
      exact En.backP zb1 zh1 () (Sub.cons rfl (Sub.cons rfl (Sub.cons rfl (Sub.nil _)))) (fun _ h => (h).sub (.cons _ (.slnil)))
    ·
     intro hc_2
     replace zh1 := ifO_f hc_2 zh1
     refine WC.exit (En.then_exit (En.then_exit ?_))
     have hx := exitP ze1 zh1
     exact En.wk _ _ (Sub.nil _) (fun _ h => h) (zK1_0 ((), ()) hx.symm)
  ·
   intro zK0_0
   refine WC.loopP (G := Unit) (fun s g => match s, g with | v_0, () => [(1, .pointer (some ⟨b0_0, 0, .none⟩)), (26, .int .i64 (m_p0.Name.size : Int)), (27, .int .i64 v_0)]) (fun s g => match s, g with | v_0, () => [Chunk.box b0_0 47 [.string m_p0.Name, .slice q0_0 m_p0.Modes.length k0_0, .int .i64 m_p0.Stretch]]) 0 () ezy0 (by exact Sub.cons rfl (Sub.cons rfl (Sub.cons rfl (Sub.nil _)))) (by exact (fun _ h => h)) ?_
   rintro zm0 v_0 ⟨⟩ zo0 zf0 zb0 ze0
   have zh0 : impl_MonitorOk_L0 m_p0 v_0 = some zo0 := zf0
   unfold impl_MonitorOk_L0 at zh0
   show WC _ _ _ _ _ [(1, .pointer (some ⟨b0_0, 0, .none⟩)), (26, .int .i64 (m_p0.Name.size : Int)), (27, .int .i64 v_0)] [Chunk.box b0_0 47 [.string m_p0.Name, .slice q0_0 m_p0.Modes.length k0_0, .int .i64 m_p0.Stretch]]
   refine WC.seq (WC.region ?_)
   refine sp (OpV.lss rfl rfl) ?_
   refine WL.nil (En.next (WC.seq ?_))
   refine WC.cond rfl ?_ ?_
   ·
    intro hc_4
    replace zh0 := ifO_t hc_4 zh0
    refine WC.skip (En.next (WC.seq (WC.block (WC.seq (WC.region ?_)))))
    refine sp (OpV.move rfl) ?_
    refine sp (OpV.assign rfl) ?_
    refine WL.nil (En.next (WC.seq ?_))
    obtain ⟨x6_3, e6_3, zh0⟩ := bnd zh0
    obtain ⟨x6_5, e6_5, zh0⟩ := bnd zh0
    refine WC.region ?_
    refine sp (OpV.fieldAddr rfl fo_47_0) ?_
    refine sp (OpV.loadBox rfl pt_9 (.head _) rfl) ?_
    refine sp (OpV.move rfl) ?_
    refine sp (OpV.sidxR rfl rfl us_9 e6_3) ?_
    refine sp (OpV.convR rfl uS_5 ui_3_i64) ?_
    refine sp (OpV.call (evs.cons rfl (evs.cons rfl (evs.cons rfl (evs.nil)))) ca_39 (fun w hs => w_impl_within e6_5)) ?_
    refine sp (OpV.not rfl) ?_
    refine WL.nil (En.next ?_)
    refine WC.cond rfl ?_ ?_
    ·
     intro hc_5
     replace zh0 := ifO_t hc_5 zh0
     refine WC.seq (WC.region ?_)
     refine sp (OpV.assign rfl) ?_
     refine WL.nil (En.next (WC.ret (En.block_ret (En.then_ret (En.then_ret (En.block_ret (En.then_ret ?_)))))))
     refine En.ret1 rfl (Res.tmp rfl) ?_
     have hx := exitP ze0 zh0
     subst hx
     replace h := fork_r h
     obtain rfl := Option.some.inj h
     intro w' hs
     exact ⟨rfl, hs.below⟩
    ·
     intro hc_5
     replace zh0 := ifO_f hc_5 zh0
     refine WC.skip (En.block_norm (En.next (WC.region ?_)))
     refine sp (OpV.addR rfl rfl) ?_
     refine sp (OpV.move rfl) ?_
     refine WL.nil ?_
     exact En.backP zb0 zh0 () (Sub.cons rfl (Sub.cons rfl (Sub.cons rfl (Sub.nil _)))) (fun _ h => h)
   ·
    intro hc_4
    replace zh0 := ifO_f hc_4 zh0
    refine WC.exit (En.then_exit (En.then_exit ?_))
    have hx := exitP ze0 zh0
    exact En.wk _ _ (Sub.cons rfl (Sub.nil _)) (fun _ h => h) (zK0_0 ((), ()) hx.symm)

theorem w_impl_ChooseMode {m_p0 : MonitorT} {w_p1 : Int} {h_p2 : Int} {r : ModeT × Bool} {q0_0 : Option Addr} {l0_0 k0_0 : Nat} (h : impl_ChooseMode m_p0 w_p1 h_p2 = some r) {w : World} (r0_0 : Rd tMode w q0_0 l0_0 k0_0 m_p0.Modes)   :
    Calls Try.prog 26 #[.agg #[.string m_p0.Name, .slice q0_0 l0_0 k0_0, .int .i64 m_p0.Stretch], .int .i64 w_p1, .int .i64 h_p2] w (fun en w' => en = .returned (.tuple #[.agg #[.int .i64 r.1.Clock, .int .i64 r.1.W, .int .i64 r.1.HFront, .int .i64 r.1.HSync, .int .i64 r.1.HBack, .int .i64 r.1.H, .int .i64 r.1.VFront, .int .i64 r.1.VSync, .int .i64 r.1.VBack], .bool r.2]) ∧ Ext w w') := by
 obtain rfl := r0_0.1
 unfold impl_ChooseMode at h
 refine enter (vs := [_, _, _]) Try.func26 rfl rfl rfl rfl ?_
 refine WC.seq (WC.region ?_)
 refine WL.heavy rfl rfl rfl (OpH.box rfl rfl ?_)
 intro b0_0
 refine WL.heavy rfl rfl rfl (OpH.alloc zc_33 ?_)
 intro b0_1
 refine sp (OpV.assign rfl) ?_
 refine WL.nil (En.next (WC.seq (WC.seq ?_)))
 obtain ⟨x1_1, e1_1, h⟩ := bnd h
 refine WC.region ?_
 refine sp (OpV.loadAll rfl (.tail _ (.head _)) ag_47) ?_
 refine sp (OpV.call (evs.cons rfl (evs.nil)) ca_30 (fun w hs => w_impl_MonitorOk e1_1 (r0_0.ext hs.below))) ?_
 refine sp (OpV.not rfl) ?_
 refine WL.nil (En.next ?_)
 refine WC.cond rfl ?_ ?_
 ·
  intro hc_1
  replace h := ifO_t hc_1 h
  refine WC.seq (WC.region ?_)
  refine sp (OpV.build (evps.nil) bd_33_) ?_
  refine WL.heavy0 rfl rfl (OpH.storeTo (A := []) [_, _, _, _, _, _, _, _, _] rfl rfl rfl ts_33 rfl rfl rfl ?_)
  refine sp (OpV.assign rfl) ?_
  refine WL.nil (En.next (WC.ret (En.then_ret ?_)))
  refine En.ret2 rfl (Res.cell rfl (.head _) ag_33) (Res.tmp rfl) ?_
  obtain rfl := Option.some.inj h
  intro w' hs
  exact ⟨rfl, hs.below⟩
 ·
  intro hc_1
  replace h := ifO_f hc_1 h
  refine WC.skip (En.next (WC.seq ?_))
  obtain ⟨x3_2, e3_2, h⟩ := bnd h
  obtain ⟨g3_2, o3_2, _, ha3_2, rfl, hd3_2⟩ := Rd.atIdx r0_0 e3_2
  replace hd3_2 : ∀ (j : Nat) v, ([.int .i64 x3_2.Clock, .int .i64 x3_2.W, .int .i64 x3_2.HFront, .int .i64 x3_2.HSync, .int .i64 x3_2.HBack, .int .i64 x3_2.H, .int .i64 x3_2.VFront, .int .i64 x3_2.VSync, .int .i64 x3_2.VBack] : List Value)[j]? = some v → w.cell? ⟨g3_2, o3_2 + (Int.toNat 0) * 9 + j, .none⟩ = some v := hd3_2
  refine WC.region ?_
  refine sp (OpV.fieldAddr rfl fo_47_1) ?_
  refine sp (OpV.loadBox rfl pt_45 (.tail _ (.head _)) rfl) ?_
  refine sp (OpV.idxA rfl rfl se_45 ha3_2 ⟨(idx_some e3_2).1, (idx_some e3_2).2.1⟩) ?_
  refine sp (OpV.loadN rfl ag_33 rfl (fun w hs => hs.cellsAt hd3_2)) ?_
  refine WL.heavy rfl rfl rfl (OpH.alloc zc_33 ?_)
  intro b3_4
  refine WL.heavy0 rfl rfl (OpH.storeTo (A := []) [_, _, _, _, _, _, _, _, _] rfl rfl rfl ts_33 rfl rfl rfl ?_)
  refine WL.nil (En.next (WC.seq (WC.seq (WC.region ?_))))
  refine sp (OpV.fieldAddr rfl fo_47_1) ?_
  refine sp (OpV.loadBox rfl pt_45 (.tail _ (.tail _ (.head _))) rfl) ?_
  refine sp (OpV.len rfl si_45 rfl) ?_
  refine sp (OpV.move rfl) ?_
  refine WL.nil (En.next (WC.block ?_))
  obtain ⟨zy0, ezy0, h⟩ := bnd h
  refine WC.cut (X := (ModeT) × (Unit)) (.exit 0) (fun x => zy0 = .inl x.1) (fun x => match x with | (best_0e, ()) => [(6, .pointer (some ⟨b0_1, 0, .none⟩)), (8, .pointer (some ⟨b3_4, 0, .none⟩))]) (fun x => match x with | (best_0e, ()) => [Chunk.box b0_1 33 [.int .i64 0, .int .i64 0, .int .i64 0, .int .i64 0, .int .i64 0, .int .i64 0, .int .i64 0, .int .i64 0, .int .i64 0], Chunk.box b3_4 33 [.int .i64 best_0e.Clock, .int .i64 best_0e.W, .int .i64 best_0e.HFront, .int .i64 best_0e.HSync, .int .i64 best_0e.HBack, .int .i64 best_0e.H, .int .i64 best_0e.VFront, .int .i64 best_0e.VSync, .int .i64 best_0e.VBack]]) ?_ ?_
  ·
   rintro ⟨best_0e, ⟨⟩⟩ hx
   replace hx : .inl best_0e = zy0 := hx.symm
   subst hx
   replace h := fork_l h
   show En _ _ _ _ [(6, .pointer (some ⟨b0_1, 0, .none⟩)), (8, .pointer (some ⟨b3_4, 0, .none⟩))] [Chunk.box b0_1 33 [.int .i64 0, .int .i64 0, .int .i64 0, .int .i64 0, .int .i64 0, .int .i64 0, .int .i64 0, .int .i64 0, .int .i64 0], Chunk.box b3_4 33 [.int .i64 best_0e.Clock, .int .i64 best_0e.W, .int .i64 best_0e.HFront, .int .i64 best_0e.HSync, .int .i64 best_0e.HBack, .int .i64 best_0e.H, .int .i64 best_0e.VFront, .int .i64 best_0e.VSync, .int .i64 best_0e.VBack]]
   refine En.block_exit (En.next (WC.seq (WC.region ?_)))
   refine sp (OpV.loadAll rfl (.tail _ (.head _)) ag_33) ?_
   refine WL.heavy0 rfl rfl (OpH.storeTo (A := []) [_, _, _, _, _, _, _, _, _] rfl rfl rfl ts_33 rfl rfl rfl ?_)
   refine sp (OpV.assign rfl) ?_
   refine WL.nil (En.next (WC.ret ?_))
   refine En.ret2 rfl (Res.cell rfl (.head _) ag_33) (Res.tmp rfl) ?_
   obtain rfl := Option.some.inj h
   intro w' hs
   exact ⟨rfl, hs.below⟩
  ·
   intro zK0_0
   refine WC.loopP (G := Unit) (fun s g => match s, g with | (best_0, v_0), () => [(1, .int .i64 w_p1), (2, .int .i64 h_p2), (6, .pointer (some ⟨b0_1, 0, .none⟩)), (8, .pointer (some ⟨b3_4, 0, .none⟩)), (20, .slice q0_0 m_p0.Modes.length k0_0), (21, .int .i64 (m_p0.Modes.length : Int)), (22, .int .i64 v_0)]) (fun s g => match s, g with | (best_0, v_0), () => [Chunk.box b0_1 33 [.int .i64 0, .int .i64 0, .int .i64 0, .int .i64 0, .int .i64 0, .int .i64 0, .int .i64 0, .int .i64 0, .int .i64 0], Chunk.box b3_4 33 [.int .i64 best_0.Clock, .int .i64 best_0.W, .int .i64 best_0.HFront, .int .i64 best_0.HSync, .int .i64 best_0.HBack, .int .i64 best_0.H, .int .i64 best_0.VFront, .int .i64 best_0.VSync, .int .i64 best_0.VBack]]) (x3_2, 0) () ezy0 (by exact Sub.cons rfl (Sub.cons rfl (Sub.cons rfl (Sub.cons rfl (Sub.cons rfl (Sub.cons rfl (Sub.cons rfl (Sub.nil _)))))))) (by exact (fun _ h => ((h).perm (List.perm_middle (l₁ := [_]))).sub (.cons_cons _ (.cons_cons _ (.cons _ (.slnil)))))) ?_
   rintro zm0 ⟨best_0, v_0⟩ ⟨⟩ zo0 zf0 zb0 ze0
   have zh0 : impl_ChooseMode_L0 m_p0 w_p1 h_p2 best_0 v_0 = some zo0 := zf0
   unfold impl_ChooseMode_L0 at zh0
   show WC _ _ _ _ _ [(1, .int .i64 w_p1), (2, .int .i64 h_p2), (6, .pointer (some ⟨b0_1, 0, .none⟩)), (8, .pointer (some ⟨b3_4, 0, .none⟩)), (20, .slice q0_0 m_p0.Modes.length k0_0), (21, .int .i64 (m_p0.Modes.length : Int)), (22, .int .i64 v_0)] [Chunk.box b0_1 33 [.int .i64 0, .int .i64 0, .int .i64 0, .int .i64 0, .int .i64 0, .int .i64 0, .int .i64 0, .int .i64 0, .int .i64 0], Chunk.box b3_4 33 [.int .i64 best_0.Clock, .int .i64 best_0.W, .int .i64 best_0.HFront, .int .i64 best_0.HSync, .int .i64 best_0.HBack, .int .i64 best_0.H, .int .i64 best_0.VFront, .int .i64 best_0.VSync, .int .i64 best_0.VBack]]
   refine WC.seq (WC.region ?_)
   refine sp (OpV.lss rfl rfl) ?_
   refine WL.nil (En.next (WC.seq ?_))
   refine WC.cond rfl ?_ ?_
   ·
    intro hc_2
    replace zh0 := ifO_t hc_2 zh0
    refine WC.skip (En.next (WC.seq (WC.block (WC.seq ?_))))
    obtain ⟨x6_0, e6_0, zh0⟩ := bnd zh0
    obtain ⟨g6_0, o6_0, _, ha6_0, rfl, hd6_0⟩ := Rd.atIdx r0_0 e6_0
    replace hd6_0 : ∀ (j : Nat) v, ([.int .i64 x6_0.Clock, .int .i64 x6_0.W, .int .i64 x6_0.HFront, .int .i64 x6_0.HSync, .int .i64 x6_0.HBack, .int .i64 x6_0.H, .int .i64 x6_0.VFront, .int .i64 x6_0.VSync, .int .i64 x6_0.VBack] : List Value)[j]? = some v → w.cell? ⟨g6_0, o6_0 + v_0.toNat * 9 + j, .none⟩ = some v := hd6_0
    refine WC.region ?_
    refine sp (OpV.idxA rfl rfl se_45 ha6_0 ⟨(idx_some e6_0).1, (idx_some e6_0).2.1⟩) ?_
    refine sp (OpV.loadN rfl ag_33 rfl (fun w hs => hs.cellsAt hd6_0)) ?_
    refine WL.heavy rfl rfl rfl (OpH.alloc zc_33 ?_)
    intro b6_2
    refine WL.heavy0 rfl rfl (OpH.storeTo (A := []) [_, _, _, _, _, _, _, _, _] rfl rfl rfl ts_33 rfl rfl rfl ?_)
    refine WL.nil (En.next (WC.seq (WC.seq (WC.region ?_))))
    refine sp (OpV.fieldAddr rfl fo_33_1) ?_
    refine sp (OpV.loadBox rfl pt_3 (.head _) rfl) ?_
    refine sp (OpV.move rfl) ?_
    refine sp (OpV.eql rfl rfl) ?_
    refine sp (OpV.move rfl) ?_
    refine Lt.ofWL.and 30 35 34 (p := ?pz1) (rest := ?qz1) (B := ?Bz1) rfl ?Tz1 ?Fz1 ?az1 ?bz1 ?cz1 ?dz1 ?ez1
    case Tz1 =>
     intro hcz1 hkz1
     refine sp (OpV.fieldAddr rfl fo_33_5) ?_
     refine sp (OpV.loadBox rfl pt_3 (.head _) rfl) ?_
     refine sp (OpV.move rfl) ?_
     refine sp (OpV.eql rfl rfl) ?_
     refine hkz1 _ ?_ ?_
     exact rfl
     repeat (first | exact Sub.refl _ | refine Sub.skip rfl ?_)
    case Fz1 =>
     intro hcz1 hkz1
     refine sk ?_
     refine sk ?_
     refine sk ?_
     refine sk ?_
     refine hkz1 _ ?_
     repeat (first | exact Sub.refl _ | refine Sub.skip rfl ?_)
    case az1 => exact rfl
    case bz1 => exact rfl
    case cz1 => exact rfl
    case dz1 => exact rfl
    refine WL.nil (En.next ?_)
    refine WC.cond rfl ?_ ?_
    ·
     intro hc_3
     replace zh0 := ifO_t hc_3 zh0
     refine WC.seq (WC.region ?_)
     refine sp (OpV.loadAll rfl (.head _) ag_33) ?_
     refine WL.heavy0 rfl rfl (OpH.storeTo (A := [_]) [_, _, _, _, _, _, _, _, _] rfl rfl rfl ts_33 rfl rfl rfl ?_)
     refine sp (OpV.assign rfl) ?_
     refine WL.nil (En.next (WC.ret (En.then_ret (En.block_ret (En.then_ret (En.then_ret (En.block_ret (En.then_ret ?_))))))))
     refine En.ret2 rfl (Res.cell rfl (.tail _ (.head _)) ag_33) (Res.tmp rfl) ?_
     have hx := exitP ze0 zh0
     subst hx
     replace h := fork_r h
     obtain rfl := Option.some.inj h
     intro w' hs
     exact ⟨rfl, hs.below⟩
    ·
     intro hc_3
     replace zh0 := ifO_f hc_3 zh0
     refine WC.skip (En.next (WC.seq (WC.region ?_)))
     refine sp (OpV.fieldAddr rfl fo_33_1) ?_
     refine sp (OpV.loadBox rfl pt_3 (.head _) rfl) ?_
     refine sp (OpV.fieldAddr rfl fo_33_5) ?_
     refine sp (OpV.loadBox rfl pt_3 (.head _) rfl) ?_
     refine sp (OpV.mulR rfl rfl) ?_
     refine sp (OpV.fieldAddr rfl fo_33_1) ?_
     refine sp (OpV.loadBox rfl pt_3 (.tail _ (.tail _ (.head _))) rfl) ?_
     refine sp (OpV.fieldAddr rfl fo_33_5) ?_
     refine sp (OpV.loadBox rfl pt_3 (.tail _ (.tail _ (.head _))) rfl) ?_
     refine sp (OpV.mulR rfl rfl) ?_
     refine sp (OpV.gtr rfl rfl) ?_
     refine WL.nil (En.next ?_)
     refine WC.cond rfl ?_ ?_
     ·
      intro hc_4
      replace zh0 := ifO_t hc_4 zh0
      refine WC.region ?_
      refine sp (OpV.loadAll rfl (.head _) ag_33) ?_
      refine WL.heavy0 rfl rfl (OpH.storeTo (A := [_, _]) [_, _, _, _, _, _, _, _, _] rfl rfl rfl ts_33 rfl rfl rfl ?_)
      refine WL.nil (En.block_norm (En.next (WC.region ?_)))
      refine sp (OpV.addR rfl rfl) ?_
      refine sp (OpV.move rfl) ?_
      refine WL.nil ?_
      exact En.backP zb0 zh0 () (Sub.cons rfl (Sub.cons rfl (Sub.cons rfl (Sub.cons rfl (Sub.cons rfl (Sub.cons rfl (Sub.cons rfl (Sub.nil _)))))))) (fun _ h => (((h).perm (List.perm_middle (l₁ := [_, _]))).perm (List.perm_middle (l₁ := [_, _]))).sub (.cons_cons _ (.cons_cons _ (.cons _ (.slnil)))))
     ·
      intro hc_4
      replace zh0 := ifO_f hc_4 zh0
      refine WC.skip (En.block_norm (En.next (WC.region ?_)))
      refine sp (OpV.addR rfl rfl) ?_
      refine sp (OpV.move rfl) ?_
      refine WL.nil ?_
      exact En.backP zb0 zh0 () (Sub.cons rfl (Sub.cons rfl (Sub.cons rfl (Sub.cons rfl (Sub.cons rfl (Sub.cons rfl (Sub.cons rfl (Sub.nil _)))))))) (fun _ h => (((h).perm (List.perm_middle (l₁ := [_, _]))).perm (List.perm_middle (l₁ := [_, _]))).sub (.cons_cons _ (.cons_cons _ (.cons _ (.slnil)))))
   ·
    intro hc_2
    replace zh0 := ifO_f hc_2 zh0
    refine WC.exit (En.then_exit (En.then_exit ?_))
    have hx := exitP ze0 zh0
    exact En.wk _ _ (Sub.cons rfl (Sub.cons rfl (Sub.nil _))) (fun _ h => h) (zK0_0 (best_0, ()) hx.symm)

theorem w_laws_FnChosen {a_p0 : List Int} {r : Bool} {q0_0 : Option Addr} {l0_0 k0_0 : Nat} (h : laws_FnChosen a_p0 = some r) {w : World} (r0_0 : Rd tU8 w q0_0 l0_0 k0_0 a_p0)   :
    Calls Try.prog 6 #[.slice q0_0 l0_0 k0_0] w (fun en w' => en = .returned (.bool r) ∧ Ext w w') := by
 obtain rfl := r0_0.1
 unfold laws_FnChosen at h
 refine enter (vs := [_]) Try.func6 rfl rfl rfl rfl ?_
 refine WC.seq (WC.region ?_)
 refine sp (OpV.assign rfl) ?_
 refine WL.nil (En.next (WC.seq (WC.seq ?_)))
 obtain ⟨x1_1, e1_1, h⟩ := bnd h
 refine WC.region ?_
 refine sp (OpV.move rfl) ?_
 refine sp (OpV.call (evs.cons rfl (evs.nil)) ca_10 (fun w hs => w_laws_big e1_1 (r0_0.ext hs.below))) ?_
 refine WL.nil (En.next ?_)
 refine WC.cond rfl ?_ ?_
 ·
  intro hc_1
  replace h := ifO_t hc_1 h
  refine WC.seq (WC.region ?_)
  refine sp (OpV.assign rfl) ?_
  refine WL.nil (En.next (WC.ret (En.then_ret ?_)))
  refine En.ret1 rfl (Res.tmp rfl) ?_
  obtain rfl := Option.some.inj h
  intro w' hs
  exact ⟨rfl, hs.below⟩
 ·
  intro hc_1
  replace h := ifO_f hc_1 h
  refine WC.skip (En.next (WC.seq ?_))
  obtain ⟨x3_1, e3_1, h⟩ := bnd h
  refine WC.region ?_
  refine sp (OpV.move rfl) ?_
  refine WL.heavy rfl rfl rfl (OpH.callR (evs.cons rfl (evs.nil)) ca_25 (fun w hs => w_spec_DrawMonitor e3_1 (r0_0.ext hs.below)) ?_)
  rintro _ _ ⟨a3_100, n3_100, c3_100, f3_100, rfl, rfl⟩
  refine WL.heavy rfl rfl rfl (OpH.alloc zc_47 ?_)
  intro b3_2
  refine WL.heavy0 rfl rfl (OpH.storeTo (A := []) [_, _, _] rfl rfl rfl ts_47 rfl rfl rfl ?_)
  refine WL.nil (En.next (WC.seq ?_))
  obtain ⟨x4_1, e4_1, h⟩ := bnd h
  refine WC.region ?_
  refine sp (OpV.move rfl) ?_
  refine sp (OpV.call (evs.cons rfl (evs.cons rfl (evs.nil))) ca_11 (fun w hs => w_laws_at e4_1 (r0_0.ext hs.below))) ?_
  refine sp (OpV.remR rfl rfl rfl) ?_
  refine sp (OpV.addR rfl rfl) ?_
  refine sp (OpV.assign rfl) ?_
  refine WL.nil (En.next (WC.seq ?_))
  obtain ⟨x5_1, e5_1, h⟩ := bnd h
  refine WC.region ?_
  refine sp (OpV.move rfl) ?_
  refine sp (OpV.call (evs.cons rfl (evs.cons rfl (evs.nil))) ca_11 (fun w hs => w_laws_at e5_1 (r0_0.ext hs.below))) ?_
  refine sp (OpV.remR rfl rfl rfl) ?_
  refine sp (OpV.addR rfl rfl) ?_
  refine sp (OpV.assign rfl) ?_
  refine WL.nil (En.next (WC.seq ?_))
  obtain ⟨⟨x6_3a, x6_3b⟩, e6_3, h⟩ := bnd h
  refine WC.region ?_
  refine sp (OpV.loadAll rfl (.head _) ag_47) ?_
  refine sp (OpV.move rfl) ?_
  refine sp (OpV.move rfl) ?_
  refine sp (OpV.call (evs.cons rfl (evs.cons rfl (evs.cons rfl (evs.nil)))) ca_26 (fun w hs => w_impl_ChooseMode e6_3 (Ow.rd (hs.mem (.tail _ (.head _)))))) ?_
  refine sp (OpV.move rfl) ?_
  refine sp (OpV.extract rfl rfl) ?_
  refine sp (OpV.extract rfl rfl) ?_
  refine WL.heavy rfl rfl rfl (OpH.alloc zc_33 ?_)
  intro b6_7
  refine WL.heavy0 rfl rfl (OpH.storeTo (A := []) [_, _, _, _, _, _, _, _, _] rfl rfl rfl ts_33 rfl rfl rfl ?_)
  refine sp (OpV.assign rfl) ?_
  refine WL.nil (En.next (WC.seq (WC.region ?_)))
  refine sp (OpV.assign rfl) ?_
  refine WL.nil (En.next (WC.seq (WC.region ?_)))
  refine sp (OpV.assign rfl) ?_
  refine WL.nil (En.next (WC.seq (WC.seq (WC.region ?_))))
  refine sp (OpV.assign rfl) ?_
  refine WL.nil (En.next (WC.block ?_))
  obtain ⟨zy0, ezy0, h⟩ := bnd h
  refine WC.cut (X := (Bool × Bool) × (Unit)) (.exit 0) (fun x => zy0 = .inl x.1) (fun x => match x with | ((v_0e, v1_0e), ()) => [(4, .int .i64 (wr (4 + (Int.tmod x4_1 7)))), (5, .int .i64 (wr (3 + (Int.tmod x5_1 6)))), (6, .pointer (some ⟨b6_7, 0, .none⟩)), (7, .bool x6_3b), (8, .bool v_0e), (9, .bool v1_0e)]) (fun x => match x with | ((v_0e, v1_0e), ()) => [Chunk.box b6_7 33 [.int .i64 x6_3a.Clock, .int .i64 x6_3a.W, .int .i64 x6_3a.HFront, .int .i64 x6_3a.HSync, .int .i64 x6_3a.HBack, .int .i64 x6_3a.H, .int .i64 x6_3a.VFront, .int .i64 x6_3a.VSync, .int .i64 x6_3a.VBack]]) ?_ ?_
  ·
   rintro ⟨⟨v_0e, v1_0e⟩, ⟨⟩⟩ hx
   replace hx : .inl (v_0e, v1_0e) = zy0 := hx.symm
   subst hx
   replace h := fork_l h
   show En _ _ _ _ [(4, .int .i64 (wr (4 + (Int.tmod x4_1 7)))), (5, .int .i64 (wr (3 + (Int.tmod x5_1 6)))), (6, .pointer (some ⟨b6_7, 0, .none⟩)), (7, .bool x6_3b), (8, .bool v_0e), (9, .bool v1_0e)] [Chunk.box b6_7 33 [.int .i64 x6_3a.Clock, .int .i64 x6_3a.W, .int .i64 x6_3a.HFront, .int .i64 x6_3a.HSync, .int .i64 x6_3a.HBack, .int .i64 x6_3a.H, .int .i64 x6_3a.VFront, .int .i64 x6_3a.VSync, .int .i64 x6_3a.VBack]]
   refine En.block_exit (En.next (WC.seq (WC.region ?_)))
   refine sp (OpV.move rfl) ?_
   refine sp (OpV.move rfl) ?_
   refine Lt.ofWL.and 101 103 102 (p := ?pz1) (rest := ?qz1) (B := ?Bz1) rfl ?Tz1 ?Fz1 ?az1 ?bz1 ?cz1 ?dz1 ?ez1
   case Tz1 =>
    intro hcz1 hkz1
    refine sp (OpV.move rfl) ?_
    refine hkz1 _ ?_ ?_
    exact rfl
    repeat (first | exact Sub.refl _ | refine Sub.skip rfl ?_)
   case Fz1 =>
    intro hcz1 hkz1
    refine sk ?_
    refine hkz1 _ ?_
    repeat (first | exact Sub.refl _ | refine Sub.skip rfl ?_)
   case az1 => exact rfl
   case bz1 => exact rfl
   case cz1 => exact rfl
   case dz1 => exact rfl
   refine sp (OpV.move rfl) ?_
   refine Lt.ofWL.and 104 117 116 (p := ?pz2) (rest := ?qz2) (B := ?Bz2) rfl ?Tz2 ?Fz2 ?az2 ?bz2 ?cz2 ?dz2 ?ez2
   case Tz2 =>
    intro hcz2 hkz2
    refine sp (OpV.move rfl) ?_
    refine sp (OpV.fieldAddr rfl fo_33_1) ?_
    refine sp (OpV.loadBox rfl pt_3 (.head _) rfl) ?_
    refine sp (OpV.move rfl) ?_
    refine sp (OpV.eql rfl rfl) ?_
    refine sp (OpV.move rfl) ?_
    refine Lt.ofWL.and 110 115 114 (p := ?pz3) (rest := ?qz3) (B := ?Bz3) rfl ?Tz3 ?Fz3 ?az3 ?bz3 ?cz3 ?dz3 ?ez3
    case Tz3 =>
     intro hcz3 hkz3
     refine sp (OpV.fieldAddr rfl fo_33_5) ?_
     refine sp (OpV.loadBox rfl pt_3 (.head _) rfl) ?_
     refine sp (OpV.move rfl) ?_
     refine sp (OpV.eql rfl rfl) ?_
     refine hkz3 _ ?_ ?_
     exact rfl
     repeat (first | exact Sub.refl _ | refine Sub.skip rfl ?_)
    case Fz3 =>
     intro hcz3 hkz3
     refine sk ?_
     refine sk ?_
     refine sk ?_
     refine sk ?_
     refine hkz3 _ ?_
     repeat (first | exact Sub.refl _ | refine Sub.skip rfl ?_)
    case az3 => exact rfl
    case bz3 => exact rfl
    case cz3 => exact rfl
    case dz3 => exact rfl
    refine sp (OpV.beql rfl rfl ub_4) ?_
    refine hkz2 _ ?_ ?_
    exact rfl
    repeat (first | exact Sub.refl _ | refine Sub.skip rfl ?_)
   case Fz2 =>
    intro hcz2 hkz2
    refine sk ?_
    refine sk ?_
    refine sk ?_
    refine sk ?_
    refine sk ?_
    refine sk ?_
    refine sk ?_
    refine sk ?_
    refine sk ?_
    refine sk ?_
    refine sk ?_
    refine sk ?_
    refine hkz2 _ ?_
    repeat (first | exact Sub.refl _ | refine Sub.skip rfl ?_)
   case az2 => exact rfl
   case bz2 => exact rfl
   case cz2 => exact rfl
   case dz2 => exact rfl
   refine sp (OpV.assign rfl) ?_
   refine WL.nil (En.next (WC.ret ?_))
   refine En.ret1 rfl (Res.tmp rfl) ?_
   obtain rfl := Option.some.inj h
   intro w' hs
   exact ⟨rfl, hs.below⟩
  ·
   intro zK0_0
   refine WC.loopP (G := Unit) (fun s g => match s, g with | (v_0, v1_0, v2_0), () => [(3, .pointer (some ⟨b3_2, 0, .none⟩)), (4, .int .i64 (wr (4 + (Int.tmod x4_1 7)))), (5, .int .i64 (wr (3 + (Int.tmod x5_1 6)))), (6, .pointer (some ⟨b6_7, 0, .none⟩)), (7, .bool x6_3b), (8, .bool v_0), (9, .bool v1_0), (10, .int .i64 v2_0)]) (fun s g => match s, g with | (v_0, v1_0, v2_0), () => [Chunk.box b3_2 47 [.string x3_1.Name, .slice a3_100 n3_100 c3_100, .int .i64 x3_1.Stretch], Chunk.own tMode f3_100 a3_100 n3_100 c3_100 x3_1.Modes, Chunk.box b6_7 33 [.int .i64 x6_3a.Clock, .int .i64 x6_3a.W, .int .i64 x6_3a.HFront, .int .i64 x6_3a.HSync, .int .i64 x6_3a.HBack, .int .i64 x6_3a.H, .int .i64 x6_3a.VFront, .int .i64 x6_3a.VSync, .int .i64 x6_3a.VBack]]) (false, false, 0) () ezy0 (by exact Sub.cons rfl (Sub.cons rfl (Sub.cons rfl (Sub.cons rfl (Sub.cons rfl (Sub.cons rfl (Sub.cons rfl (Sub.cons rfl (Sub.nil _))))))))) (by exact (fun _ h => ((h).perm (List.perm_middle (l₁ := [_, _]))).perm (List.perm_middle (l₁ := [_, _])))) ?_
   rintro zm0 ⟨v_0, v1_0, v2_0⟩ ⟨⟩ zo0 zf0 zb0 ze0
   have zh0 : laws_FnChosen_L0 x3_1 x4_1 x5_1 x6_3a v_0 v1_0 v2_0 = some zo0 := zf0
   unfold laws_FnChosen_L0 at zh0
   show WC _ _ _ _ _ [(3, .pointer (some ⟨b3_2, 0, .none⟩)), (4, .int .i64 (wr (4 + (Int.tmod x4_1 7)))), (5, .int .i64 (wr (3 + (Int.tmod x5_1 6)))), (6, .pointer (some ⟨b6_7, 0, .none⟩)), (7, .bool x6_3b), (8, .bool v_0), (9, .bool v1_0), (10, .int .i64 v2_0)] [Chunk.box b3_2 47 [.string x3_1.Name, .slice a3_100 n3_100 c3_100, .int .i64 x3_1.Stretch], Chunk.own tMode f3_100 a3_100 n3_100 c3_100 x3_1.Modes, Chunk.box b6_7 33 [.int .i64 x6_3a.Clock, .int .i64 x6_3a.W, .int .i64 x6_3a.HFront, .int .i64 x6_3a.HSync, .int .i64 x6_3a.HBack, .int .i64 x6_3a.H, .int .i64 x6_3a.VFront, .int .i64 x6_3a.VSync, .int .i64 x6_3a.VBack]]
   refine WC.seq (WC.seq (WC.region ?_))
   refine sp (OpV.move rfl) ?_
   refine sp (OpV.fieldAddr rfl fo_47_1) ?_
   refine sp (OpV.loadBox rfl pt_45 (.head _) rfl) ?_
   refine sp (OpV.inhF fun hin => OpV.lenO (xs := x3_1.Modes) rfl si_45 rfl (ownLen hin (.tail _ (.head _)))) ?_
   refine sp (OpV.lss rfl rfl) ?_
   refine WL.nil (En.next ?_)
   refine WC.cond rfl ?_ ?_
   ·
    intro hc_2
    replace zh0 := ifO_t hc_2 zh0
    refine WC.skip (En.next (WC.seq (WC.block (WC.seq ?_))))
    refine WC.inh fun hin12 => ?_
    obtain ⟨q12_9, e12_9, zh0⟩ := bnd zh0
    refine WC.drawn [(3, ?r12v3), (4, ?r12v4), (5, ?r12v5), (6, ?r12v6), (7, ?r12v7), (8, ?r12v8), (9, ?r12v9), (10, ?r12v10)] (by kernel_rfl) (by kernel_rfl) ?dH12 ?dK12
    case dH12 =>
     intro W hW hk
     refine hW.step rfl rfl rfl (OpV.move rfl) ?_
     refine hW.step rfl rfl rfl (OpV.move rfl) ?_
     refine hW.orQ 38 46 45 (p := ?pz4) (rest := ?qz4) (B := q12_9) rfl (fun hz => orO_t e12_9 hz) ?Tz4 ?Fz4 ?az4 ?bz4 ?cz4 ?dz4 ?ez4
     case Tz4 =>
      intro hcz4 hkz4
      refine hW.skip rfl rfl rfl ?_
      refine hW.skip rfl rfl rfl ?_
      refine hW.skip rfl rfl rfl ?_
      refine hW.skip rfl rfl rfl ?_
      refine hW.skip rfl rfl rfl ?_
      refine hW.skip rfl rfl rfl ?_
      refine hW.skip rfl rfl rfl ?_
      refine hkz4 _ ?_
      repeat (first | exact Sub.refl _ | refine Sub.skip rfl ?_)
     case Fz4 =>
      intro hcz4 hkz4
      have hqz4 := orO_f e12_9 hcz4
      obtain ⟨x12_5, e12_5, hqz4⟩ := bnd hqz4
      obtain ⟨g12_5, o12_5, ha12_5⟩ := ownAddr hin12 (.tail _ (.head _)) e12_5
      have hn12_5 := ownLen hin12 (.tail _ (.head _))
      obtain rfl := Option.some.inj hqz4
      refine hW.step rfl rfl rfl (OpV.fieldAddr rfl fo_47_1) ?_
      refine hW.step rfl rfl rfl (OpV.loadBox rfl pt_45 (.head _) rfl) ?_
      refine hW.step rfl rfl rfl (OpV.move rfl) ?_
      refine hW.step rfl rfl rfl (OpV.idxA rfl rfl se_45 ha12_5 ⟨(idx_some e12_5).1, by rw [hn12_5]; exact (idx_some e12_5).2.1⟩) ?_
      refine hW.step rfl rfl rfl (OpV.loadN rfl ag_33 rfl (fun w hs => Rd.all tMode_flat (Ow.rd (hs.mem (.tail _ (.head _)))) e12_5 ha12_5)) ?_
      refine hW.step rfl rfl rfl (OpV.loadAll rfl (.tail _ (.tail _ (.head _))) ag_33) ?_
      refine hW.step rfl rfl rfl (OpV.aeql rfl rfl eg_33 (fun w => aeq_33 w)) ?_
      refine hkz4 _ ?_ ?_
      exact rfl
      repeat (first | exact Sub.refl _ | refine Sub.skip rfl ?_)
     case az4 => exact rfl
     case bz4 => exact rfl
     case cz4 => exact rfl
     case dz4 => exact rfl
     refine hW.step rfl rfl rfl (OpV.assign rfl) ?_
     refine hk _ ?_
     refine Sub.cons ?_ (Sub.cons ?_ (Sub.cons ?_ (Sub.cons ?_ (Sub.cons ?_ (Sub.cons ?_ (Sub.cons ?_ (Sub.cons ?_ (Sub.nil _))))))))
     all_goals exact rfl
    refine En.next (WC.seq ?_)
    refine WC.inh fun hin13 => ?_
    obtain ⟨q13_20, e13_20, zh0⟩ := bnd zh0
    refine WC.region ?_
    refine sp (OpV.move rfl) ?_
    refine sp (OpV.move rfl) ?_
    refine Lt.ofWL.orQ 48 67 66 (p := ?pz5) (rest := ?qz5) (B := q13_20) rfl (fun hz => orO_t e13_20 hz) ?Tz5 ?Fz5 ?az5 ?bz5 ?cz5 ?dz5 ?ez5
    case Tz5 =>
     intro hcz5 hkz5
     refine sk ?_
     refine sk ?_
     refine sk ?_
     refine sk ?_
     refine sk ?_
     refine sk ?_
     refine sk ?_
     refine sk ?_
     refine sk ?_
     refine sk ?_
     refine sk ?_
     refine sk ?_
     refine sk ?_
     refine sk ?_
     refine sk ?_
     refine sk ?_
     refine sk ?_
     refine sk ?_
     refine hkz5 _ ?_
     repeat (first | exact Sub.refl _ | refine Sub.skip rfl ?_)
    case Fz5 =>
     intro hcz5 hkz5
     have hqz5 := orO_f e13_20 hcz5
     obtain ⟨x13_5, e13_5, hqz5⟩ := bnd hqz5
     obtain ⟨g13_5, o13_5, ha13_5⟩ := ownAddr hin13 (.tail _ (.head _)) e13_5
     have hn13_5 := ownLen hin13 (.tail _ (.head _))
     obtain ⟨q13_19, e13_19, hqz5⟩ := bnd hqz5
     obtain rfl := Option.some.inj hqz5
     refine sp (OpV.fieldAddr rfl fo_47_1) ?_
     refine sp (OpV.loadBox rfl pt_45 (.head _) rfl) ?_
     refine sp (OpV.move rfl) ?_
     refine sp (OpV.idxA rfl rfl se_45 ha13_5 ⟨(idx_some e13_5).1, by rw [hn13_5]; exact (idx_some e13_5).2.1⟩) ?_
     refine sp (OpV.fieldAddr rfl fo_33_1) ?_
     refine sp (OpV.load1 rfl pt_3 (fun w hs => Rd.cellJ (j := 1) tMode_flat (Ow.rd (hs.mem (.tail _ (.head _)))) e13_5 ha13_5 rfl)) ?_
     refine sp (OpV.move rfl) ?_
     refine sp (OpV.eql rfl rfl) ?_
     refine sp (OpV.move rfl) ?_
     refine Lt.ofWL.andQ 57 66 65 (p := ?pz6) (rest := ?qz6) (B := q13_19) rfl (fun hz => andO_f e13_19 hz) ?Tz6 ?Fz6 ?az6 ?bz6 ?cz6 ?dz6 ?ez6
     case Tz6 =>
      intro hcz6 hkz6
      have hqz6 := andO_t e13_19 hcz6
      obtain ⟨x13_14, e13_14, hqz6⟩ := bnd hqz6
      obtain ⟨g13_14, o13_14, ha13_14⟩ := ownAddr hin13 (.tail _ (.head _)) e13_14
      have hn13_14 := ownLen hin13 (.tail _ (.head _))
      obtain rfl := Option.some.inj hqz6
      refine sp (OpV.fieldAddr rfl fo_47_1) ?_
      refine sp (OpV.loadBox rfl pt_45 (.head _) rfl) ?_
      refine sp (OpV.move rfl) ?_
      refine sp (OpV.idxA rfl rfl se_45 ha13_14 ⟨(idx_some e13_14).1, by rw [hn13_14]; exact (idx_some e13_14).2.1⟩) ?_
      refine sp (OpV.fieldAddr rfl fo_33_5) ?_
      refine sp (OpV.load1 rfl pt_3 (fun w hs => Rd.cellJ (j := 5) tMode_flat (Ow.rd (hs.mem (.tail _ (.head _)))) e13_14 ha13_14 rfl)) ?_
      refine sp (OpV.move rfl) ?_
      refine sp (OpV.eql rfl rfl) ?_
      refine hkz6 _ ?_ ?_
      exact rfl
      repeat (first | exact Sub.refl _ | refine Sub.skip rfl ?_)
     case Fz6 =>
      intro hcz6 hkz6
      refine sk ?_
      refine sk ?_
      refine sk ?_
      refine sk ?_
      refine sk ?_
      refine sk ?_
      refine sk ?_
      refine sk ?_
      refine hkz6 _ ?_
      repeat (first | exact Sub.refl _ | refine Sub.skip rfl ?_)
     case az6 => exact rfl
     case bz6 => exact rfl
     case cz6 => exact rfl
     case dz6 => exact rfl
     refine hkz5 _ ?_ ?_
     exact rfl
     repeat (first | exact Sub.refl _ | refine Sub.skip rfl ?_)
    case az5 => exact rfl
    case bz5 => exact rfl
    case cz5 => exact rfl
    case dz5 => exact rfl
    refine sp (OpV.assign rfl) ?_
    refine WL.nil (En.next (WC.seq ?_))
    refine WC.inh fun hin14 => ?_
    obtain ⟨x14_3, e14_3, zh0⟩ := bnd zh0
    obtain ⟨g14_3, o14_3, ha14_3⟩ := ownAddr hin14 (.tail _ (.head _)) e14_3
    have hn14_3 := ownLen hin14 (.tail _ (.head _))
    obtain ⟨x14_9, e14_9, zh0⟩ := bnd zh0
    obtain ⟨g14_9, o14_9, ha14_9⟩ := ownAddr hin14 (.tail _ (.head _)) e14_9
    have hn14_9 := ownLen hin14 (.tail _ (.head _))
    refine WC.drawn [(3, ?r14v3), (4, ?r14v4), (5, ?r14v5), (6, ?r14v6), (7, ?r14v7), (8, ?r14v8), (9, ?r14v9), (10, ?r14v10), (99, ?r14v99)] (by kernel_rfl) (by kernel_rfl) ?dH14 ?dK14
    case dH14 =>
     intro W hW hk
     refine hW.step rfl rfl rfl (OpV.fieldAddr rfl fo_47_1) ?_
     refine hW.step rfl rfl rfl (OpV.loadBox rfl pt_45 (.head _) rfl) ?_
     refine hW.step rfl rfl rfl (OpV.move rfl) ?_
     refine hW.step rfl rfl rfl (OpV.idxA rfl rfl se_45 ha14_3 ⟨(idx_some e14_3).1, by rw [hn14_3]; exact (idx_some e14_3).2.1⟩) ?_
     refine hW.step rfl rfl rfl (OpV.fieldAddr rfl fo_33_1) ?_
     refine hW.step rfl rfl rfl (OpV.load1 rfl pt_3 (fun w hs => Rd.cellJ (j := 1) tMode_flat (Ow.rd (hs.mem (.tail _ (.head _)))) e14_3 ha14_3 rfl)) ?_
     refine hW.step rfl rfl rfl (OpV.fieldAddr rfl fo_47_1) ?_
     refine hW.step rfl rfl rfl (OpV.loadBox rfl pt_45 (.head _) rfl) ?_
     refine hW.step rfl rfl rfl (OpV.move rfl) ?_
     refine hW.step rfl rfl rfl (OpV.idxA rfl rfl se_45 ha14_9 ⟨(idx_some e14_9).1, by rw [hn14_9]; exact (idx_some e14_9).2.1⟩) ?_
     refine hW.step rfl rfl rfl (OpV.fieldAddr rfl fo_33_5) ?_
     refine hW.step rfl rfl rfl (OpV.load1 rfl pt_3 (fun w hs => Rd.cellJ (j := 5) tMode_flat (Ow.rd (hs.mem (.tail _ (.head _)))) e14_9 ha14_9 rfl)) ?_
     refine hW.step rfl rfl rfl (OpV.mulR rfl rfl) ?_
     refine hW.step rfl rfl rfl (OpV.fieldAddr rfl fo_33_1) ?_
     refine hW.step rfl rfl rfl (OpV.loadBox rfl pt_3 (.tail _ (.tail _ (.head _))) rfl) ?_
     refine hW.step rfl rfl rfl (OpV.fieldAddr rfl fo_33_5) ?_
     refine hW.step rfl rfl rfl (OpV.loadBox rfl pt_3 (.tail _ (.tail _ (.head _))) rfl) ?_
     refine hW.step rfl rfl rfl (OpV.mulR rfl rfl) ?_
     refine hW.step rfl rfl rfl (OpV.gtr rfl rfl) ?_
     refine hW.step rfl rfl rfl (OpV.move rfl) ?_
     refine hW.and 87 99 98 (p := ?pz7) (rest := ?qz7) (B := ?Bz7) rfl ?Tz7 ?Fz7 ?az7 ?bz7 ?cz7 ?dz7 ?ez7
     case Tz7 =>
      intro hcz7 hkz7
      refine hW.step rfl rfl rfl (OpV.fieldAddr rfl fo_33_1) ?_
      refine hW.step rfl rfl rfl (OpV.loadBox rfl pt_3 (.tail _ (.tail _ (.head _))) rfl) ?_
      refine hW.step rfl rfl rfl (OpV.move rfl) ?_
      refine hW.step rfl rfl rfl (OpV.eql rfl rfl) ?_
      refine hW.step rfl rfl rfl (OpV.move rfl) ?_
      refine hW.and 92 97 96 (p := ?pz8) (rest := ?qz8) (B := ?Bz8) rfl ?Tz8 ?Fz8 ?az8 ?bz8 ?cz8 ?dz8 ?ez8
      case Tz8 =>
       intro hcz8 hkz8
       refine hW.step rfl rfl rfl (OpV.fieldAddr rfl fo_33_5) ?_
       refine hW.step rfl rfl rfl (OpV.loadBox rfl pt_3 (.tail _ (.tail _ (.head _))) rfl) ?_
       refine hW.step rfl rfl rfl (OpV.move rfl) ?_
       refine hW.step rfl rfl rfl (OpV.eql rfl rfl) ?_
       refine hkz8 _ ?_ ?_
       exact rfl
       repeat (first | exact Sub.refl _ | refine Sub.skip rfl ?_)
      case Fz8 =>
       intro hcz8 hkz8
       refine hW.skip rfl rfl rfl ?_
       refine hW.skip rfl rfl rfl ?_
       refine hW.skip rfl rfl rfl ?_
       refine hW.skip rfl rfl rfl ?_
       refine hkz8 _ ?_
       repeat (first | exact Sub.refl _ | refine Sub.skip rfl ?_)
      case az8 => exact rfl
      case bz8 => exact rfl
      case cz8 => exact rfl
      case dz8 => exact rfl
      refine hW.step rfl rfl rfl (OpV.not rfl) ?_
      refine hkz7 _ ?_ ?_
      exact rfl
      repeat (first | exact Sub.refl _ | refine Sub.skip rfl ?_)
     case Fz7 =>
      intro hcz7 hkz7
      refine hW.skip rfl rfl rfl ?_
      refine hW.skip rfl rfl rfl ?_
      refine hW.skip rfl rfl rfl ?_
      refine hW.skip rfl rfl rfl ?_
      refine hW.skip rfl rfl rfl ?_
      refine hW.skip rfl rfl rfl ?_
      refine hW.skip rfl rfl rfl ?_
      refine hW.skip rfl rfl rfl ?_
      refine hW.skip rfl rfl rfl ?_
      refine hW.skip rfl rfl rfl ?_
      refine hW.skip rfl rfl rfl ?_
      refine hkz7 _ ?_
      repeat (first | exact Sub.refl _ | refine Sub.skip rfl ?_)
     case az7 => exact rfl
     case bz7 => exact rfl
     case cz7 => exact rfl
     case dz7 => exact rfl
     refine hk _ ?_
     refine Sub.cons ?_ (Sub.cons ?_ (Sub.cons ?_ (Sub.cons ?_ (Sub.cons ?_ (Sub.cons ?_ (Sub.cons ?_ (Sub.cons ?_ (Sub.cons ?_ (Sub.nil _)))))))))
     all_goals exact rfl
    refine En.next ?_
    refine WC.cond rfl ?_ ?_
    ·
     intro hc_3
     replace zh0 := ifO_t hc_3 zh0
     refine WC.seq (WC.region ?_)
     refine sp (OpV.assign rfl) ?_
     refine WL.nil (En.next (WC.ret (En.block_ret (En.then_ret (En.then_ret (En.block_ret (En.then_ret ?_)))))))
     refine En.ret1 rfl (Res.tmp rfl) ?_
     have hx := exitP ze0 zh0
     subst hx
     replace h := fork_r h
     obtain rfl := Option.some.inj h
     intro w' hs
     exact ⟨rfl, hs.below⟩
    ·
     intro hc_3
     replace zh0 := ifO_f hc_3 zh0
     refine WC.skip (En.block_norm (En.next (WC.region ?_)))
     refine sp (OpV.move rfl) ?_
     refine sp (OpV.addR rfl rfl) ?_
     refine sp (OpV.assign rfl) ?_
     refine WL.nil ?_
     exact En.backP zb0 zh0 () (Sub.cons rfl (Sub.cons rfl (Sub.cons rfl (Sub.cons rfl (Sub.cons rfl (Sub.cons rfl (Sub.cons rfl (Sub.cons rfl (Sub.nil _))))))))) (fun _ h => h)
   ·
    intro hc_2
    replace zh0 := ifO_f hc_2 zh0
    refine WC.exit (En.then_exit (En.then_exit ?_))
    have hx := exitP ze0 zh0
    exact En.wk _ _ (Sub.cons rfl (Sub.cons rfl (Sub.cons rfl (Sub.cons rfl (Sub.cons rfl (Sub.cons rfl (Sub.nil _))))))) (fun _ h => ((h).perm (List.perm_middle (l₁ := [_, _]))).sub (.cons_cons _ (.cons _ (.cons _ (.slnil))))) (zK0_0 ((v_0, v1_0), ()) hx.symm)

theorem w_impl_isClock {n_p0 : Int} {r : Bool}  (h : impl_isClock n_p0 = some r) {w : World}    :
    Calls Try.prog 38 #[.int .i64 n_p0] w (fun en w' => en = .returned (.bool r) ∧ Ext w w') := by
 unfold impl_isClock at h
 refine enter (vs := [_]) Try.func38 rfl rfl rfl rfl ?_
 refine WC.seq (WC.region ?_)
 refine sp (OpV.assign rfl) ?_
 refine WL.nil (En.next (WC.seq ?_))
 obtain ⟨x1_1, e1_1, h⟩ := bnd h
 refine WC.region ?_
 refine sp (OpV.move rfl) ?_
 refine sp (OpV.call (evs.cons rfl (evs.cons rfl (evs.cons rfl (evs.nil)))) ca_39 (fun w hs => w_impl_within e1_1)) ?_
 refine sp (OpV.assign rfl) ?_
 refine WL.nil (En.next (WC.ret ?_))
 refine En.ret1 rfl (Res.tmp rfl) ?_
 obtain rfl := Option.some.inj h
 intro w' hs
 exact ⟨rfl, hs.below⟩

theorem w_impl_DividerOk {a_p0 : DividerT} {a_p1 : Int} {a_p2 : Int} {a_p3 : Int} {r : Bool}  (h : impl_DividerOk a_p0 a_p1 a_p2 a_p3 = some r) {w : World}    :
    Calls Try.prog 13 #[.agg #[.int .i64 a_p0.N, .int .i64 a_p0.M, .int .i64 a_p0.P], .int .i64 a_p1, .int .i64 a_p2, .int .i64 a_p3] w (fun en w' => en = .returned (.bool r) ∧ Ext w w') := by
 unfold impl_DividerOk at h
 refine enter (vs := [_, _, _, _]) Try.func13 rfl rfl rfl rfl ?_
 refine WC.seq (WC.region ?_)
 refine WL.heavy rfl rfl rfl (OpH.box rfl rfl ?_)
 intro b0_0
 refine sp (OpV.assign rfl) ?_
 refine WL.nil (En.next (WC.seq ?_))
 obtain ⟨x1_2, e1_2, h⟩ := bnd h
 obtain ⟨q1_7, e1_7, h⟩ := bnd h
 obtain ⟨q1_31, e1_31, h⟩ := bnd h
 obtain ⟨q1_35, e1_35, h⟩ := bnd h
 obtain ⟨q1_39, e1_39, h⟩ := bnd h
 refine WC.region ?_
 refine sp (OpV.fieldAddr rfl fo_26_0) ?_
 refine sp (OpV.loadBox rfl pt_3 (.head _) rfl) ?_
 refine sp (OpV.call (evs.cons rfl (evs.cons rfl (evs.cons rfl (evs.nil)))) ca_39 (fun w hs => w_impl_within e1_2)) ?_
 refine sp (OpV.move rfl) ?_
 refine Lt.ofWL.andQ 12 16 15 (p := ?pz1) (rest := ?qz1) (B := q1_7) rfl (fun hz => andO_f e1_7 hz) ?Tz1 ?Fz1 ?az1 ?bz1 ?cz1 ?dz1 ?ez1
 case Tz1 =>
  intro hcz1 hkz1
  have hqz1 := andO_t e1_7 hcz1
  obtain ⟨x1_6, e1_6, hqz1⟩ := bnd hqz1
  obtain rfl := Option.some.inj hqz1
  refine sp (OpV.fieldAddr rfl fo_26_1) ?_
  refine sp (OpV.loadBox rfl pt_3 (.head _) rfl) ?_
  refine sp (OpV.call (evs.cons rfl (evs.cons rfl (evs.cons rfl (evs.nil)))) ca_39 (fun w hs => w_impl_within e1_6)) ?_
  refine hkz1 _ ?_ ?_
  exact rfl
  repeat (first | exact Sub.refl _ | refine Sub.skip rfl ?_)
 case Fz1 =>
  intro hcz1 hkz1
  refine sk ?_
  refine sk ?_
  refine sk ?_
  refine hkz1 _ ?_
  repeat (first | exact Sub.refl _ | refine Sub.skip rfl ?_)
 case az1 => exact rfl
 case bz1 => exact rfl
 case cz1 => exact rfl
 case dz1 => exact rfl
 refine sp (OpV.move rfl) ?_
 refine Lt.ofWL.and 17 36 35 (p := ?pz2) (rest := ?qz2) (B := ?Bz2) rfl ?Tz2 ?Fz2 ?az2 ?bz2 ?cz2 ?dz2 ?ez2
 case Tz2 =>
  intro hcz2 hkz2
  refine sp (OpV.fieldAddr rfl fo_26_2) ?_
  refine sp (OpV.loadBox rfl pt_3 (.head _) rfl) ?_
  refine sp (OpV.eql rfl rfl) ?_
  refine sp (OpV.move rfl) ?_
  refine Lt.ofWL.or 21 25 24 (p := ?pz3) (rest := ?qz3) (B := ?Bz3) rfl ?Tz3 ?Fz3 ?az3 ?bz3 ?cz3 ?dz3 ?ez3
  case Tz3 =>
   intro hcz3 hkz3
   refine sk ?_
   refine sk ?_
   refine sk ?_
   refine hkz3 _ ?_
   repeat (first | exact Sub.refl _ | refine Sub.skip rfl ?_)
  case Fz3 =>
   intro hcz3 hkz3
   refine sp (OpV.fieldAddr rfl fo_26_2) ?_
   refine sp (OpV.loadBox rfl pt_3 (.head _) rfl) ?_
   refine sp (OpV.eql rfl rfl) ?_
   refine hkz3 _ ?_ ?_
   exact rfl
   repeat (first | exact Sub.refl _ | refine Sub.skip rfl ?_)
  case az3 => exact rfl
  case bz3 => exact rfl
  case cz3 => exact rfl
  case dz3 => exact rfl
  refine sp (OpV.move rfl) ?_
  refine Lt.ofWL.or 26 30 29 (p := ?pz4) (rest := ?qz4) (B := ?Bz4) rfl ?Tz4 ?Fz4 ?az4 ?bz4 ?cz4 ?dz4 ?ez4
  case Tz4 =>
   intro hcz4 hkz4
   refine sk ?_
   refine sk ?_
   refine sk ?_
   refine hkz4 _ ?_
   repeat (first | exact Sub.refl _ | refine Sub.skip rfl ?_)
  case Fz4 =>
   intro hcz4 hkz4
   refine sp (OpV.fieldAddr rfl fo_26_2) ?_
   refine sp (OpV.loadBox rfl pt_3 (.head _) rfl) ?_
   refine sp (OpV.eql rfl rfl) ?_
   refine hkz4 _ ?_ ?_
   exact rfl
   repeat (first | exact Sub.refl _ | refine Sub.skip rfl ?_)
  case az4 => exact rfl
  case bz4 => exact rfl
  case cz4 => exact rfl
  case dz4 => exact rfl
  refine sp (OpV.move rfl) ?_
  refine Lt.ofWL.or 31 35 34 (p := ?pz5) (rest := ?qz5) (B := ?Bz5) rfl ?Tz5 ?Fz5 ?az5 ?bz5 ?cz5 ?dz5 ?ez5
  case Tz5 =>
   intro hcz5 hkz5
   refine sk ?_
   refine sk ?_
   refine sk ?_
   refine hkz5 _ ?_
   repeat (first | exact Sub.refl _ | refine Sub.skip rfl ?_)
  case Fz5 =>
   intro hcz5 hkz5
   refine sp (OpV.fieldAddr rfl fo_26_2) ?_
   refine sp (OpV.loadBox rfl pt_3 (.head _) rfl) ?_
   refine sp (OpV.eql rfl rfl) ?_
   refine hkz5 _ ?_ ?_
   exact rfl
   repeat (first | exact Sub.refl _ | refine Sub.skip rfl ?_)
  case az5 => exact rfl
  case bz5 => exact rfl
  case cz5 => exact rfl
  case dz5 => exact rfl
  refine hkz2 _ ?_ ?_
  exact rfl
  repeat (first | exact Sub.refl _ | refine Sub.skip rfl ?_)
 case Fz2 =>
  intro hcz2 hkz2
  refine sk ?_
  refine sk ?_
  refine sk ?_
  refine sk ?_
  refine sk ?_
  refine sk ?_
  refine sk ?_
  refine sk ?_
  refine sk ?_
  refine sk ?_
  refine sk ?_
  refine sk ?_
  refine sk ?_
  refine sk ?_
  refine sk ?_
  refine sk ?_
  refine sk ?_
  refine sk ?_
  refine hkz2 _ ?_
  repeat (first | exact Sub.refl _ | refine Sub.skip rfl ?_)
 case az2 => exact rfl
 case bz2 => exact rfl
 case cz2 => exact rfl
 case dz2 => exact rfl
 refine sp (OpV.move rfl) ?_
 refine Lt.ofWL.andQ 37 40 39 (p := ?pz6) (rest := ?qz6) (B := q1_31) rfl (fun hz => andO_f e1_31 hz) ?Tz6 ?Fz6 ?az6 ?bz6 ?cz6 ?dz6 ?ez6
 case Tz6 =>
  intro hcz6 hkz6
  have hqz6 := andO_t e1_31 hcz6
  obtain ⟨x1_30, e1_30, hqz6⟩ := bnd hqz6
  obtain rfl := Option.some.inj hqz6
  refine sp (OpV.move rfl) ?_
  refine sp (OpV.call (evs.cons rfl (evs.nil)) ca_38 (fun w hs => w_impl_isClock e1_30)) ?_
  refine hkz6 _ ?_ ?_
  exact rfl
  repeat (first | exact Sub.refl _ | refine Sub.skip rfl ?_)
 case Fz6 =>
  intro hcz6 hkz6
  refine sk ?_
  refine sk ?_
  refine hkz6 _ ?_
  repeat (first | exact Sub.refl _ | refine Sub.skip rfl ?_)
 case az6 => exact rfl
 case bz6 => exact rfl
 case cz6 => exact rfl
 case dz6 => exact rfl
 refine sp (OpV.move rfl) ?_
 refine Lt.ofWL.andQ 41 44 43 (p := ?pz7) (rest := ?qz7) (B := q1_35) rfl (fun hz => andO_f e1_35 hz) ?Tz7 ?Fz7 ?az7 ?bz7 ?cz7 ?dz7 ?ez7
 case Tz7 =>
  intro hcz7 hkz7
  have hqz7 := andO_t e1_35 hcz7
  obtain ⟨x1_34, e1_34, hqz7⟩ := bnd hqz7
  obtain rfl := Option.some.inj hqz7
  refine sp (OpV.move rfl) ?_
  refine sp (OpV.call (evs.cons rfl (evs.nil)) ca_38 (fun w hs => w_impl_isClock e1_34)) ?_
  refine hkz7 _ ?_ ?_
  exact rfl
  repeat (first | exact Sub.refl _ | refine Sub.skip rfl ?_)
 case Fz7 =>
  intro hcz7 hkz7
  refine sk ?_
  refine sk ?_
  refine hkz7 _ ?_
  repeat (first | exact Sub.refl _ | refine Sub.skip rfl ?_)
 case az7 => exact rfl
 case bz7 => exact rfl
 case cz7 => exact rfl
 case dz7 => exact rfl
 refine sp (OpV.move rfl) ?_
 refine Lt.ofWL.andQ 45 48 47 (p := ?pz8) (rest := ?qz8) (B := q1_39) rfl (fun hz => andO_f e1_39 hz) ?Tz8 ?Fz8 ?az8 ?bz8 ?cz8 ?dz8 ?ez8
 case Tz8 =>
  intro hcz8 hkz8
  have hqz8 := andO_t e1_39 hcz8
  obtain ⟨x1_38, e1_38, hqz8⟩ := bnd hqz8
  obtain rfl := Option.some.inj hqz8
  refine sp (OpV.move rfl) ?_
  refine sp (OpV.call (evs.cons rfl (evs.nil)) ca_38 (fun w hs => w_impl_isClock e1_38)) ?_
  refine hkz8 _ ?_ ?_
  exact rfl
  repeat (first | exact Sub.refl _ | refine Sub.skip rfl ?_)
 case Fz8 =>
  intro hcz8 hkz8
  refine sk ?_
  refine sk ?_
  refine hkz8 _ ?_
  repeat (first | exact Sub.refl _ | refine Sub.skip rfl ?_)
 case az8 => exact rfl
 case bz8 => exact rfl
 case cz8 => exact rfl
 case dz8 => exact rfl
 refine sp (OpV.move rfl) ?_
 refine Lt.ofWL.and 49 59 58 (p := ?pz9) (rest := ?qz9) (B := ?Bz9) rfl ?Tz9 ?Fz9 ?az9 ?bz9 ?cz9 ?dz9 ?ez9
 case Tz9 =>
  intro hcz9 hkz9
  refine sp (OpV.move rfl) ?_
  refine sp (OpV.fieldAddr rfl fo_26_1) ?_
  refine sp (OpV.loadBox rfl pt_3 (.head _) rfl) ?_
  refine sp (OpV.mulR rfl rfl) ?_
  refine sp (OpV.move rfl) ?_
  refine sp (OpV.fieldAddr rfl fo_26_0) ?_
  refine sp (OpV.loadBox rfl pt_3 (.head _) rfl) ?_
  refine sp (OpV.mulR rfl rfl) ?_
  refine sp (OpV.leq rfl rfl) ?_
  refine hkz9 _ ?_ ?_
  exact rfl
  repeat (first | exact Sub.refl _ | refine Sub.skip rfl ?_)
 case Fz9 =>
  intro hcz9 hkz9
  refine sk ?_
  refine sk ?_
  refine sk ?_
  refine sk ?_
  refine sk ?_
  refine sk ?_
  refine sk ?_
  refine sk ?_
  refine sk ?_
  refine hkz9 _ ?_
  repeat (first | exact Sub.refl _ | refine Sub.skip rfl ?_)
 case az9 => exact rfl
 case bz9 => exact rfl
 case cz9 => exact rfl
 case dz9 => exact rfl
 refine sp (OpV.move rfl) ?_
 refine Lt.ofWL.and 60 70 69 (p := ?pz10) (rest := ?qz10) (B := ?Bz10) rfl ?Tz10 ?Fz10 ?az10 ?bz10 ?cz10 ?dz10 ?ez10
 case Tz10 =>
  intro hcz10 hkz10
  refine sp (OpV.move rfl) ?_
  refine sp (OpV.fieldAddr rfl fo_26_0) ?_
  refine sp (OpV.loadBox rfl pt_3 (.head _) rfl) ?_
  refine sp (OpV.mulR rfl rfl) ?_
  refine sp (OpV.move rfl) ?_
  refine sp (OpV.fieldAddr rfl fo_26_1) ?_
  refine sp (OpV.loadBox rfl pt_3 (.head _) rfl) ?_
  refine sp (OpV.mulR rfl rfl) ?_
  refine sp (OpV.leq rfl rfl) ?_
  refine hkz10 _ ?_ ?_
  exact rfl
  repeat (first | exact Sub.refl _ | refine Sub.skip rfl ?_)
 case Fz10 =>
  intro hcz10 hkz10
  refine sk ?_
  refine sk ?_
  refine sk ?_
  refine sk ?_
  refine sk ?_
  refine sk ?_
  refine sk ?_
  refine sk ?_
  refine sk ?_
  refine hkz10 _ ?_
  repeat (first | exact Sub.refl _ | refine Sub.skip rfl ?_)
 case az10 => exact rfl
 case bz10 => exact rfl
 case cz10 => exact rfl
 case dz10 => exact rfl
 refine sp (OpV.assign rfl) ?_
 refine WL.nil (En.next (WC.ret ?_))
 refine En.ret1 rfl (Res.tmp rfl) ?_
 obtain rfl := Option.some.inj h
 intro w' hs
 exact ⟨rfl, hs.below⟩

theorem w_impl_ErrorOf {d_p0 : DividerT} {reference_p1 : Int} {target_p2 : Int} {r : Int}  (h : impl_ErrorOf d_p0 reference_p1 target_p2 = some r) {w : World}    :
    Calls Try.prog 16 #[.agg #[.int .i64 d_p0.N, .int .i64 d_p0.M, .int .i64 d_p0.P], .int .i64 reference_p1, .int .i64 target_p2] w (fun en w' => en = .returned (.int .i64 r) ∧ Ext w w') := by
 unfold impl_ErrorOf at h
 refine enter (vs := [_, _, _]) Try.func16 rfl rfl rfl rfl ?_
 refine WC.seq (WC.region ?_)
 refine WL.heavy rfl rfl rfl (OpH.box rfl rfl ?_)
 intro b0_0
 refine sp (OpV.assign rfl) ?_
 refine WL.nil (En.next (WC.seq (WC.seq ?_)))
 obtain ⟨x1_2, e1_2, h⟩ := bnd h
 obtain ⟨q1_9, e1_9, h⟩ := bnd h
 obtain ⟨q1_15, e1_15, h⟩ := bnd h
 obtain ⟨q1_20, e1_20, h⟩ := bnd h
 obtain ⟨q1_25, e1_25, h⟩ := bnd h
 refine WC.region ?_
 refine sp (OpV.fieldAddr rfl fo_26_0) ?_
 refine sp (OpV.loadBox rfl pt_3 (.head _) rfl) ?_
 refine sp (OpV.call (evs.cons rfl (evs.cons rfl (evs.cons rfl (evs.nil)))) ca_39 (fun w hs => w_impl_within e1_2)) ?_
 refine sp (OpV.not rfl) ?_
 refine sp (OpV.move rfl) ?_
 refine Lt.ofWL.orQ 12 17 16 (p := ?pz1) (rest := ?qz1) (B := q1_9) rfl (fun hz => orO_t e1_9 hz) ?Tz1 ?Fz1 ?az1 ?bz1 ?cz1 ?dz1 ?ez1
 case Tz1 =>
  intro hcz1 hkz1
  refine sk ?_
  refine sk ?_
  refine sk ?_
  refine sk ?_
  refine hkz1 _ ?_
  repeat (first | exact Sub.refl _ | refine Sub.skip rfl ?_)
 case Fz1 =>
  intro hcz1 hkz1
  have hqz1 := orO_f e1_9 hcz1
  obtain ⟨x1_7, e1_7, hqz1⟩ := bnd hqz1
  obtain rfl := Option.some.inj hqz1
  refine sp (OpV.fieldAddr rfl fo_26_1) ?_
  refine sp (OpV.loadBox rfl pt_3 (.head _) rfl) ?_
  refine sp (OpV.call (evs.cons rfl (evs.cons rfl (evs.cons rfl (evs.nil)))) ca_39 (fun w hs => w_impl_within e1_7)) ?_
  refine sp (OpV.not rfl) ?_
  refine hkz1 _ ?_ ?_
  exact rfl
  repeat (first | exact Sub.refl _ | refine Sub.skip rfl ?_)
 case az1 => exact rfl
 case bz1 => exact rfl
 case cz1 => exact rfl
 case dz1 => exact rfl
 refine sp (OpV.move rfl) ?_
 refine Lt.ofWL.orQ 18 23 22 (p := ?pz2) (rest := ?qz2) (B := q1_15) rfl (fun hz => orO_t e1_15 hz) ?Tz2 ?Fz2 ?az2 ?bz2 ?cz2 ?dz2 ?ez2
 case Tz2 =>
  intro hcz2 hkz2
  refine sk ?_
  refine sk ?_
  refine sk ?_
  refine sk ?_
  refine hkz2 _ ?_
  repeat (first | exact Sub.refl _ | refine Sub.skip rfl ?_)
 case Fz2 =>
  intro hcz2 hkz2
  have hqz2 := orO_f e1_15 hcz2
  obtain ⟨x1_13, e1_13, hqz2⟩ := bnd hqz2
  obtain rfl := Option.some.inj hqz2
  refine sp (OpV.fieldAddr rfl fo_26_2) ?_
  refine sp (OpV.loadBox rfl pt_3 (.head _) rfl) ?_
  refine sp (OpV.call (evs.cons rfl (evs.cons rfl (evs.cons rfl (evs.nil)))) ca_39 (fun w hs => w_impl_within e1_13)) ?_
  refine sp (OpV.not rfl) ?_
  refine hkz2 _ ?_ ?_
  exact rfl
  repeat (first | exact Sub.refl _ | refine Sub.skip rfl ?_)
 case az2 => exact rfl
 case bz2 => exact rfl
 case cz2 => exact rfl
 case dz2 => exact rfl
 refine sp (OpV.move rfl) ?_
 refine Lt.ofWL.orQ 24 28 27 (p := ?pz3) (rest := ?qz3) (B := q1_20) rfl (fun hz => orO_t e1_20 hz) ?Tz3 ?Fz3 ?az3 ?bz3 ?cz3 ?dz3 ?ez3
 case Tz3 =>
  intro hcz3 hkz3
  refine sk ?_
  refine sk ?_
  refine sk ?_
  refine hkz3 _ ?_
  repeat (first | exact Sub.refl _ | refine Sub.skip rfl ?_)
 case Fz3 =>
  intro hcz3 hkz3
  have hqz3 := orO_f e1_20 hcz3
  obtain ⟨x1_18, e1_18, hqz3⟩ := bnd hqz3
  obtain rfl := Option.some.inj hqz3
  refine sp (OpV.move rfl) ?_
  refine sp (OpV.call (evs.cons rfl (evs.nil)) ca_38 (fun w hs => w_impl_isClock e1_18)) ?_
  refine sp (OpV.not rfl) ?_
  refine hkz3 _ ?_ ?_
  exact rfl
  repeat (first | exact Sub.refl _ | refine Sub.skip rfl ?_)
 case az3 => exact rfl
 case bz3 => exact rfl
 case cz3 => exact rfl
 case dz3 => exact rfl
 refine sp (OpV.move rfl) ?_
 refine Lt.ofWL.orQ 29 33 32 (p := ?pz4) (rest := ?qz4) (B := q1_25) rfl (fun hz => orO_t e1_25 hz) ?Tz4 ?Fz4 ?az4 ?bz4 ?cz4 ?dz4 ?ez4
 case Tz4 =>
  intro hcz4 hkz4
  refine sk ?_
  refine sk ?_
  refine sk ?_
  refine hkz4 _ ?_
  repeat (first | exact Sub.refl _ | refine Sub.skip rfl ?_)
 case Fz4 =>
  intro hcz4 hkz4
  have hqz4 := orO_f e1_25 hcz4
  obtain ⟨x1_23, e1_23, hqz4⟩ := bnd hqz4
  obtain rfl := Option.some.inj hqz4
  refine sp (OpV.move rfl) ?_
  refine sp (OpV.call (evs.cons rfl (evs.nil)) ca_38 (fun w hs => w_impl_isClock e1_23)) ?_
  refine sp (OpV.not rfl) ?_
  refine hkz4 _ ?_ ?_
  exact rfl
  repeat (first | exact Sub.refl _ | refine Sub.skip rfl ?_)
 case az4 => exact rfl
 case bz4 => exact rfl
 case cz4 => exact rfl
 case dz4 => exact rfl
 refine WL.nil (En.next ?_)
 refine WC.cond rfl ?_ ?_
 ·
  intro hc_1
  replace h := ifO_t hc_1 h
  refine WC.seq (WC.region ?_)
  refine sp (OpV.assign rfl) ?_
  refine WL.nil (En.next (WC.ret (En.then_ret ?_)))
  refine En.ret1 rfl (Res.tmp rfl) ?_
  obtain rfl := Option.some.inj h
  intro w' hs
  exact ⟨rfl, hs.below⟩
 ·
  intro hc_1
  replace h := ifO_f hc_1 h
  refine WC.skip (En.next (WC.seq (WC.region ?_)))
  refine sp (OpV.move rfl) ?_
  refine sp (OpV.fieldAddr rfl fo_26_0) ?_
  refine sp (OpV.loadBox rfl pt_3 (.head _) rfl) ?_
  refine sp (OpV.mulR rfl rfl) ?_
  refine sp (OpV.move rfl) ?_
  refine sp (OpV.fieldAddr rfl fo_26_1) ?_
  refine sp (OpV.loadBox rfl pt_3 (.head _) rfl) ?_
  refine sp (OpV.mulR rfl rfl) ?_
  refine sp (OpV.fieldAddr rfl fo_26_2) ?_
  refine sp (OpV.loadBox rfl pt_3 (.head _) rfl) ?_
  refine sp (OpV.mulR rfl rfl) ?_
  refine sp (OpV.subR rfl rfl) ?_
  refine sp (OpV.assign rfl) ?_
  refine WL.nil (En.next (WC.seq (WC.region ?_)))
  refine sp (OpV.move rfl) ?_
  refine sp (OpV.move rfl) ?_
  refine sp (OpV.negR rfl) ?_
  refine sp (OpV.max2 rfl rfl) ?_
  refine sp (OpV.assign rfl) ?_
  refine WL.nil (En.next (WC.ret ?_))
  refine En.ret1 rfl (Res.tmp rfl) ?_
  obtain rfl := Option.some.inj h
  intro w' hs
  exact ⟨rfl, hs.below⟩

theorem w_impl_Closer {a_p0 : DividerT} {b_p1 : DividerT} {reference_p2 : Int} {target_p3 : Int} {r : Bool}  (h : impl_Closer a_p0 b_p1 reference_p2 target_p3 = some r) {w : World}    :
    Calls Try.prog 14 #[.agg #[.int .i64 a_p0.N, .int .i64 a_p0.M, .int .i64 a_p0.P], .agg #[.int .i64 b_p1.N, .int .i64 b_p1.M, .int .i64 b_p1.P], .int .i64 reference_p2, .int .i64 target_p3] w (fun en w' => en = .returned (.bool r) ∧ Ext w w') := by
 unfold impl_Closer at h
 refine enter (vs := [_, _, _, _]) Try.func14 rfl rfl rfl rfl ?_
 refine WC.seq (WC.region ?_)
 refine WL.heavy rfl rfl rfl (OpH.box rfl rfl ?_)
 intro b0_0
 refine WL.heavy rfl rfl rfl (OpH.box rfl rfl ?_)
 intro b0_1
 refine sp (OpV.assign rfl) ?_
 refine WL.nil (En.next (WC.seq ?_))
 obtain ⟨x1_3, e1_3, h⟩ := bnd h
 obtain ⟨x1_7, e1_7, h⟩ := bnd h
 refine WC.drawn [(4, ?r1v4), (5, ?r1v5), (9, ?r1v9), (10, ?r1v10)] (by kernel_rfl) (by kernel_rfl) ?dH1 ?dK1
 case dH1 =>
  intro W hW hk
  refine hW.step rfl rfl rfl (OpV.loadAll rfl (.tail _ (.head _)) ag_26) ?_
  refine hW.step rfl rfl rfl (OpV.move rfl) ?_
  refine hW.step rfl rfl rfl (OpV.move rfl) ?_
  refine hW.step rfl rfl rfl (OpV.call (evs.cons rfl (evs.cons rfl (evs.cons rfl (evs.nil)))) ca_16 (fun w hs => w_impl_ErrorOf e1_3)) ?_
  refine hW.step rfl rfl rfl (OpV.loadAll rfl (.head _) ag_26) ?_
  refine hW.step rfl rfl rfl (OpV.move rfl) ?_
  refine hW.step rfl rfl rfl (OpV.move rfl) ?_
  refine hW.step rfl rfl rfl (OpV.call (evs.cons rfl (evs.cons rfl (evs.cons rfl (evs.nil)))) ca_16 (fun w hs => w_impl_ErrorOf e1_7)) ?_
  refine hW.step rfl rfl rfl (OpV.assign rfl) ?_
  refine hW.step rfl rfl rfl (OpV.assign rfl) ?_
  refine hk _ ?_
  refine Sub.cons ?_ (Sub.cons ?_ (Sub.cons ?_ (Sub.cons ?_ (Sub.nil _))))
  all_goals exact rfl
 refine En.next (WC.seq (WC.region ?_))
 refine sp (OpV.move rfl) ?_
 refine sp (OpV.geq rfl rfl) ?_
 refine sp (OpV.move rfl) ?_
 refine Lt.ofWL.and 21 24 23 (p := ?pz1) (rest := ?qz1) (B := ?Bz1) rfl ?Tz1 ?Fz1 ?az1 ?bz1 ?cz1 ?dz1 ?ez1
 case Tz1 =>
  intro hcz1 hkz1
  refine sp (OpV.move rfl) ?_
  refine sp (OpV.geq rfl rfl) ?_
  refine hkz1 _ ?_ ?_
  exact rfl
  repeat (first | exact Sub.refl _ | refine Sub.skip rfl ?_)
 case Fz1 =>
  intro hcz1 hkz1
  refine sk ?_
  refine sk ?_
  refine hkz1 _ ?_
  repeat (first | exact Sub.refl _ | refine Sub.skip rfl ?_)
 case az1 => exact rfl
 case bz1 => exact rfl
 case cz1 => exact rfl
 case dz1 => exact rfl
 refine sp (OpV.move rfl) ?_
 refine Lt.ofWL.and 25 41 40 (p := ?pz2) (rest := ?qz2) (B := ?Bz2) rfl ?Tz2 ?Fz2 ?az2 ?bz2 ?cz2 ?dz2 ?ez2
 case Tz2 =>
  intro hcz2 hkz2
  refine sp (OpV.move rfl) ?_
  refine sp (OpV.fieldAddr rfl fo_26_1) ?_
  refine sp (OpV.loadBox rfl pt_3 (.head _) rfl) ?_
  refine sp (OpV.mulR rfl rfl) ?_
  refine sp (OpV.fieldAddr rfl fo_26_2) ?_
  refine sp (OpV.loadBox rfl pt_3 (.head _) rfl) ?_
  refine sp (OpV.mulR rfl rfl) ?_
  refine sp (OpV.move rfl) ?_
  refine sp (OpV.fieldAddr rfl fo_26_1) ?_
  refine sp (OpV.loadBox rfl pt_3 (.tail _ (.head _)) rfl) ?_
  refine sp (OpV.mulR rfl rfl) ?_
  refine sp (OpV.fieldAddr rfl fo_26_2) ?_
  refine sp (OpV.loadBox rfl pt_3 (.tail _ (.head _)) rfl) ?_
  refine sp (OpV.mulR rfl rfl) ?_
  refine sp (OpV.lss rfl rfl) ?_
  refine hkz2 _ ?_ ?_
  exact rfl
  repeat (first | exact Sub.refl _ | refine Sub.skip rfl ?_)
 case Fz2 =>
  intro hcz2 hkz2
  refine sk ?_
  refine sk ?_
  refine sk ?_
  refine sk ?_
  refine sk ?_
  refine sk ?_
  refine sk ?_
  refine sk ?_
  refine sk ?_
  refine sk ?_
  refine sk ?_
  refine sk ?_
  refine sk ?_
  refine sk ?_
  refine sk ?_
  refine hkz2 _ ?_
  repeat (first | exact Sub.refl _ | refine Sub.skip rfl ?_)
 case az2 => exact rfl
 case bz2 => exact rfl
 case cz2 => exact rfl
 case dz2 => exact rfl
 refine sp (OpV.assign rfl) ?_
 refine WL.nil (En.next (WC.ret ?_))
 refine En.ret1 rfl (Res.tmp rfl) ?_
 obtain rfl := Option.some.inj h
 intro w' hs
 exact ⟨rfl, hs.below⟩

theorem w_impl_BestDivider {reference_p0 : Int} {target_p1 : Int} {low_p2 : Int} {high_p3 : Int} {r : DividerT × Bool}  (h : impl_BestDivider reference_p0 target_p1 low_p2 high_p3 = some r) {w : World}    :
    Calls Try.prog 12 #[.int .i64 reference_p0, .int .i64 target_p1, .int .i64 low_p2, .int .i64 high_p3] w (fun en w' => en = .returned (.tuple #[.agg #[.int .i64 r.1.N, .int .i64 r.1.M, .int .i64 r.1.P], .bool r.2]) ∧ Ext w w') := by
 unfold impl_BestDivider at h
 refine enter (vs := [_, _, _, _]) Try.func12 rfl rfl rfl rfl ?_
 refine WC.seq (WC.region ?_)
 refine WL.heavy rfl rfl rfl (OpH.alloc zc_26 ?_)
 intro b0_0
 refine sp (OpV.assign rfl) ?_
 refine WL.nil (En.next (WC.seq (WC.region ?_)))
 refine sp (OpV.build (evps.nil) bd_26_) ?_
 refine WL.heavy rfl rfl rfl (OpH.alloc zc_26 ?_)
 intro b1_1
 refine WL.heavy0 rfl rfl (OpH.storeTo (A := []) [_, _, _] rfl rfl rfl ts_26 rfl rfl rfl ?_)
 refine WL.nil (En.next (WC.seq (WC.region ?_)))
 refine sp (OpV.assign rfl) ?_
 refine WL.nil (En.next (WC.seq (WC.seq ?_)))
 obtain ⟨x3_1, e3_1, h⟩ := bnd h
 refine WC.region ?_
 refine sp (OpV.move rfl) ?_
 refine sp (OpV.call (evs.cons rfl (evs.nil)) ca_38 (fun w hs => w_impl_isClock e3_1)) ?_
 refine sp (OpV.not rfl) ?_
 refine WL.nil (En.next ?_)
 refine WC.cond rfl ?_ ?_
 ·
  intro hc_1
  replace h := ifO_t hc_1 h
  refine WC.seq (WC.region ?_)
  refine sp (OpV.loadAll rfl (.head _) ag_26) ?_
  refine WL.heavy0 rfl rfl (OpH.storeTo (A := [_]) [_, _, _] rfl rfl rfl ts_26 rfl rfl rfl ?_)
  refine sp (OpV.assign rfl) ?_
  refine WL.nil (En.next (WC.ret (En.then_ret ?_)))
  refine En.ret2 rfl (Res.cell rfl (.tail _ (.head _)) ag_26) (Res.tmp rfl) ?_
  obtain rfl := Option.some.inj h
  intro w' hs
  exact ⟨rfl, hs.below⟩
 ·
  intro hc_1
  replace h := ifO_f hc_1 h
  refine WC.skip (En.next (WC.seq (WC.seq (WC.region ?_))))
  refine sp (OpV.assign rfl) ?_
  refine WL.nil (En.next (WC.block ?_))
  obtain ⟨zy0, ezy0, h⟩ := bnd h
  refine WC.cut (X := (DividerT × Bool) × (Unit)) (.exit 0) (fun x => zy0 = x.1) (fun x => match x with | ((best_0e, found_0e), ()) => [(8, .pointer (some ⟨b0_0, 0, .none⟩)), (10, .pointer (some ⟨b1_1, 0, .none⟩)), (11, .bool found_0e)]) (fun x => match x with | ((best_0e, found_0e), ()) => [Chunk.box b0_0 26 [.int .i64 0, .int .i64 0, .int .i64 0], Chunk.box b1_1 26 [.int .i64 best_0e.N, .int .i64 best_0e.M, .int .i64 best_0e.P]]) ?_ ?_
  ·
   rintro ⟨⟨best_0e, found_0e⟩, ⟨⟩⟩ hx
   replace hx : (best_0e, found_0e) = zy0 := hx.symm
   subst hx
   show En _ _ _ _ [(8, .pointer (some ⟨b0_0, 0, .none⟩)), (10, .pointer (some ⟨b1_1, 0, .none⟩)), (11, .bool found_0e)] [Chunk.box b0_0 26 [.int .i64 0, .int .i64 0, .int .i64 0], Chunk.box b1_1 26 [.int .i64 best_0e.N, .int .i64 best_0e.M, .int .i64 best_0e.P]]
   refine En.block_exit (En.next (WC.seq (WC.region ?_)))
   refine sp (OpV.loadAll rfl (.tail _ (.head _)) ag_26) ?_
   refine sp (OpV.move rfl) ?_
   refine WL.heavy0 rfl rfl (OpH.storeTo (A := []) [_, _, _] rfl rfl rfl ts_26 rfl rfl rfl ?_)
   refine sp (OpV.assign rfl) ?_
   refine WL.nil (En.next (WC.ret ?_))
   refine En.ret2 rfl (Res.cell rfl (.head _) ag_26) (Res.tmp rfl) ?_
   obtain rfl := Option.some.inj h
   intro w' hs
   exact ⟨rfl, hs.below⟩
  ·
   intro zK0_0
   refine WC.loopP (G := Unit) (fun s g => match s, g with | (best_0, found_0, m_0), () => [(0, .int .i64 reference_p0), (1, .int .i64 target_p1), (2, .int .i64 low_p2), (3, .int .i64 high_p3), (8, .pointer (some ⟨b0_0, 0, .none⟩)), (10, .pointer (some ⟨b1_1, 0, .none⟩)), (11, .bool found_0), (12, .int .i64 m_0)]) (fun s g => match s, g with | (best_0, found_0, m_0), () => [Chunk.box b0_0 26 [.int .i64 0, .int .i64 0, .int .i64 0], Chunk.box b1_1 26 [.int .i64 best_0.N, .int .i64 best_0.M, .int .i64 best_0.P]]) ((DividerT.mk 0 0 0), false, 1) () ezy0 (by exact Sub.cons rfl (Sub.cons rfl (Sub.cons rfl (Sub.cons rfl (Sub.cons rfl (Sub.cons rfl (Sub.cons rfl (Sub.cons rfl (Sub.nil _))))))))) (by exact (fun _ h => (h).perm (List.perm_middle (l₁ := [_])))) ?_
   rintro zm0 ⟨best_0, found_0, m_0⟩ ⟨⟩ zo0 zf0 zb0 ze0
   have zh0 : impl_BestDivider_L0 reference_p0 target_p1 low_p2 high_p3 best_0 found_0 m_0 = some zo0 := zf0
   unfold impl_BestDivider_L0 at zh0
   show WC _ _ _ _ _ [(0, .int .i64 reference_p0), (1, .int .i64 target_p1), (2, .int .i64 low_p2), (3, .int .i64 high_p3), (8, .pointer (some ⟨b0_0, 0, .none⟩)), (10, .pointer (some ⟨b1_1, 0, .none⟩)), (11, .bool found_0), (12, .int .i64 m_0)] [Chunk.box b0_0 26 [.int .i64 0, .int .i64 0, .int .i64 0], Chunk.box b1_1 26 [.int .i64 best_0.N, .int .i64 best_0.M, .int .i64 best_0.P]]
   refine WC.seq (WC.seq (WC.region ?_))
   refine sp (OpV.move rfl) ?_
   refine sp (OpV.leq rfl rfl) ?_
   refine WL.nil (En.next ?_)
   refine WC.cond rfl ?_ ?_
   ·
    intro hc_2
    replace zh0 := ifO_t hc_2 zh0
    refine WC.skip (En.next (WC.seq (WC.block (WC.seq (WC.region ?_)))))
    refine sp (OpV.assign rfl) ?_
    refine WL.nil (En.next (WC.block ?_))
    obtain ⟨zy1, ezy1, zh0⟩ := bnd zh0
    refine WC.cut (X := (DividerT × Bool) × (Unit)) (.exit 2) (fun x => zy1 = x.1) (fun x => match x with | ((best_1e, found_1e), ()) => [(0, .int .i64 reference_p0), (1, .int .i64 target_p1), (2, .int .i64 low_p2), (3, .int .i64 high_p3), (8, .pointer (some ⟨b0_0, 0, .none⟩)), (10, .pointer (some ⟨b1_1, 0, .none⟩)), (11, .bool found_1e), (12, .int .i64 m_0)]) (fun x => match x with | ((best_1e, found_1e), ()) => [Chunk.box b0_0 26 [.int .i64 0, .int .i64 0, .int .i64 0], Chunk.box b1_1 26 [.int .i64 best_1e.N, .int .i64 best_1e.M, .int .i64 best_1e.P]]) ?_ ?_
    ·
     rintro ⟨⟨best_1e, found_1e⟩, ⟨⟩⟩ hx
     replace hx : (best_1e, found_1e) = zy1 := hx.symm
     subst hx
     show En _ _ _ _ [(0, .int .i64 reference_p0), (1, .int .i64 target_p1), (2, .int .i64 low_p2), (3, .int .i64 high_p3), (8, .pointer (some ⟨b0_0, 0, .none⟩)), (10, .pointer (some ⟨b1_1, 0, .none⟩)), (11, .bool found_1e), (12, .int .i64 m_0)] [Chunk.box b0_0 26 [.int .i64 0, .int .i64 0, .int .i64 0], Chunk.box b1_1 26 [.int .i64 best_1e.N, .int .i64 best_1e.M, .int .i64 best_1e.P]]
     refine En.block_exit (En.block_norm (En.next (WC.region ?_)))
     refine sp (OpV.move rfl) ?_
     refine sp (OpV.addR rfl rfl) ?_
     refine sp (OpV.assign rfl) ?_
     refine WL.nil ?_
     exact En.backP zb0 zh0 () (Sub.cons rfl (Sub.cons rfl (Sub.cons rfl (Sub.cons rfl (Sub.cons rfl (Sub.cons rfl (Sub.cons rfl (Sub.cons rfl (Sub.nil _))))))))) (fun _ h => h)
    ·
     intro zK1_0
     refine WC.loopP (G := Unit) (fun s g => match s, g with | (best_1, found_1, p_1), () => [(0, .int .i64 reference_p0), (1, .int .i64 target_p1), (2, .int .i64 low_p2), (3, .int .i64 high_p3), (8, .pointer (some ⟨b0_0, 0, .none⟩)), (10, .pointer (some ⟨b1_1, 0, .none⟩)), (11, .bool found_1), (12, .int .i64 m_0), (13, .int .i64 p_1)]) (fun s g => match s, g with | (best_1, found_1, p_1), () => [Chunk.box b0_0 26 [.int .i64 0, .int .i64 0, .int .i64 0], Chunk.box b1_1 26 [.int .i64 best_1.N, .int .i64 best_1.M, .int .i64 best_1.P]]) (best_0, found_0, 1) () ezy1 (by exact Sub.cons rfl (Sub.cons rfl (Sub.cons rfl (Sub.cons rfl (Sub.cons rfl (Sub.cons rfl (Sub.cons rfl (Sub.cons rfl (Sub.cons rfl (Sub.nil _)))))))))) (by exact (fun _ h => h)) ?_
     rintro zm1 ⟨best_1, found_1, p_1⟩ ⟨⟩ zo1 zf1 zb1 ze1
     have zh1 : impl_BestDivider_L1 reference_p0 target_p1 low_p2 high_p3 m_0 best_1 found_1 p_1 = some zo1 := zf1
     unfold impl_BestDivider_L1 at zh1
     show WC _ _ _ _ _ [(0, .int .i64 reference_p0), (1, .int .i64 target_p1), (2, .int .i64 low_p2), (3, .int .i64 high_p3), (8, .pointer (some ⟨b0_0, 0, .none⟩)), (10, .pointer (some ⟨b1_1, 0, .none⟩)), (11, .bool found_1), (12, .int .i64 m_0), (13, .int .i64 p_1)] [Chunk.box b0_0 26 [.int .i64 0, .int .i64 0, .int .i64 0], Chunk.box b1_1 26 [.int .i64 best_1.N, .int .i64 best_1.M, .int .i64 best_1.P]]
     refine WC.seq (WC.seq (WC.region ?_))
     refine sp (OpV.move rfl) ?_
     refine sp (OpV.leq rfl rfl) ?_
     refine WL.nil (En.next ?_)
     refine WC.cond rfl ?_ ?_
     ·
      intro hc_3
      replace zh1 := ifO_t hc_3 zh1
      refine WC.skip (En.next (WC.seq (WC.block (WC.seq (WC.region ?_)))))
      refine sp (OpV.assign rfl) ?_
      refine WL.nil (En.next (WC.block ?_))
      obtain ⟨zy2, ezy2, zh1⟩ := bnd zh1
      refine WC.cut (X := (DividerT × Bool) × (Unit)) (.exit 4) (fun x => zy2 = x.1) (fun x => match x with | ((best_2e, found_2e), ()) => [(0, .int .i64 reference_p0), (1, .int .i64 target_p1), (2, .int .i64 low_p2), (3, .int .i64 high_p3), (8, .pointer (some ⟨b0_0, 0, .none⟩)), (10, .pointer (some ⟨b1_1, 0, .none⟩)), (11, .bool found_2e), (12, .int .i64 m_0), (13, .int .i64 p_1)]) (fun x => match x with | ((best_2e, found_2e), ()) => [Chunk.box b0_0 26 [.int .i64 0, .int .i64 0, .int .i64 0], Chunk.box b1_1 26 [.int .i64 best_2e.N, .int .i64 best_2e.M, .int .i64 best_2e.P]]) ?_ ?_
      ·
       rintro ⟨⟨best_2e, found_2e⟩, ⟨⟩⟩ hx
       replace hx : (best_2e, found_2e) = zy2 := hx.symm
       subst hx
       show En _ _ _ _ [(0, .int .i64 reference_p0), (1, .int .i64 target_p1), (2, .int .i64 low_p2), (3, .int .i64 high_p3), (8, .pointer (some ⟨b0_0, 0, .none⟩)), (10, .pointer (some ⟨b1_1, 0, .none⟩)), (11, .bool found_2e), (12, .int .i64 m_0), (13, .int .i64 p_1)] [Chunk.box b0_0 26 [.int .i64 0, .int .i64 0, .int .i64 0], Chunk.box b1_1 26 [.int .i64 best_2e.N, .int .i64 best_2e.M, .int .i64 best_2e.P]]
       refine En.block_exit (En.block_norm (En.next (WC.region ?_)))
       refine sp (OpV.move rfl) ?_
       refine sp (OpV.mulR rfl rfl) ?_
       refine sp (OpV.assign rfl) ?_
       refine WL.nil ?_
       exact En.backP zb1 zh1 () (Sub.cons rfl (Sub.cons rfl (Sub.cons rfl (Sub.cons rfl (Sub.cons rfl (Sub.cons rfl (Sub.cons rfl (Sub.cons rfl (Sub.cons rfl (Sub.nil _)))))))))) (fun _ h => h)
      ·
       intro zK2_0
       refine WC.loopP (G := Unit) (fun s g => match s, g with | (best_2, found_2, n_2), () => [(0, .int .i64 reference_p0), (1, .int .i64 target_p1), (2, .int .i64 low_p2), (3, .int .i64 high_p3), (8, .pointer (some ⟨b0_0, 0, .none⟩)), (10, .pointer (some ⟨b1_1, 0, .none⟩)), (11, .bool found_2), (12, .int .i64 m_0), (13, .int .i64 p_1), (14, .int .i64 n_2)]) (fun s g => match s, g with | (best_2, found_2, n_2), () => [Chunk.box b0_0 26 [.int .i64 0, .int .i64 0, .int .i64 0], Chunk.box b1_1 26 [.int .i64 best_2.N, .int .i64 best_2.M, .int .i64 best_2.P]]) (best_1, found_1, 4) () ezy2 (by exact Sub.cons rfl (Sub.cons rfl (Sub.cons rfl (Sub.cons rfl (Sub.cons rfl (Sub.cons rfl (Sub.cons rfl (Sub.cons rfl (Sub.cons rfl (Sub.cons rfl (Sub.nil _))))))))))) (by exact (fun _ h => h)) ?_
       rintro zm2 ⟨best_2, found_2, n_2⟩ ⟨⟩ zo2 zf2 zb2 ze2
       have zh2 : impl_BestDivider_L2 reference_p0 target_p1 low_p2 high_p3 m_0 p_1 best_2 found_2 n_2 = some zo2 := zf2
       unfold impl_BestDivider_L2 at zh2
       show WC _ _ _ _ _ [(0, .int .i64 reference_p0), (1, .int .i64 target_p1), (2, .int .i64 low_p2), (3, .int .i64 high_p3), (8, .pointer (some ⟨b0_0, 0, .none⟩)), (10, .pointer (some ⟨b1_1, 0, .none⟩)), (11, .bool found_2), (12, .int .i64 m_0), (13, .int .i64 p_1), (14, .int .i64 n_2)] [Chunk.box b0_0 26 [.int .i64 0, .int .i64 0, .int .i64 0], Chunk.box b1_1 26 [.int .i64 best_2.N, .int .i64 best_2.M, .int .i64 best_2.P]]
       refine WC.seq (WC.seq (WC.region ?_))
       refine sp (OpV.move rfl) ?_
       refine sp (OpV.leq rfl rfl) ?_
       refine WL.nil (En.next ?_)
       refine WC.cond rfl ?_ ?_
       ·
        intro hc_4
        replace zh2 := ifO_t hc_4 zh2
        refine WC.skip (En.next (WC.seq ?_))
        obtain ⟨zy3, ej3, zh2⟩ := bnd zh2
        refine WC.cut (X := (DividerT × Bool) × (Unit)) .normal (fun x => zy3 = x.1) (fun x => match x with | ((best_3j, found_3j), ()) => [(0, .int .i64 reference_p0), (1, .int .i64 target_p1), (2, .int .i64 low_p2), (3, .int .i64 high_p3), (8, .pointer (some ⟨b0_0, 0, .none⟩)), (10, .pointer (some ⟨b1_1, 0, .none⟩)), (11, .bool found_3j), (12, .int .i64 m_0), (13, .int .i64 p_1), (14, .int .i64 n_2)]) (fun x => match x with | ((best_3j, found_3j), ()) => [Chunk.box b0_0 26 [.int .i64 0, .int .i64 0, .int .i64 0], Chunk.box b1_1 26 [.int .i64 best_3j.N, .int .i64 best_3j.M, .int .i64 best_3j.P]]) ?_ ?_
        ·
         rintro ⟨⟨best_3j, found_3j⟩, ⟨⟩⟩ hx
         replace hx : (best_3j, found_3j) = zy3 := hx.symm
         subst hx
         show En _ _ _ _ [(0, .int .i64 reference_p0), (1, .int .i64 target_p1), (2, .int .i64 low_p2), (3, .int .i64 high_p3), (8, .pointer (some ⟨b0_0, 0, .none⟩)), (10, .pointer (some ⟨b1_1, 0, .none⟩)), (11, .bool found_3j), (12, .int .i64 m_0), (13, .int .i64 p_1), (14, .int .i64 n_2)] [Chunk.box b0_0 26 [.int .i64 0, .int .i64 0, .int .i64 0], Chunk.box b1_1 26 [.int .i64 best_3j.N, .int .i64 best_3j.M, .int .i64 best_3j.P]]
         refine En.next (WC.region ?_)
         refine sp (OpV.move rfl) ?_
         refine sp (OpV.addR rfl rfl) ?_
         refine sp (OpV.assign rfl) ?_
         refine WL.nil ?_
         exact En.backP zb2 zh2 () (Sub.cons rfl (Sub.cons rfl (Sub.cons rfl (Sub.cons rfl (Sub.cons rfl (Sub.cons rfl (Sub.cons rfl (Sub.cons rfl (Sub.cons rfl (Sub.cons rfl (Sub.nil _))))))))))) (fun _ h => h)
        ·
         intro zK3
         refine WC.block (WC.seq (WC.region ?_))
         refine sp (OpV.move rfl) ?_
         refine sp (OpV.move rfl) ?_
         refine sp (OpV.move rfl) ?_
         refine sp (OpV.build (evps.cons rfl (evps.cons rfl (evps.cons rfl (evps.nil)))) (bd_26_0_1_2 _ _ _)) ?_
         refine WL.heavy rfl rfl rfl (OpH.alloc zc_26 ?_)
         intro b14_4
         refine WL.heavy0 rfl rfl (OpH.storeTo (A := []) [_, _, _] rfl rfl rfl ts_26 rfl rfl rfl ?_)
         refine WL.nil (En.next (WC.seq ?_))
         obtain ⟨x15_4, e15_4, ej3⟩ := bnd ej3
         obtain ⟨q15_15, e15_15, ej3⟩ := bnd ej3
         refine WC.region ?_
         refine sp (OpV.loadAll rfl (.head _) ag_26) ?_
         refine sp (OpV.move rfl) ?_
         refine sp (OpV.move rfl) ?_
         refine sp (OpV.move rfl) ?_
         refine sp (OpV.call (evs.cons rfl (evs.cons rfl (evs.cons rfl (evs.cons rfl (evs.nil))))) ca_13 (fun w hs => w_impl_DividerOk e15_4)) ?_
         refine sp (OpV.move rfl) ?_
         refine Lt.ofWL.andQ 42 52 51 (p := ?pz1) (rest := ?qz1) (B := q15_15) rfl (fun hz => andO_f e15_15 hz) ?Tz1 ?Fz1 ?az1 ?bz1 ?cz1 ?dz1 ?ez1
         case Tz1 =>
          intro hcz1 hkz1
          have hqz1 := andO_t e15_15 hcz1
          obtain ⟨q15_14, e15_14, hqz1⟩ := bnd hqz1
          obtain rfl := Option.some.inj hqz1
          refine sp (OpV.move rfl) ?_
          refine sp (OpV.not rfl) ?_
          refine sp (OpV.move rfl) ?_
          refine Lt.ofWL.orQ 45 51 50 (p := ?pz2) (rest := ?qz2) (B := q15_14) rfl (fun hz => orO_t e15_14 hz) ?Tz2 ?Fz2 ?az2 ?bz2 ?cz2 ?dz2 ?ez2
          case Tz2 =>
           intro hcz2 hkz2
           refine sk ?_
           refine sk ?_
           refine sk ?_
           refine sk ?_
           refine sk ?_
           refine hkz2 _ ?_
           repeat (first | exact Sub.refl _ | refine Sub.skip rfl ?_)
          case Fz2 =>
           intro hcz2 hkz2
           have hqz2 := orO_f e15_14 hcz2
           obtain ⟨x15_13, e15_13, hqz2⟩ := bnd hqz2
           obtain rfl := Option.some.inj hqz2
           refine sp (OpV.loadAll rfl (.head _) ag_26) ?_
           refine sp (OpV.loadAll rfl (.tail _ (.tail _ (.head _))) ag_26) ?_
           refine sp (OpV.move rfl) ?_
           refine sp (OpV.move rfl) ?_
           refine sp (OpV.call (evs.cons rfl (evs.cons rfl (evs.cons rfl (evs.cons rfl (evs.nil))))) ca_14 (fun w hs => w_impl_Closer e15_13)) ?_
           refine hkz2 _ ?_ ?_
           exact rfl
           repeat (first | exact Sub.refl _ | refine Sub.skip rfl ?_)
          case az2 => exact rfl
          case bz2 => exact rfl
          case cz2 => exact rfl
          case dz2 => exact rfl
          refine hkz1 _ ?_ ?_
          exact rfl
          repeat (first | exact Sub.refl _ | refine Sub.skip rfl ?_)
         case Fz1 =>
          intro hcz1 hkz1
          refine sk ?_
          refine sk ?_
          refine sk ?_
          refine sk ?_
          refine sk ?_
          refine sk ?_
          refine sk ?_
          refine sk ?_
          refine sk ?_
          refine hkz1 _ ?_
          repeat (first | exact Sub.refl _ | refine Sub.skip rfl ?_)
         case az1 => exact rfl
         case bz1 => exact rfl
         case cz1 => exact rfl
         case dz1 => exact rfl
         refine WL.nil (En.next ?_)
         refine WC.cond rfl ?_ ?_
         ·
          intro hc_5
          replace ej3 := ifO_t hc_5 ej3
          refine WC.seq (WC.region ?_)
          refine sp (OpV.loadAll rfl (.head _) ag_26) ?_
          refine WL.heavy0 rfl rfl (OpH.storeTo (A := [_, _]) [_, _, _] rfl rfl rfl ts_26 rfl rfl rfl ?_)
          refine WL.nil (En.next (WC.region ?_))
          refine sp (OpV.assign rfl) ?_
          refine WL.nil (En.block_norm ?_)
          exact En.wk _ _ (Sub.cons rfl (Sub.cons rfl (Sub.cons rfl (Sub.cons rfl (Sub.cons rfl (Sub.cons rfl (Sub.cons rfl (Sub.cons rfl (Sub.cons rfl (Sub.cons rfl (Sub.nil _))))))))))) (fun _ h => (((h).perm (List.perm_middle (l₁ := [_, _]))).perm (List.perm_middle (l₁ := [_, _]))).sub (.cons_cons _ (.cons_cons _ (.cons _ (.slnil))))) (zK3 (((DividerT.mk n_2 m_0 p_1), true), ()) (Option.some.inj ej3).symm)
         ·
          intro hc_5
          replace ej3 := ifO_f hc_5 ej3
          refine WC.skip (En.block_norm ?_)
          exact En.wk _ _ (Sub.cons rfl (Sub.cons rfl (Sub.cons rfl (Sub.cons rfl (Sub.cons rfl (Sub.cons rfl (Sub.cons rfl (Sub.cons rfl (Sub.cons rfl (Sub.cons rfl (Sub.nil _))))))))))) (fun _ h => (((h).perm (List.perm_middle (l₁ := [_, _]))).perm (List.perm_middle (l₁ := [_, _]))).sub (.cons_cons _ (.cons_cons _ (.cons _ (.slnil))))) (zK3 ((best_2, found_2), ()) (Option.some.inj ej3).symm)
       ·
        intro hc_4
        replace zh2 := ifO_f hc_4 zh2
        refine WC.exit (En.then_exit (En.then_exit ?_))
        have hx := exitP ze2 zh2
        exact En.wk _ _ (Sub.cons rfl (Sub.cons rfl (Sub.cons rfl (Sub.cons rfl (Sub.cons rfl (Sub.cons rfl (Sub.cons rfl (Sub.cons rfl (Sub.cons rfl (Sub.nil _)))))))))) (fun _ h => h) (zK2_0 ((best_2, found_2), ()) hx.symm)
     ·
      intro hc_3
      replace zh1 := ifO_f hc_3 zh1
      refine WC.exit (En.then_exit (En.then_exit ?_))
      have hx := exitP ze1 zh1
      exact En.wk _ _ (Sub.cons rfl (Sub.cons rfl (Sub.cons rfl (Sub.cons rfl (Sub.cons rfl (Sub.cons rfl (Sub.cons rfl (Sub.cons rfl (Sub.nil _))))))))) (fun _ h => h) (zK1_0 ((best_1, found_1), ()) hx.symm)
   ·
    intro hc_2
    replace zh0 := ifO_f hc_2 zh0
    refine WC.exit (En.then_exit (En.then_exit ?_))
    have hx := exitP ze0 zh0
    exact En.wk _ _ (Sub.cons rfl (Sub.cons rfl (Sub.cons rfl (Sub.nil _)))) (fun _ h => h) (zK0_0 ((best_0, found_0), ()) hx.symm)

theorem w_spec_l01In {x_p0 : Int} {least_p1 : Int} {most_p2 : Int} {r : Bool}  (h : spec_l01In x_p0 least_p1 most_p2 = some r) {w : World}    :
    Calls Try.prog 41 #[.int .i64 x_p0, .int .i64 least_p1, .int .i64 most_p2] w (fun en w' => en = .returned (.bool r) ∧ Ext w w') := by
 unfold spec_l01In at h
 refine enter (vs := [_, _, _]) Try.func41 rfl rfl rfl rfl ?_
 refine WC.seq (WC.region ?_)
 refine sp (OpV.assign rfl) ?_
 refine WL.nil (En.next (WC.seq (WC.region ?_)))
 refine sp (OpV.move rfl) ?_
 refine sp (OpV.move rfl) ?_
 refine sp (OpV.geq rfl rfl) ?_
 refine sp (OpV.move rfl) ?_
 refine Lt.ofWL.and 10 14 13 (p := ?pz1) (rest := ?qz1) (B := ?Bz1) rfl ?Tz1 ?Fz1 ?az1 ?bz1 ?cz1 ?dz1 ?ez1
 case Tz1 =>
  intro hcz1 hkz1
  refine sp (OpV.move rfl) ?_
  refine sp (OpV.move rfl) ?_
  refine sp (OpV.leq rfl rfl) ?_
  refine hkz1 _ ?_ ?_
  exact rfl
  repeat (first | exact Sub.refl _ | refine Sub.skip rfl ?_)
 case Fz1 =>
  intro hcz1 hkz1
  refine sk ?_
  refine sk ?_
  refine sk ?_
  refine hkz1 _ ?_
  repeat (first | exact Sub.refl _ | refine Sub.skip rfl ?_)
 case az1 => exact rfl
 case bz1 => exact rfl
 case cz1 => exact rfl
 case dz1 => exact rfl
 refine sp (OpV.assign rfl) ?_
 refine WL.nil (En.next (WC.ret ?_))
 refine En.ret1 rfl (Res.tmp rfl) ?_
 obtain rfl := Option.some.inj h
 intro w' hs
 exact ⟨rfl, hs.below⟩

theorem w_spec_l17Power {p_p0 : Int} {r : Bool}  (h : spec_l17Power p_p0 = some r) {w : World}    :
    Calls Try.prog 61 #[.int .i64 p_p0] w (fun en w' => en = .returned (.bool r) ∧ Ext w w') := by
 unfold spec_l17Power at h
 refine enter (vs := [_]) Try.func61 rfl rfl rfl rfl ?_
 refine WC.seq (WC.region ?_)
 refine sp (OpV.assign rfl) ?_
 refine WL.nil (En.next (WC.seq (WC.region ?_)))
 refine sp (OpV.move rfl) ?_
 refine sp (OpV.eql rfl rfl) ?_
 refine sp (OpV.move rfl) ?_
 refine Lt.ofWL.or 5 8 7 (p := ?pz1) (rest := ?qz1) (B := ?Bz1) rfl ?Tz1 ?Fz1 ?az1 ?bz1 ?cz1 ?dz1 ?ez1
 case Tz1 =>
  intro hcz1 hkz1
  refine sk ?_
  refine sk ?_
  refine hkz1 _ ?_
  repeat (first | exact Sub.refl _ | refine Sub.skip rfl ?_)
 case Fz1 =>
  intro hcz1 hkz1
  refine sp (OpV.move rfl) ?_
  refine sp (OpV.eql rfl rfl) ?_
  refine hkz1 _ ?_ ?_
  exact rfl
  repeat (first | exact Sub.refl _ | refine Sub.skip rfl ?_)
 case az1 => exact rfl
 case bz1 => exact rfl
 case cz1 => exact rfl
 case dz1 => exact rfl
 refine sp (OpV.move rfl) ?_
 refine Lt.ofWL.or 9 12 11 (p := ?pz2) (rest := ?qz2) (B := ?Bz2) rfl ?Tz2 ?Fz2 ?az2 ?bz2 ?cz2 ?dz2 ?ez2
 case Tz2 =>
  intro hcz2 hkz2
  refine sk ?_
  refine sk ?_
  refine hkz2 _ ?_
  repeat (first | exact Sub.refl _ | refine Sub.skip rfl ?_)
 case Fz2 =>
  intro hcz2 hkz2
  refine sp (OpV.move rfl) ?_
  refine sp (OpV.eql rfl rfl) ?_
  refine hkz2 _ ?_ ?_
  exact rfl
  repeat (first | exact Sub.refl _ | refine Sub.skip rfl ?_)
 case az2 => exact rfl
 case bz2 => exact rfl
 case cz2 => exact rfl
 case dz2 => exact rfl
 refine sp (OpV.move rfl) ?_
 refine Lt.ofWL.or 13 16 15 (p := ?pz3) (rest := ?qz3) (B := ?Bz3) rfl ?Tz3 ?Fz3 ?az3 ?bz3 ?cz3 ?dz3 ?ez3
 case Tz3 =>
  intro hcz3 hkz3
  refine sk ?_
  refine sk ?_
  refine hkz3 _ ?_
  repeat (first | exact Sub.refl _ | refine Sub.skip rfl ?_)
 case Fz3 =>
  intro hcz3 hkz3
  refine sp (OpV.move rfl) ?_
  refine sp (OpV.eql rfl rfl) ?_
  refine hkz3 _ ?_ ?_
  exact rfl
  repeat (first | exact Sub.refl _ | refine Sub.skip rfl ?_)
 case az3 => exact rfl
 case bz3 => exact rfl
 case cz3 => exact rfl
 case dz3 => exact rfl
 refine sp (OpV.assign rfl) ?_
 refine WL.nil (En.next (WC.ret ?_))
 refine En.ret1 rfl (Res.tmp rfl) ?_
 obtain rfl := Option.some.inj h
 intro w' hs
 exact ⟨rfl, hs.below⟩

theorem w_spec_DividerOk {d_p0 : DividerT} {reference_p1 : Int} {low_p2 : Int} {high_p3 : Int} {r : Bool}  (h : spec_DividerOk d_p0 reference_p1 low_p2 high_p3 = some r) {w : World}    :
    Calls Try.prog 40 #[.agg #[.int .i64 d_p0.N, .int .i64 d_p0.M, .int .i64 d_p0.P], .int .i64 reference_p1, .int .i64 low_p2, .int .i64 high_p3] w (fun en w' => en = .returned (.bool r) ∧ Ext w w') := by
 unfold spec_DividerOk at h
 refine enter (vs := [_, _, _, _]) Try.func40 rfl rfl rfl rfl ?_
 refine WC.seq (WC.region ?_)
 refine WL.heavy rfl rfl rfl (OpH.box rfl rfl ?_)
 intro b0_0
 refine sp (OpV.assign rfl) ?_
 refine WL.nil (En.next (WC.seq (WC.seq ?_)))
 obtain ⟨x1_2, e1_2, h⟩ := bnd h
 obtain ⟨q1_9, e1_9, h⟩ := bnd h
 obtain ⟨q1_15, e1_15, h⟩ := bnd h
 obtain ⟨q1_20, e1_20, h⟩ := bnd h
 obtain ⟨q1_25, e1_25, h⟩ := bnd h
 obtain ⟨q1_30, e1_30, h⟩ := bnd h
 refine WC.region ?_
 refine sp (OpV.fieldAddr rfl fo_26_0) ?_
 refine sp (OpV.loadBox rfl pt_3 (.head _) rfl) ?_
 refine sp (OpV.call (evs.cons rfl (evs.cons rfl (evs.cons rfl (evs.nil)))) ca_41 (fun w hs => w_spec_l01In e1_2)) ?_
 refine sp (OpV.not rfl) ?_
 refine sp (OpV.move rfl) ?_
 refine Lt.ofWL.orQ 13 18 17 (p := ?pz1) (rest := ?qz1) (B := q1_9) rfl (fun hz => orO_t e1_9 hz) ?Tz1 ?Fz1 ?az1 ?bz1 ?cz1 ?dz1 ?ez1
 case Tz1 =>
  intro hcz1 hkz1
  refine sk ?_
  refine sk ?_
  refine sk ?_
  refine sk ?_
  refine hkz1 _ ?_
  repeat (first | exact Sub.refl _ | refine Sub.skip rfl ?_)
 case Fz1 =>
  intro hcz1 hkz1
  have hqz1 := orO_f e1_9 hcz1
  obtain ⟨x1_7, e1_7, hqz1⟩ := bnd hqz1
  obtain rfl := Option.some.inj hqz1
  refine sp (OpV.fieldAddr rfl fo_26_1) ?_
  refine sp (OpV.loadBox rfl pt_3 (.head _) rfl) ?_
  refine sp (OpV.call (evs.cons rfl (evs.cons rfl (evs.cons rfl (evs.nil)))) ca_41 (fun w hs => w_spec_l01In e1_7)) ?_
  refine sp (OpV.not rfl) ?_
  refine hkz1 _ ?_ ?_
  exact rfl
  repeat (first | exact Sub.refl _ | refine Sub.skip rfl ?_)
 case az1 => exact rfl
 case bz1 => exact rfl
 case cz1 => exact rfl
 case dz1 => exact rfl
 refine sp (OpV.move rfl) ?_
 refine Lt.ofWL.orQ 19 24 23 (p := ?pz2) (rest := ?qz2) (B := q1_15) rfl (fun hz => orO_t e1_15 hz) ?Tz2 ?Fz2 ?az2 ?bz2 ?cz2 ?dz2 ?ez2
 case Tz2 =>
  intro hcz2 hkz2
  refine sk ?_
  refine sk ?_
  refine sk ?_
  refine sk ?_
  refine hkz2 _ ?_
  repeat (first | exact Sub.refl _ | refine Sub.skip rfl ?_)
 case Fz2 =>
  intro hcz2 hkz2
  have hqz2 := orO_f e1_15 hcz2
  obtain ⟨x1_13, e1_13, hqz2⟩ := bnd hqz2
  obtain rfl := Option.some.inj hqz2
  refine sp (OpV.fieldAddr rfl fo_26_2) ?_
  refine sp (OpV.loadBox rfl pt_3 (.head _) rfl) ?_
  refine sp (OpV.call (evs.cons rfl (evs.nil)) ca_61 (fun w hs => w_spec_l17Power e1_13)) ?_
  refine sp (OpV.not rfl) ?_
  refine hkz2 _ ?_ ?_
  exact rfl
  repeat (first | exact Sub.refl _ | refine Sub.skip rfl ?_)
 case az2 => exact rfl
 case bz2 => exact rfl
 case cz2 => exact rfl
 case dz2 => exact rfl
 refine sp (OpV.move rfl) ?_
 refine Lt.ofWL.orQ 25 29 28 (p := ?pz3) (rest := ?qz3) (B := q1_20) rfl (fun hz => orO_t e1_20 hz) ?Tz3 ?Fz3 ?az3 ?bz3 ?cz3 ?dz3 ?ez3
 case Tz3 =>
  intro hcz3 hkz3
  refine sk ?_
  refine sk ?_
  refine sk ?_
  refine hkz3 _ ?_
  repeat (first | exact Sub.refl _ | refine Sub.skip rfl ?_)
 case Fz3 =>
  intro hcz3 hkz3
  have hqz3 := orO_f e1_20 hcz3
  obtain ⟨x1_18, e1_18, hqz3⟩ := bnd hqz3
  obtain rfl := Option.some.inj hqz3
  refine sp (OpV.move rfl) ?_
  refine sp (OpV.call (evs.cons rfl (evs.cons rfl (evs.cons rfl (evs.nil)))) ca_41 (fun w hs => w_spec_l01In e1_18)) ?_
  refine sp (OpV.not rfl) ?_
  refine hkz3 _ ?_ ?_
  exact rfl
  repeat (first | exact Sub.refl _ | refine Sub.skip rfl ?_)
 case az3 => exact rfl
 case bz3 => exact rfl
 case cz3 => exact rfl
 case dz3 => exact rfl
 refine sp (OpV.move rfl) ?_
 refine Lt.ofWL.orQ 30 34 33 (p := ?pz4) (rest := ?qz4) (B := q1_25) rfl (fun hz => orO_t e1_25 hz) ?Tz4 ?Fz4 ?az4 ?bz4 ?cz4 ?dz4 ?ez4
 case Tz4 =>
  intro hcz4 hkz4
  refine sk ?_
  refine sk ?_
  refine sk ?_
  refine hkz4 _ ?_
  repeat (first | exact Sub.refl _ | refine Sub.skip rfl ?_)
 case Fz4 =>
  intro hcz4 hkz4
  have hqz4 := orO_f e1_25 hcz4
  obtain ⟨x1_23, e1_23, hqz4⟩ := bnd hqz4
  obtain rfl := Option.some.inj hqz4
  refine sp (OpV.move rfl) ?_
  refine sp (OpV.call (evs.cons rfl (evs.cons rfl (evs.cons rfl (evs.nil)))) ca_41 (fun w hs => w_spec_l01In e1_23)) ?_
  refine sp (OpV.not rfl) ?_
  refine hkz4 _ ?_ ?_
  exact rfl
  repeat (first | exact Sub.refl _ | refine Sub.skip rfl ?_)
 case az4 => exact rfl
 case bz4 => exact rfl
 case cz4 => exact rfl
 case dz4 => exact rfl
 refine sp (OpV.move rfl) ?_
 refine Lt.ofWL.orQ 35 39 38 (p := ?pz5) (rest := ?qz5) (B := q1_30) rfl (fun hz => orO_t e1_30 hz) ?Tz5 ?Fz5 ?az5 ?bz5 ?cz5 ?dz5 ?ez5
 case Tz5 =>
  intro hcz5 hkz5
  refine sk ?_
  refine sk ?_
  refine sk ?_
  refine hkz5 _ ?_
  repeat (first | exact Sub.refl _ | refine Sub.skip rfl ?_)
 case Fz5 =>
  intro hcz5 hkz5
  have hqz5 := orO_f e1_30 hcz5
  obtain ⟨x1_28, e1_28, hqz5⟩ := bnd hqz5
  obtain rfl := Option.some.inj hqz5
  refine sp (OpV.move rfl) ?_
  refine sp (OpV.call (evs.cons rfl (evs.cons rfl (evs.cons rfl (evs.nil)))) ca_41 (fun w hs => w_spec_l01In e1_28)) ?_
  refine sp (OpV.not rfl) ?_
  refine hkz5 _ ?_ ?_
  exact rfl
  repeat (first | exact Sub.refl _ | refine Sub.skip rfl ?_)
 case az5 => exact rfl
 case bz5 => exact rfl
 case cz5 => exact rfl
 case dz5 => exact rfl
 refine WL.nil (En.next ?_)
 refine WC.cond rfl ?_ ?_
 ·
  intro hc_1
  replace h := ifO_t hc_1 h
  refine WC.seq (WC.region ?_)
  refine sp (OpV.assign rfl) ?_
  refine WL.nil (En.next (WC.ret (En.then_ret ?_)))
  refine En.ret1 rfl (Res.tmp rfl) ?_
  obtain rfl := Option.some.inj h
  intro w' hs
  exact ⟨rfl, hs.below⟩
 ·
  intro hc_1
  replace h := ifO_f hc_1 h
  refine WC.skip (En.next (WC.seq (WC.region ?_)))
  refine sp (OpV.move rfl) ?_
  refine sp (OpV.fieldAddr rfl fo_26_1) ?_
  refine sp (OpV.loadBox rfl pt_3 (.head _) rfl) ?_
  refine sp (OpV.mulR rfl rfl) ?_
  refine sp (OpV.move rfl) ?_
  refine sp (OpV.fieldAddr rfl fo_26_0) ?_
  refine sp (OpV.loadBox rfl pt_3 (.head _) rfl) ?_
  refine sp (OpV.mulR rfl rfl) ?_
  refine sp (OpV.leq rfl rfl) ?_
  refine sp (OpV.move rfl) ?_
  refine Lt.ofWL.and 49 59 58 (p := ?pz6) (rest := ?qz6) (B := ?Bz6) rfl ?Tz6 ?Fz6 ?az6 ?bz6 ?cz6 ?dz6 ?ez6
  case Tz6 =>
   intro hcz6 hkz6
   refine sp (OpV.move rfl) ?_
   refine sp (OpV.fieldAddr rfl fo_26_0) ?_
   refine sp (OpV.loadBox rfl pt_3 (.head _) rfl) ?_
   refine sp (OpV.mulR rfl rfl) ?_
   refine sp (OpV.move rfl) ?_
   refine sp (OpV.fieldAddr rfl fo_26_1) ?_
   refine sp (OpV.loadBox rfl pt_3 (.head _) rfl) ?_
   refine sp (OpV.mulR rfl rfl) ?_
   refine sp (OpV.leq rfl rfl) ?_
   refine hkz6 _ ?_ ?_
   exact rfl
   repeat (first | exact Sub.refl _ | refine Sub.skip rfl ?_)
  case Fz6 =>
   intro hcz6 hkz6
   refine sk ?_
   refine sk ?_
   refine sk ?_
   refine sk ?_
   refine sk ?_
   refine sk ?_
   refine sk ?_
   refine sk ?_
   refine sk ?_
   refine hkz6 _ ?_
   repeat (first | exact Sub.refl _ | refine Sub.skip rfl ?_)
  case az6 => exact rfl
  case bz6 => exact rfl
  case cz6 => exact rfl
  case dz6 => exact rfl
  refine sp (OpV.assign rfl) ?_
  refine WL.nil (En.next (WC.ret ?_))
  refine En.ret1 rfl (Res.tmp rfl) ?_
  obtain rfl := Option.some.inj h
  intro w' hs
  exact ⟨rfl, hs.below⟩

theorem w_spec_ErrorOf {d_p0 : DividerT} {reference_p1 : Int} {target_p2 : Int} {r : Int}  (h : spec_ErrorOf d_p0 reference_p1 target_p2 = some r) {w : World}    :
    Calls Try.prog 17 #[.agg #[.int .i64 d_p0.N, .int .i64 d_p0.M, .int .i64 d_p0.P], .int .i64 reference_p1, .int .i64 target_p2] w (fun en w' => en = .returned (.int .i64 r) ∧ Ext w w') := by
 unfold spec_ErrorOf at h
 refine enter (vs := [_, _, _]) Try.func17 rfl rfl rfl rfl ?_
 refine WC.seq (WC.region ?_)
 refine WL.heavy rfl rfl rfl (OpH.box rfl rfl ?_)
 intro b0_0
 refine sp (OpV.assign rfl) ?_
 refine WL.nil (En.next (WC.seq (WC.seq ?_)))
 obtain ⟨x1_2, e1_2, h⟩ := bnd h
 obtain ⟨q1_9, e1_9, h⟩ := bnd h
 obtain ⟨q1_15, e1_15, h⟩ := bnd h
 obtain ⟨q1_20, e1_20, h⟩ := bnd h
 obtain ⟨q1_25, e1_25, h⟩ := bnd h
 refine WC.region ?_
 refine sp (OpV.fieldAddr rfl fo_26_0) ?_
 refine sp (OpV.loadBox rfl pt_3 (.head _) rfl) ?_
 refine sp (OpV.call (evs.cons rfl (evs.cons rfl (evs.cons rfl (evs.nil)))) ca_41 (fun w hs => w_spec_l01In e1_2)) ?_
 refine sp (OpV.not rfl) ?_
 refine sp (OpV.move rfl) ?_
 refine Lt.ofWL.orQ 12 17 16 (p := ?pz1) (rest := ?qz1) (B := q1_9) rfl (fun hz => orO_t e1_9 hz) ?Tz1 ?Fz1 ?az1 ?bz1 ?cz1 ?dz1 ?ez1
 case Tz1 =>
  intro hcz1 hkz1
  refine sk ?_
  refine sk ?_
  refine sk ?_
  refine sk ?_
  refine hkz1 _ ?_
  repeat (first | exact Sub.refl _ | refine Sub.skip rfl ?_)
 case Fz1 =>
  intro hcz1 hkz1
  have hqz1 := orO_f e1_9 hcz1
  obtain ⟨x1_7, e1_7, hqz1⟩ := bnd hqz1
  obtain rfl := Option.some.inj hqz1
  refine sp (OpV.fieldAddr rfl fo_26_1) ?_
  refine sp (OpV.loadBox rfl pt_3 (.head _) rfl) ?_
  refine sp (OpV.call (evs.cons rfl (evs.cons rfl (evs.cons rfl (evs.nil)))) ca_41 (fun w hs => w_spec_l01In e1_7)) ?_
  refine sp (OpV.not rfl) ?_
  refine hkz1 _ ?_ ?_
  exact rfl
  repeat (first | exact Sub.refl _ | refine Sub.skip rfl ?_)
 case az1 => exact rfl
 case bz1 => exact rfl
 case cz1 => exact rfl
 case dz1 => exact rfl
 refine sp (OpV.move rfl) ?_
 refine Lt.ofWL.orQ 18 23 22 (p := ?pz2) (rest := ?qz2) (B := q1_15) rfl (fun hz => orO_t e1_15 hz) ?Tz2 ?Fz2 ?az2 ?bz2 ?cz2 ?dz2 ?ez2
 case Tz2 =>
  intro hcz2 hkz2
  refine sk ?_
  refine sk ?_
  refine sk ?_
  refine sk ?_
  refine hkz2 _ ?_
  repeat (first | exact Sub.refl _ | refine Sub.skip rfl ?_)
 case Fz2 =>
  intro hcz2 hkz2
  have hqz2 := orO_f e1_15 hcz2
  obtain ⟨x1_13, e1_13, hqz2⟩ := bnd hqz2
  obtain rfl := Option.some.inj hqz2
  refine sp (OpV.fieldAddr rfl fo_26_2) ?_
  refine sp (OpV.loadBox rfl pt_3 (.head _) rfl) ?_
  refine sp (OpV.call (evs.cons rfl (evs.cons rfl (evs.cons rfl (evs.nil)))) ca_41 (fun w hs => w_spec_l01In e1_13)) ?_
  refine sp (OpV.not rfl) ?_
  refine hkz2 _ ?_ ?_
  exact rfl
  repeat (first | exact Sub.refl _ | refine Sub.skip rfl ?_)
 case az2 => exact rfl
 case bz2 => exact rfl
 case cz2 => exact rfl
 case dz2 => exact rfl
 refine sp (OpV.move rfl) ?_
 refine Lt.ofWL.orQ 24 28 27 (p := ?pz3) (rest := ?qz3) (B := q1_20) rfl (fun hz => orO_t e1_20 hz) ?Tz3 ?Fz3 ?az3 ?bz3 ?cz3 ?dz3 ?ez3
 case Tz3 =>
  intro hcz3 hkz3
  refine sk ?_
  refine sk ?_
  refine sk ?_
  refine hkz3 _ ?_
  repeat (first | exact Sub.refl _ | refine Sub.skip rfl ?_)
 case Fz3 =>
  intro hcz3 hkz3
  have hqz3 := orO_f e1_20 hcz3
  obtain ⟨x1_18, e1_18, hqz3⟩ := bnd hqz3
  obtain rfl := Option.some.inj hqz3
  refine sp (OpV.move rfl) ?_
  refine sp (OpV.call (evs.cons rfl (evs.cons rfl (evs.cons rfl (evs.nil)))) ca_41 (fun w hs => w_spec_l01In e1_18)) ?_
  refine sp (OpV.not rfl) ?_
  refine hkz3 _ ?_ ?_
  exact rfl
  repeat (first | exact Sub.refl _ | refine Sub.skip rfl ?_)
 case az3 => exact rfl
 case bz3 => exact rfl
 case cz3 => exact rfl
 case dz3 => exact rfl
 refine sp (OpV.move rfl) ?_
 refine Lt.ofWL.orQ 29 33 32 (p := ?pz4) (rest := ?qz4) (B := q1_25) rfl (fun hz => orO_t e1_25 hz) ?Tz4 ?Fz4 ?az4 ?bz4 ?cz4 ?dz4 ?ez4
 case Tz4 =>
  intro hcz4 hkz4
  refine sk ?_
  refine sk ?_
  refine sk ?_
  refine hkz4 _ ?_
  repeat (first | exact Sub.refl _ | refine Sub.skip rfl ?_)
 case Fz4 =>
  intro hcz4 hkz4
  have hqz4 := orO_f e1_25 hcz4
  obtain ⟨x1_23, e1_23, hqz4⟩ := bnd hqz4
  obtain rfl := Option.some.inj hqz4
  refine sp (OpV.move rfl) ?_
  refine sp (OpV.call (evs.cons rfl (evs.cons rfl (evs.cons rfl (evs.nil)))) ca_41 (fun w hs => w_spec_l01In e1_23)) ?_
  refine sp (OpV.not rfl) ?_
  refine hkz4 _ ?_ ?_
  exact rfl
  repeat (first | exact Sub.refl _ | refine Sub.skip rfl ?_)
 case az4 => exact rfl
 case bz4 => exact rfl
 case cz4 => exact rfl
 case dz4 => exact rfl
 refine WL.nil (En.next ?_)
 refine WC.cond rfl ?_ ?_
 ·
  intro hc_1
  replace h := ifO_t hc_1 h
  refine WC.seq (WC.region ?_)
  refine sp (OpV.assign rfl) ?_
  refine WL.nil (En.next (WC.ret (En.then_ret ?_)))
  refine En.ret1 rfl (Res.tmp rfl) ?_
  obtain rfl := Option.some.inj h
  intro w' hs
  exact ⟨rfl, hs.below⟩
 ·
  intro hc_1
  replace h := ifO_f hc_1 h
  refine WC.skip (En.next (WC.seq (WC.region ?_)))
  refine sp (OpV.move rfl) ?_
  refine sp (OpV.fieldAddr rfl fo_26_0) ?_
  refine sp (OpV.loadBox rfl pt_3 (.head _) rfl) ?_
  refine sp (OpV.mulR rfl rfl) ?_
  refine sp (OpV.move rfl) ?_
  refine sp (OpV.fieldAddr rfl fo_26_1) ?_
  refine sp (OpV.loadBox rfl pt_3 (.head _) rfl) ?_
  refine sp (OpV.mulR rfl rfl) ?_
  refine sp (OpV.fieldAddr rfl fo_26_2) ?_
  refine sp (OpV.loadBox rfl pt_3 (.head _) rfl) ?_
  refine sp (OpV.mulR rfl rfl) ?_
  refine sp (OpV.subR rfl rfl) ?_
  refine sp (OpV.assign rfl) ?_
  refine WL.nil (En.next (WC.seq (WC.region ?_)))
  refine sp (OpV.move rfl) ?_
  refine sp (OpV.move rfl) ?_
  refine sp (OpV.negR rfl) ?_
  refine sp (OpV.max2 rfl rfl) ?_
  refine sp (OpV.assign rfl) ?_
  refine WL.nil (En.next (WC.ret ?_))
  refine En.ret1 rfl (Res.tmp rfl) ?_
  obtain rfl := Option.some.inj h
  intro w' hs
  exact ⟨rfl, hs.below⟩

theorem w_spec_Closer {a_p0 : DividerT} {b_p1 : DividerT} {reference_p2 : Int} {target_p3 : Int} {r : Bool}  (h : spec_Closer a_p0 b_p1 reference_p2 target_p3 = some r) {w : World}    :
    Calls Try.prog 42 #[.agg #[.int .i64 a_p0.N, .int .i64 a_p0.M, .int .i64 a_p0.P], .agg #[.int .i64 b_p1.N, .int .i64 b_p1.M, .int .i64 b_p1.P], .int .i64 reference_p2, .int .i64 target_p3] w (fun en w' => en = .returned (.bool r) ∧ Ext w w') := by
 unfold spec_Closer at h
 refine enter (vs := [_, _, _, _]) Try.func42 rfl rfl rfl rfl ?_
 refine WC.seq (WC.region ?_)
 refine WL.heavy rfl rfl rfl (OpH.box rfl rfl ?_)
 intro b0_0
 refine WL.heavy rfl rfl rfl (OpH.box rfl rfl ?_)
 intro b0_1
 refine sp (OpV.assign rfl) ?_
 refine WL.nil (En.next (WC.seq ?_))
 obtain ⟨x1_3, e1_3, h⟩ := bnd h
 refine WC.region ?_
 refine sp (OpV.loadAll rfl (.tail _ (.head _)) ag_26) ?_
 refine sp (OpV.move rfl) ?_
 refine sp (OpV.move rfl) ?_
 refine sp (OpV.call (evs.cons rfl (evs.cons rfl (evs.cons rfl (evs.nil)))) ca_17 (fun w hs => w_spec_ErrorOf e1_3)) ?_
 refine sp (OpV.assign rfl) ?_
 refine WL.nil (En.next (WC.seq ?_))
 obtain ⟨x2_3, e2_3, h⟩ := bnd h
 refine WC.region ?_
 refine sp (OpV.loadAll rfl (.head _) ag_26) ?_
 refine sp (OpV.move rfl) ?_
 refine sp (OpV.move rfl) ?_
 refine sp (OpV.call (evs.cons rfl (evs.cons rfl (evs.cons rfl (evs.nil)))) ca_17 (fun w hs => w_spec_ErrorOf e2_3)) ?_
 refine sp (OpV.assign rfl) ?_
 refine WL.nil (En.next (WC.seq (WC.region ?_)))
 refine sp (OpV.move rfl) ?_
 refine sp (OpV.geq rfl rfl) ?_
 refine sp (OpV.move rfl) ?_
 refine Lt.ofWL.and 21 24 23 (p := ?pz1) (rest := ?qz1) (B := ?Bz1) rfl ?Tz1 ?Fz1 ?az1 ?bz1 ?cz1 ?dz1 ?ez1
 case Tz1 =>
  intro hcz1 hkz1
  refine sp (OpV.move rfl) ?_
  refine sp (OpV.geq rfl rfl) ?_
  refine hkz1 _ ?_ ?_
  exact rfl
  repeat (first | exact Sub.refl _ | refine Sub.skip rfl ?_)
 case Fz1 =>
  intro hcz1 hkz1
  refine sk ?_
  refine sk ?_
  refine hkz1 _ ?_
  repeat (first | exact Sub.refl _ | refine Sub.skip rfl ?_)
 case az1 => exact rfl
 case bz1 => exact rfl
 case cz1 => exact rfl
 case dz1 => exact rfl
 refine sp (OpV.move rfl) ?_
 refine Lt.ofWL.and 25 41 40 (p := ?pz2) (rest := ?qz2) (B := ?Bz2) rfl ?Tz2 ?Fz2 ?az2 ?bz2 ?cz2 ?dz2 ?ez2
 case Tz2 =>
  intro hcz2 hkz2
  refine sp (OpV.move rfl) ?_
  refine sp (OpV.fieldAddr rfl fo_26_1) ?_
  refine sp (OpV.loadBox rfl pt_3 (.head _) rfl) ?_
  refine sp (OpV.mulR rfl rfl) ?_
  refine sp (OpV.fieldAddr rfl fo_26_2) ?_
  refine sp (OpV.loadBox rfl pt_3 (.head _) rfl) ?_
  refine sp (OpV.mulR rfl rfl) ?_
  refine sp (OpV.move rfl) ?_
  refine sp (OpV.fieldAddr rfl fo_26_1) ?_
  refine sp (OpV.loadBox rfl pt_3 (.tail _ (.head _)) rfl) ?_
  refine sp (OpV.mulR rfl rfl) ?_
  refine sp (OpV.fieldAddr rfl fo_26_2) ?_
  refine sp (OpV.loadBox rfl pt_3 (.tail _ (.head _)) rfl) ?_
  refine sp (OpV.mulR rfl rfl) ?_
  refine sp (OpV.lss rfl rfl) ?_
  refine hkz2 _ ?_ ?_
  exact rfl
  repeat (first | exact Sub.refl _ | refine Sub.skip rfl ?_)
 case Fz2 =>
  intro hcz2 hkz2
  refine sk ?_
  refine sk ?_
  refine sk ?_
  refine sk ?_
  refine sk ?_
  refine sk ?_
  refine sk ?_
  refine sk ?_
  refine sk ?_
  refine sk ?_
  refine sk ?_
  refine sk ?_
  refine sk ?_
  refine sk ?_
  refine sk ?_
  refine hkz2 _ ?_
  repeat (first | exact Sub.refl _ | refine Sub.skip rfl ?_)
 case az2 => exact rfl
 case bz2 => exact rfl
 case cz2 => exact rfl
 case dz2 => exact rfl
 refine sp (OpV.assign rfl) ?_
 refine WL.nil (En.next (WC.ret ?_))
 refine En.ret1 rfl (Res.tmp rfl) ?_
 obtain rfl := Option.some.inj h
 intro w' hs
 exact ⟨rfl, hs.below⟩

theorem w_spec_BestDivider {reference_p0 : Int} {target_p1 : Int} {low_p2 : Int} {high_p3 : Int} {r : DividerT × Bool}  (h : spec_BestDivider reference_p0 target_p1 low_p2 high_p3 = some r) {w : World}    :
    Calls Try.prog 15 #[.int .i64 reference_p0, .int .i64 target_p1, .int .i64 low_p2, .int .i64 high_p3] w (fun en w' => en = .returned (.tuple #[.agg #[.int .i64 r.1.N, .int .i64 r.1.M, .int .i64 r.1.P], .bool r.2]) ∧ Ext w w') := by
 unfold spec_BestDivider at h
 refine enter (vs := [_, _, _, _]) Try.func15 rfl rfl rfl rfl ?_
 refine WC.seq (WC.region ?_)
 refine WL.heavy rfl rfl rfl (OpH.alloc zc_26 ?_)
 intro b0_0
 refine sp (OpV.assign rfl) ?_
 refine WL.nil (En.next (WC.seq (WC.region ?_)))
 refine sp (OpV.build (evps.nil) bd_26_) ?_
 refine WL.heavy rfl rfl rfl (OpH.alloc zc_26 ?_)
 intro b1_1
 refine WL.heavy0 rfl rfl (OpH.storeTo (A := []) [_, _, _] rfl rfl rfl ts_26 rfl rfl rfl ?_)
 refine WL.nil (En.next (WC.seq (WC.region ?_)))
 refine sp (OpV.assign rfl) ?_
 refine WL.nil (En.next (WC.seq (WC.seq (WC.region ?_))))
 refine sp (OpV.assign rfl) ?_
 refine WL.nil (En.next (WC.block ?_))
 obtain ⟨zy0, ezy0, h⟩ := bnd h
 refine WC.cut (X := (DividerT × Bool) × (Unit)) (.exit 0) (fun x => zy0 = x.1) (fun x => match x with | ((best_0e, found_0e), ()) => [(8, .pointer (some ⟨b0_0, 0, .none⟩)), (10, .pointer (some ⟨b1_1, 0, .none⟩)), (11, .bool found_0e)]) (fun x => match x with | ((best_0e, found_0e), ()) => [Chunk.box b0_0 26 [.int .i64 0, .int .i64 0, .int .i64 0], Chunk.box b1_1 26 [.int .i64 best_0e.N, .int .i64 best_0e.M, .int .i64 best_0e.P]]) ?_ ?_
 ·
  rintro ⟨⟨best_0e, found_0e⟩, ⟨⟩⟩ hx
  replace hx : (best_0e, found_0e) = zy0 := hx.symm
  subst hx
  show En _ _ _ _ [(8, .pointer (some ⟨b0_0, 0, .none⟩)), (10, .pointer (some ⟨b1_1, 0, .none⟩)), (11, .bool found_0e)] [Chunk.box b0_0 26 [.int .i64 0, .int .i64 0, .int .i64 0], Chunk.box b1_1 26 [.int .i64 best_0e.N, .int .i64 best_0e.M, .int .i64 best_0e.P]]
  refine En.block_exit (En.next (WC.seq (WC.region ?_)))
  refine sp (OpV.loadAll rfl (.tail _ (.head _)) ag_26) ?_
  refine sp (OpV.move rfl) ?_
  refine WL.heavy0 rfl rfl (OpH.storeTo (A := []) [_, _, _] rfl rfl rfl ts_26 rfl rfl rfl ?_)
  refine sp (OpV.assign rfl) ?_
  refine WL.nil (En.next (WC.ret ?_))
  refine En.ret2 rfl (Res.cell rfl (.head _) ag_26) (Res.tmp rfl) ?_
  obtain rfl := Option.some.inj h
  intro w' hs
  exact ⟨rfl, hs.below⟩
 ·
  intro zK0_0
  refine WC.loopP (G := Unit) (fun s g => match s, g with | (best_0, found_0, m_0), () => [(0, .int .i64 reference_p0), (1, .int .i64 target_p1), (2, .int .i64 low_p2), (3, .int .i64 high_p3), (8, .pointer (some ⟨b0_0, 0, .none⟩)), (10, .pointer (some ⟨b1_1, 0, .none⟩)), (11, .bool found_0), (12, .int .i64 m_0)]) (fun s g => match s, g with | (best_0, found_0, m_0), () => [Chunk.box b0_0 26 [.int .i64 0, .int .i64 0, .int .i64 0], Chunk.box b1_1 26 [.int .i64 best_0.N, .int .i64 best_0.M, .int .i64 best_0.P]]) ((DividerT.mk 0 0 0), false, 1) () ezy0 (by exact Sub.cons rfl (Sub.cons rfl (Sub.cons rfl (Sub.cons rfl (Sub.cons rfl (Sub.cons rfl (Sub.cons rfl (Sub.cons rfl (Sub.nil _))))))))) (by exact (fun _ h => (h).perm (List.perm_middle (l₁ := [_])))) ?_
  rintro zm0 ⟨best_0, found_0, m_0⟩ ⟨⟩ zo0 zf0 zb0 ze0
  have zh0 : spec_BestDivider_L0 reference_p0 target_p1 low_p2 high_p3 best_0 found_0 m_0 = some zo0 := zf0
  unfold spec_BestDivider_L0 at zh0
  show WC _ _ _ _ _ [(0, .int .i64 reference_p0), (1, .int .i64 target_p1), (2, .int .i64 low_p2), (3, .int .i64 high_p3), (8, .pointer (some ⟨b0_0, 0, .none⟩)), (10, .pointer (some ⟨b1_1, 0, .none⟩)), (11, .bool found_0), (12, .int .i64 m_0)] [Chunk.box b0_0 26 [.int .i64 0, .int .i64 0, .int .i64 0], Chunk.box b1_1 26 [.int .i64 best_0.N, .int .i64 best_0.M, .int .i64 best_0.P]]
  refine WC.seq (WC.seq (WC.region ?_))
  refine sp (OpV.move rfl) ?_
  refine sp (OpV.leq rfl rfl) ?_
  refine WL.nil (En.next ?_)
  refine WC.cond rfl ?_ ?_
  ·
   intro hc_1
   replace zh0 := ifO_t hc_1 zh0
   refine WC.skip (En.next (WC.seq (WC.block (WC.seq (WC.region ?_)))))
   refine sp (OpV.assign rfl) ?_
   refine WL.nil (En.next (WC.block ?_))
   obtain ⟨zy1, ezy1, zh0⟩ := bnd zh0
   refine WC.cut (X := (DividerT × Bool) × (Unit)) (.exit 2) (fun x => zy1 = x.1) (fun x => match x with | ((best_1e, found_1e), ()) => [(0, .int .i64 reference_p0), (1, .int .i64 target_p1), (2, .int .i64 low_p2), (3, .int .i64 high_p3), (8, .pointer (some ⟨b0_0, 0, .none⟩)), (10, .pointer (some ⟨b1_1, 0, .none⟩)), (11, .bool found_1e), (12, .int .i64 m_0)]) (fun x => match x with | ((best_1e, found_1e), ()) => [Chunk.box b0_0 26 [.int .i64 0, .int .i64 0, .int .i64 0], Chunk.box b1_1 26 [.int .i64 best_1e.N, .int .i64 best_1e.M, .int .i64 best_1e.P]]) ?_ ?_
   ·
    rintro ⟨⟨best_1e, found_1e⟩, ⟨⟩⟩ hx
    replace hx : (best_1e, found_1e) = zy1 := hx.symm
    subst hx
    show En _ _ _ _ [(0, .int .i64 reference_p0), (1, .int .i64 target_p1), (2, .int .i64 low_p2), (3, .int .i64 high_p3), (8, .pointer (some ⟨b0_0, 0, .none⟩)), (10, .pointer (some ⟨b1_1, 0, .none⟩)), (11, .bool found_1e), (12, .int .i64 m_0)] [Chunk.box b0_0 26 [.int .i64 0, .int .i64 0, .int .i64 0], Chunk.box b1_1 26 [.int .i64 best_1e.N, .int .i64 best_1e.M, .int .i64 best_1e.P]]
    refine En.block_exit (En.block_norm (En.next (WC.region ?_)))
    refine sp (OpV.move rfl) ?_
    refine sp (OpV.addR rfl rfl) ?_
    refine sp (OpV.assign rfl) ?_
    refine WL.nil ?_
    exact En.backP zb0 zh0 () (Sub.cons rfl (Sub.cons rfl (Sub.cons rfl (Sub.cons rfl (Sub.cons rfl (Sub.cons rfl (Sub.cons rfl (Sub.cons rfl (Sub.nil _))))))))) (fun _ h => h)
   ·
    intro zK1_0
    refine WC.loopP (G := Unit) (fun s g => match s, g with | (best_1, found_1, p_1), () => [(0, .int .i64 reference_p0), (1, .int .i64 target_p1), (2, .int .i64 low_p2), (3, .int .i64 high_p3), (8, .pointer (some ⟨b0_0, 0, .none⟩)), (10, .pointer (some ⟨b1_1, 0, .none⟩)), (11, .bool found_1), (12, .int .i64 m_0), (13, .int .i64 p_1)]) (fun s g => match s, g with | (best_1, found_1, p_1), () => [Chunk.box b0_0 26 [.int .i64 0, .int .i64 0, .int .i64 0], Chunk.box b1_1 26 [.int .i64 best_1.N, .int .i64 best_1.M, .int .i64 best_1.P]]) (best_0, found_0, 1) () ezy1 (by exact Sub.cons rfl (Sub.cons rfl (Sub.cons rfl (Sub.cons rfl (Sub.cons rfl (Sub.cons rfl (Sub.cons rfl (Sub.cons rfl (Sub.cons rfl (Sub.nil _)))))))))) (by exact (fun _ h => h)) ?_
    rintro zm1 ⟨best_1, found_1, p_1⟩ ⟨⟩ zo1 zf1 zb1 ze1
    have zh1 : spec_BestDivider_L1 reference_p0 target_p1 low_p2 high_p3 m_0 best_1 found_1 p_1 = some zo1 := zf1
    unfold spec_BestDivider_L1 at zh1
    show WC _ _ _ _ _ [(0, .int .i64 reference_p0), (1, .int .i64 target_p1), (2, .int .i64 low_p2), (3, .int .i64 high_p3), (8, .pointer (some ⟨b0_0, 0, .none⟩)), (10, .pointer (some ⟨b1_1, 0, .none⟩)), (11, .bool found_1), (12, .int .i64 m_0), (13, .int .i64 p_1)] [Chunk.box b0_0 26 [.int .i64 0, .int .i64 0, .int .i64 0], Chunk.box b1_1 26 [.int .i64 best_1.N, .int .i64 best_1.M, .int .i64 best_1.P]]
    refine WC.seq (WC.seq (WC.region ?_))
    refine sp (OpV.move rfl) ?_
    refine sp (OpV.leq rfl rfl) ?_
    refine WL.nil (En.next ?_)
    refine WC.cond rfl ?_ ?_
    ·
     intro hc_2
     replace zh1 := ifO_t hc_2 zh1
     refine WC.skip (En.next (WC.seq (WC.block (WC.seq (WC.region ?_)))))
     refine sp (OpV.assign rfl) ?_
     refine WL.nil (En.next (WC.block ?_))
     obtain ⟨zy2, ezy2, zh1⟩ := bnd zh1
     refine WC.cut (X := (DividerT × Bool) × (Unit)) (.exit 4) (fun x => zy2 = x.1) (fun x => match x with | ((best_2e, found_2e), ()) => [(0, .int .i64 reference_p0), (1, .int .i64 target_p1), (2, .int .i64 low_p2), (3, .int .i64 high_p3), (8, .pointer (some ⟨b0_0, 0, .none⟩)), (10, .pointer (some ⟨b1_1, 0, .none⟩)), (11, .bool found_2e), (12, .int .i64 m_0), (13, .int .i64 p_1)]) (fun x => match x with | ((best_2e, found_2e), ()) => [Chunk.box b0_0 26 [.int .i64 0, .int .i64 0, .int .i64 0], Chunk.box b1_1 26 [.int .i64 best_2e.N, .int .i64 best_2e.M, .int .i64 best_2e.P]]) ?_ ?_
     ·
      rintro ⟨⟨best_2e, found_2e⟩, ⟨⟩⟩ hx
      replace hx : (best_2e, found_2e) = zy2 := hx.symm
      subst hx
      show En _ _ _ _ [(0, .int .i64 reference_p0), (1, .int .i64 target_p1), (2, .int .i64 low_p2), (3, .int .i64 high_p3), (8, .pointer (some ⟨b0_0, 0, .none⟩)), (10, .pointer (some ⟨b1_1, 0, .none⟩)), (11, .bool found_2e), (12, .int .i64 m_0), (13, .int .i64 p_1)] [Chunk.box b0_0 26 [.int .i64 0, .int .i64 0, .int .i64 0], Chunk.box b1_1 26 [.int .i64 best_2e.N, .int .i64 best_2e.M, .int .i64 best_2e.P]]
      refine En.block_exit (En.block_norm (En.next (WC.region ?_)))
      refine sp (OpV.move rfl) ?_
      refine sp (OpV.mulR rfl rfl) ?_
      refine sp (OpV.assign rfl) ?_
      refine WL.nil ?_
      exact En.backP zb1 zh1 () (Sub.cons rfl (Sub.cons rfl (Sub.cons rfl (Sub.cons rfl (Sub.cons rfl (Sub.cons rfl (Sub.cons rfl (Sub.cons rfl (Sub.cons rfl (Sub.nil _)))))))))) (fun _ h => h)
     ·
      intro zK2_0
      refine WC.loopP (G := Unit) (fun s g => match s, g with | (best_2, found_2, n_2), () => [(0, .int .i64 reference_p0), (1, .int .i64 target_p1), (2, .int .i64 low_p2), (3, .int .i64 high_p3), (8, .pointer (some ⟨b0_0, 0, .none⟩)), (10, .pointer (some ⟨b1_1, 0, .none⟩)), (11, .bool found_2), (12, .int .i64 m_0), (13, .int .i64 p_1), (14, .int .i64 n_2)]) (fun s g => match s, g with | (best_2, found_2, n_2), () => [Chunk.box b0_0 26 [.int .i64 0, .int .i64 0, .int .i64 0], Chunk.box b1_1 26 [.int .i64 best_2.N, .int .i64 best_2.M, .int .i64 best_2.P]]) (best_1, found_1, 4) () ezy2 (by exact Sub.cons rfl (Sub.cons rfl (Sub.cons rfl (Sub.cons rfl (Sub.cons rfl (Sub.cons rfl (Sub.cons rfl (Sub.cons rfl (Sub.cons rfl (Sub.cons rfl (Sub.nil _))))))))))) (by exact (fun _ h => h)) ?_
      rintro zm2 ⟨best_2, found_2, n_2⟩ ⟨⟩ zo2 zf2 zb2 ze2
      have zh2 : spec_BestDivider_L2 reference_p0 target_p1 low_p2 high_p3 m_0 p_1 best_2 found_2 n_2 = some zo2 := zf2
      unfold spec_BestDivider_L2 at zh2
      show WC _ _ _ _ _ [(0, .int .i64 reference_p0), (1, .int .i64 target_p1), (2, .int .i64 low_p2), (3, .int .i64 high_p3), (8, .pointer (some ⟨b0_0, 0, .none⟩)), (10, .pointer (some ⟨b1_1, 0, .none⟩)), (11, .bool found_2), (12, .int .i64 m_0), (13, .int .i64 p_1), (14, .int .i64 n_2)] [Chunk.box b0_0 26 [.int .i64 0, .int .i64 0, .int .i64 0], Chunk.box b1_1 26 [.int .i64 best_2.N, .int .i64 best_2.M, .int .i64 best_2.P]]
      refine WC.seq (WC.seq (WC.region ?_))
      refine sp (OpV.move rfl) ?_
      refine sp (OpV.leq rfl rfl) ?_
      refine WL.nil (En.next ?_)
      refine WC.cond rfl ?_ ?_
      ·
       intro hc_3
       replace zh2 := ifO_t hc_3 zh2
       refine WC.skip (En.next (WC.seq ?_))
       obtain ⟨zy3, ej3, zh2⟩ := bnd zh2
       refine WC.cut (X := (DividerT × Bool) × (Unit)) .normal (fun x => zy3 = x.1) (fun x => match x with | ((best_3j, found_3j), ()) => [(0, .int .i64 reference_p0), (1, .int .i64 target_p1), (2, .int .i64 low_p2), (3, .int .i64 high_p3), (8, .pointer (some ⟨b0_0, 0, .none⟩)), (10, .pointer (some ⟨b1_1, 0, .none⟩)), (11, .bool found_3j), (12, .int .i64 m_0), (13, .int .i64 p_1), (14, .int .i64 n_2)]) (fun x => match x with | ((best_3j, found_3j), ()) => [Chunk.box b0_0 26 [.int .i64 0, .int .i64 0, .int .i64 0], Chunk.box b1_1 26 [.int .i64 best_3j.N, .int .i64 best_3j.M, .int .i64 best_3j.P]]) ?_ ?_
       ·
        rintro ⟨⟨best_3j, found_3j⟩, ⟨⟩⟩ hx
        replace hx : (best_3j, found_3j) = zy3 := hx.symm
        subst hx
        show En _ _ _ _ [(0, .int .i64 reference_p0), (1, .int .i64 target_p1), (2, .int .i64 low_p2), (3, .int .i64 high_p3), (8, .pointer (some ⟨b0_0, 0, .none⟩)), (10, .pointer (some ⟨b1_1, 0, .none⟩)), (11, .bool found_3j), (12, .int .i64 m_0), (13, .int .i64 p_1), (14, .int .i64 n_2)] [Chunk.box b0_0 26 [.int .i64 0, .int .i64 0, .int .i64 0], Chunk.box b1_1 26 [.int .i64 best_3j.N, .int .i64 best_3j.M, .int .i64 best_3j.P]]
        refine En.next (WC.region ?_)
        refine sp (OpV.move rfl) ?_
        refine sp (OpV.addR rfl rfl) ?_
        refine sp (OpV.assign rfl) ?_
        refine WL.nil ?_
        exact En.backP zb2 zh2 () (Sub.cons rfl (Sub.cons rfl (Sub.cons rfl (Sub.cons rfl (Sub.cons rfl (Sub.cons rfl (Sub.cons rfl (Sub.cons rfl (Sub.cons rfl (Sub.cons rfl (Sub.nil _))))))))))) (fun _ h => h)
       ·
        intro zK3
        refine WC.block (WC.seq (WC.region ?_))
        refine sp (OpV.move rfl) ?_
        refine sp (OpV.move rfl) ?_
        refine sp (OpV.move rfl) ?_
        refine sp (OpV.build (evps.cons rfl (evps.cons rfl (evps.cons rfl (evps.nil)))) (bd_26_0_1_2 _ _ _)) ?_
        refine WL.heavy rfl rfl rfl (OpH.alloc zc_26 ?_)
        intro b12_4
        refine WL.heavy0 rfl rfl (OpH.storeTo (A := []) [_, _, _] rfl rfl rfl ts_26 rfl rfl rfl ?_)
        refine WL.nil (En.next (WC.seq ?_))
        obtain ⟨x13_4, e13_4, ej3⟩ := bnd ej3
        obtain ⟨q13_8, e13_8, ej3⟩ := bnd ej3
        obtain ⟨q13_19, e13_19, ej3⟩ := bnd ej3
        refine WC.region ?_
        refine sp (OpV.loadAll rfl (.head _) ag_26) ?_
        refine sp (OpV.move rfl) ?_
        refine sp (OpV.move rfl) ?_
        refine sp (OpV.move rfl) ?_
        refine sp (OpV.call (evs.cons rfl (evs.cons rfl (evs.cons rfl (evs.cons rfl (evs.nil))))) ca_40 (fun w hs => w_spec_DividerOk e13_4)) ?_
        refine sp (OpV.move rfl) ?_
        refine Lt.ofWL.andQ 38 41 40 (p := ?pz1) (rest := ?qz1) (B := q13_8) rfl (fun hz => andO_f e13_8 hz) ?Tz1 ?Fz1 ?az1 ?bz1 ?cz1 ?dz1 ?ez1
        case Tz1 =>
         intro hcz1 hkz1
         have hqz1 := andO_t e13_8 hcz1
         obtain ⟨x13_7, e13_7, hqz1⟩ := bnd hqz1
         obtain rfl := Option.some.inj hqz1
         refine sp (OpV.move rfl) ?_
         refine sp (OpV.call (evs.cons rfl (evs.cons rfl (evs.cons rfl (evs.nil)))) ca_41 (fun w hs => w_spec_l01In e13_7)) ?_
         refine hkz1 _ ?_ ?_
         exact rfl
         repeat (first | exact Sub.refl _ | refine Sub.skip rfl ?_)
        case Fz1 =>
         intro hcz1 hkz1
         refine sk ?_
         refine sk ?_
         refine hkz1 _ ?_
         repeat (first | exact Sub.refl _ | refine Sub.skip rfl ?_)
        case az1 => exact rfl
        case bz1 => exact rfl
        case cz1 => exact rfl
        case dz1 => exact rfl
        refine sp (OpV.move rfl) ?_
        refine Lt.ofWL.andQ 42 52 51 (p := ?pz2) (rest := ?qz2) (B := q13_19) rfl (fun hz => andO_f e13_19 hz) ?Tz2 ?Fz2 ?az2 ?bz2 ?cz2 ?dz2 ?ez2
        case Tz2 =>
         intro hcz2 hkz2
         have hqz2 := andO_t e13_19 hcz2
         obtain ⟨q13_18, e13_18, hqz2⟩ := bnd hqz2
         obtain rfl := Option.some.inj hqz2
         refine sp (OpV.move rfl) ?_
         refine sp (OpV.not rfl) ?_
         refine sp (OpV.move rfl) ?_
         refine Lt.ofWL.orQ 45 51 50 (p := ?pz3) (rest := ?qz3) (B := q13_18) rfl (fun hz => orO_t e13_18 hz) ?Tz3 ?Fz3 ?az3 ?bz3 ?cz3 ?dz3 ?ez3
         case Tz3 =>
          intro hcz3 hkz3
          refine sk ?_
          refine sk ?_
          refine sk ?_
          refine sk ?_
          refine sk ?_
          refine hkz3 _ ?_
          repeat (first | exact Sub.refl _ | refine Sub.skip rfl ?_)
         case Fz3 =>
          intro hcz3 hkz3
          have hqz3 := orO_f e13_18 hcz3
          obtain ⟨x13_17, e13_17, hqz3⟩ := bnd hqz3
          obtain rfl := Option.some.inj hqz3
          refine sp (OpV.loadAll rfl (.head _) ag_26) ?_
          refine sp (OpV.loadAll rfl (.tail _ (.tail _ (.head _))) ag_26) ?_
          refine sp (OpV.move rfl) ?_
          refine sp (OpV.move rfl) ?_
          refine sp (OpV.call (evs.cons rfl (evs.cons rfl (evs.cons rfl (evs.cons rfl (evs.nil))))) ca_42 (fun w hs => w_spec_Closer e13_17)) ?_
          refine hkz3 _ ?_ ?_
          exact rfl
          repeat (first | exact Sub.refl _ | refine Sub.skip rfl ?_)
         case az3 => exact rfl
         case bz3 => exact rfl
         case cz3 => exact rfl
         case dz3 => exact rfl
         refine hkz2 _ ?_ ?_
         exact rfl
         repeat (first | exact Sub.refl _ | refine Sub.skip rfl ?_)
        case Fz2 =>
         intro hcz2 hkz2
         refine sk ?_
         refine sk ?_
         refine sk ?_
         refine sk ?_
         refine sk ?_
         refine sk ?_
         refine sk ?_
         refine sk ?_
         refine sk ?_
         refine hkz2 _ ?_
         repeat (first | exact Sub.refl _ | refine Sub.skip rfl ?_)
        case az2 => exact rfl
        case bz2 => exact rfl
        case cz2 => exact rfl
        case dz2 => exact rfl
        refine WL.nil (En.next ?_)
        refine WC.cond rfl ?_ ?_
        ·
         intro hc_4
         replace ej3 := ifO_t hc_4 ej3
         refine WC.seq (WC.region ?_)
         refine sp (OpV.loadAll rfl (.head _) ag_26) ?_
         refine WL.heavy0 rfl rfl (OpH.storeTo (A := [_, _]) [_, _, _] rfl rfl rfl ts_26 rfl rfl rfl ?_)
         refine WL.nil (En.next (WC.region ?_))
         refine sp (OpV.assign rfl) ?_
         refine WL.nil (En.block_norm ?_)
         exact En.wk _ _ (Sub.cons rfl (Sub.cons rfl (Sub.cons rfl (Sub.cons rfl (Sub.cons rfl (Sub.cons rfl (Sub.cons rfl (Sub.cons rfl (Sub.cons rfl (Sub.cons rfl (Sub.nil _))))))))))) (fun _ h => (((h).perm (List.perm_middle (l₁ := [_, _]))).perm (List.perm_middle (l₁ := [_, _]))).sub (.cons_cons _ (.cons_cons _ (.cons _ (.slnil))))) (zK3 (((DividerT.mk n_2 m_0 p_1), true), ()) (Option.some.inj ej3).symm)
        ·
         intro hc_4
         replace ej3 := ifO_f hc_4 ej3
         refine WC.skip (En.block_norm ?_)
         exact En.wk _ _ (Sub.cons rfl (Sub.cons rfl (Sub.cons rfl (Sub.cons rfl (Sub.cons rfl (Sub.cons rfl (Sub.cons rfl (Sub.cons rfl (Sub.cons rfl (Sub.cons rfl (Sub.nil _))))))))))) (fun _ h => (((h).perm (List.perm_middle (l₁ := [_, _]))).perm (List.perm_middle (l₁ := [_, _]))).sub (.cons_cons _ (.cons_cons _ (.cons _ (.slnil))))) (zK3 ((best_2, found_2), ()) (Option.some.inj ej3).symm)
      ·
       intro hc_3
       replace zh2 := ifO_f hc_3 zh2
       refine WC.exit (En.then_exit (En.then_exit ?_))
       have hx := exitP ze2 zh2
       exact En.wk _ _ (Sub.cons rfl (Sub.cons rfl (Sub.cons rfl (Sub.cons rfl (Sub.cons rfl (Sub.cons rfl (Sub.cons rfl (Sub.cons rfl (Sub.cons rfl (Sub.nil _)))))))))) (fun _ h => h) (zK2_0 ((best_2, found_2), ()) hx.symm)
    ·
     intro hc_2
     replace zh1 := ifO_f hc_2 zh1
     refine WC.exit (En.then_exit (En.then_exit ?_))
     have hx := exitP ze1 zh1
     exact En.wk _ _ (Sub.cons rfl (Sub.cons rfl (Sub.cons rfl (Sub.cons rfl (Sub.cons rfl (Sub.cons rfl (Sub.cons rfl (Sub.cons rfl (Sub.nil _))))))))) (fun _ h => h) (zK1_0 ((best_1, found_1), ()) hx.symm)
  ·
   intro hc_1
   replace zh0 := ifO_f hc_1 zh0
   refine WC.exit (En.then_exit (En.then_exit ?_))
   have hx := exitP ze0 zh0
   exact En.wk _ _ (Sub.cons rfl (Sub.cons rfl (Sub.cons rfl (Sub.nil _)))) (fun _ h => h) (zK0_0 ((best_0, found_0), ()) hx.symm)

theorem w_laws_FnBestClock {a_p0 : List Int} {r : Bool} {q0_0 : Option Addr} {l0_0 k0_0 : Nat} (h : laws_FnBestClock a_p0 = some r) {w : World} (r0_0 : Rd tU8 w q0_0 l0_0 k0_0 a_p0)   :
    Calls Try.prog 3 #[.slice q0_0 l0_0 k0_0] w (fun en w' => en = .returned (.bool r) ∧ Ext w w') := by
 obtain rfl := r0_0.1
 unfold laws_FnBestClock at h
 refine enter (vs := [_]) Try.func3 rfl rfl rfl rfl ?_
 refine WC.seq (WC.region ?_)
 refine sp (OpV.assign rfl) ?_
 refine WL.nil (En.next (WC.seq (WC.seq ?_)))
 obtain ⟨x1_1, e1_1, h⟩ := bnd h
 refine WC.region ?_
 refine sp (OpV.move rfl) ?_
 refine sp (OpV.call (evs.cons rfl (evs.nil)) ca_10 (fun w hs => w_laws_big e1_1 (r0_0.ext hs.below))) ?_
 refine WL.nil (En.next ?_)
 refine WC.cond rfl ?_ ?_
 ·
  intro hc_1
  replace h := ifO_t hc_1 h
  refine WC.seq (WC.region ?_)
  refine sp (OpV.assign rfl) ?_
  refine WL.nil (En.next (WC.ret (En.then_ret ?_)))
  refine En.ret1 rfl (Res.tmp rfl) ?_
  obtain rfl := Option.some.inj h
  intro w' hs
  exact ⟨rfl, hs.below⟩
 ·
  intro hc_1
  replace h := ifO_f hc_1 h
  refine WC.skip (En.next (WC.seq ?_))
  obtain ⟨x3_1, e3_1, h⟩ := bnd h
  refine WC.region ?_
  refine sp (OpV.move rfl) ?_
  refine sp (OpV.call (evs.cons rfl (evs.cons rfl (evs.nil))) ca_11 (fun w hs => w_laws_at e3_1 (r0_0.ext hs.below))) ?_
  refine sp (OpV.mulR rfl rfl) ?_
  refine sp (OpV.addR rfl rfl) ?_
  refine sp (OpV.assign rfl) ?_
  refine WL.nil (En.next (WC.seq ?_))
  obtain ⟨x4_1, e4_1, h⟩ := bnd h
  obtain ⟨x4_5, e4_5, h⟩ := bnd h
  refine WC.region ?_
  refine sp (OpV.move rfl) ?_
  refine sp (OpV.call (evs.cons rfl (evs.cons rfl (evs.nil))) ca_11 (fun w hs => w_laws_at e4_1 (r0_0.ext hs.below))) ?_
  refine sp (OpV.mulR rfl rfl) ?_
  refine sp (OpV.addR rfl rfl) ?_
  refine sp (OpV.move rfl) ?_
  refine sp (OpV.call (evs.cons rfl (evs.cons rfl (evs.nil))) ca_11 (fun w hs => w_laws_at e4_5 (r0_0.ext hs.below))) ?_
  refine sp (OpV.addR rfl rfl) ?_
  refine sp (OpV.assign rfl) ?_
  refine WL.nil (En.next (WC.seq ?_))
  obtain ⟨x5_1, e5_1, h⟩ := bnd h
  refine WC.region ?_
  refine sp (OpV.move rfl) ?_
  refine sp (OpV.call (evs.cons rfl (evs.cons rfl (evs.nil))) ca_11 (fun w hs => w_laws_at e5_1 (r0_0.ext hs.below))) ?_
  refine sp (OpV.addR rfl rfl) ?_
  refine sp (OpV.assign rfl) ?_
  refine WL.nil (En.next (WC.seq ?_))
  obtain ⟨x6_1, e6_1, h⟩ := bnd h
  refine WC.region ?_
  refine sp (OpV.move rfl) ?_
  refine sp (OpV.call (evs.cons rfl (evs.cons rfl (evs.nil))) ca_11 (fun w hs => w_laws_at e6_1 (r0_0.ext hs.below))) ?_
  refine sp (OpV.mulR rfl rfl) ?_
  refine sp (OpV.addR rfl rfl) ?_
  refine sp (OpV.assign rfl) ?_
  refine WL.nil (En.next (WC.seq ?_))
  obtain ⟨⟨x7_4a, x7_4b⟩, e7_4, h⟩ := bnd h
  refine WC.region ?_
  refine sp (OpV.move rfl) ?_
  refine sp (OpV.move rfl) ?_
  refine sp (OpV.move rfl) ?_
  refine sp (OpV.move rfl) ?_
  refine sp (OpV.call (evs.cons rfl (evs.cons rfl (evs.cons rfl (evs.cons rfl (evs.nil))))) ca_12 (fun w hs => w_impl_BestDivider e7_4)) ?_
  refine sp (OpV.move rfl) ?_
  refine sp (OpV.extract rfl rfl) ?_
  refine sp (OpV.extract rfl rfl) ?_
  refine WL.heavy rfl rfl rfl (OpH.alloc zc_26 ?_)
  intro b7_8
  refine WL.heavy0 rfl rfl (OpH.storeTo (A := []) [_, _, _] rfl rfl rfl ts_26 rfl rfl rfl ?_)
  refine sp (OpV.assign rfl) ?_
  refine WL.nil (En.next (WC.seq (WC.seq (WC.region ?_))))
  refine sp (OpV.assign rfl) ?_
  refine WL.nil (En.next (WC.block ?_))
  obtain ⟨zy0, ezy0, h⟩ := bnd h
  refine WC.cut (X := (Unit) × (Unit)) (.exit 0) (fun x => zy0 = .inl x.1) (fun x => match x with | ((), ()) => [(3, .int .i64 (wr (1 + (wr (x3_1 * 12))))), (4, .int .i64 (wr ((wr (1 + (wr (x4_1 * 20)))) + x4_5))), (5, .int .i64 (wr (1 + x5_1))), (6, .int .i64 (wr (400 + (wr (x6_1 * 40))))), (7, .pointer (some ⟨b7_8, 0, .none⟩)), (8, .bool x7_4b)]) (fun x => match x with | ((), ()) => [Chunk.box b7_8 26 [.int .i64 x7_4a.N, .int .i64 x7_4a.M, .int .i64 x7_4a.P]]) ?_ ?_
  ·
   rintro ⟨⟨⟩, ⟨⟩⟩ hx
   replace hx : .inl () = zy0 := hx.symm
   subst hx
   replace h := fork_l h
   show En _ _ _ _ [(3, .int .i64 (wr (1 + (wr (x3_1 * 12))))), (4, .int .i64 (wr ((wr (1 + (wr (x4_1 * 20)))) + x4_5))), (5, .int .i64 (wr (1 + x5_1))), (6, .int .i64 (wr (400 + (wr (x6_1 * 40))))), (7, .pointer (some ⟨b7_8, 0, .none⟩)), (8, .bool x7_4b)] [Chunk.box b7_8 26 [.int .i64 x7_4a.N, .int .i64 x7_4a.M, .int .i64 x7_4a.P]]
   refine En.block_exit (En.next (WC.seq ?_))
   obtain ⟨⟨x14_4a, x14_4b⟩, e14_4, h⟩ := bnd h
   refine WC.region ?_
   refine sp (OpV.move rfl) ?_
   refine sp (OpV.move rfl) ?_
   refine sp (OpV.move rfl) ?_
   refine sp (OpV.move rfl) ?_
   refine sp (OpV.call (evs.cons rfl (evs.cons rfl (evs.cons rfl (evs.cons rfl (evs.nil))))) ca_15 (fun w hs => w_spec_BestDivider e14_4)) ?_
   refine sp (OpV.move rfl) ?_
   refine sp (OpV.extract rfl rfl) ?_
   refine sp (OpV.extract rfl rfl) ?_
   refine WL.heavy rfl rfl rfl (OpH.alloc zc_26 ?_)
   intro b14_8
   refine WL.heavy0 rfl rfl (OpH.storeTo (A := []) [_, _, _] rfl rfl rfl ts_26 rfl rfl rfl ?_)
   refine sp (OpV.assign rfl) ?_
   refine WL.nil (En.next (WC.seq ?_))
   obtain ⟨q15_18, e15_18, h⟩ := bnd h
   obtain ⟨q15_33, e15_33, h⟩ := bnd h
   refine WC.drawn [(2, ?r15v2)] (by kernel_rfl) (by kernel_rfl) ?dH15 ?dK15
   case dH15 =>
    intro W hW hk
    refine hW.step rfl rfl rfl (OpV.move rfl) ?_
    refine hW.step rfl rfl rfl (OpV.move rfl) ?_
    refine hW.step rfl rfl rfl (OpV.beql rfl rfl ub_4) ?_
    refine hW.step rfl rfl rfl (OpV.move rfl) ?_
    refine hW.and 90 94 93 (p := ?pz1) (rest := ?qz1) (B := ?Bz1) rfl ?Tz1 ?Fz1 ?az1 ?bz1 ?cz1 ?dz1 ?ez1
    case Tz1 =>
     intro hcz1 hkz1
     refine hW.step rfl rfl rfl (OpV.loadAll rfl (.tail _ (.head _)) ag_26) ?_
     refine hW.step rfl rfl rfl (OpV.loadAll rfl (.head _) ag_26) ?_
     refine hW.step rfl rfl rfl (OpV.aeql rfl rfl eg_26 (fun w => aeq_26 w)) ?_
     refine hkz1 _ ?_ ?_
     exact rfl
     repeat (first | exact Sub.refl _ | refine Sub.skip rfl ?_)
    case Fz1 =>
     intro hcz1 hkz1
     refine hW.skip rfl rfl rfl ?_
     refine hW.skip rfl rfl rfl ?_
     refine hW.skip rfl rfl rfl ?_
     refine hkz1 _ ?_
     repeat (first | exact Sub.refl _ | refine Sub.skip rfl ?_)
    case az1 => exact rfl
    case bz1 => exact rfl
    case cz1 => exact rfl
    case dz1 => exact rfl
    refine hW.step rfl rfl rfl (OpV.move rfl) ?_
    refine hW.andQ 95 105 104 (p := ?pz2) (rest := ?qz2) (B := q15_18) rfl (fun hz => andO_f e15_18 hz) ?Tz2 ?Fz2 ?az2 ?bz2 ?cz2 ?dz2 ?ez2
    case Tz2 =>
     intro hcz2 hkz2
     have hqz2 := andO_t e15_18 hcz2
     obtain ⟨q15_17, e15_17, hqz2⟩ := bnd hqz2
     obtain rfl := Option.some.inj hqz2
     refine hW.step rfl rfl rfl (OpV.move rfl) ?_
     refine hW.step rfl rfl rfl (OpV.not rfl) ?_
     refine hW.step rfl rfl rfl (OpV.move rfl) ?_
     refine hW.orQ 98 104 103 (p := ?pz3) (rest := ?qz3) (B := q15_17) rfl (fun hz => orO_t e15_17 hz) ?Tz3 ?Fz3 ?az3 ?bz3 ?cz3 ?dz3 ?ez3
     case Tz3 =>
      intro hcz3 hkz3
      refine hW.skip rfl rfl rfl ?_
      refine hW.skip rfl rfl rfl ?_
      refine hW.skip rfl rfl rfl ?_
      refine hW.skip rfl rfl rfl ?_
      refine hW.skip rfl rfl rfl ?_
      refine hkz3 _ ?_
      repeat (first | exact Sub.refl _ | refine Sub.skip rfl ?_)
     case Fz3 =>
      intro hcz3 hkz3
      have hqz3 := orO_f e15_17 hcz3
      obtain ⟨x15_16, e15_16, hqz3⟩ := bnd hqz3
      obtain rfl := Option.some.inj hqz3
      refine hW.step rfl rfl rfl (OpV.loadAll rfl (.tail _ (.head _)) ag_26) ?_
      refine hW.step rfl rfl rfl (OpV.move rfl) ?_
      refine hW.step rfl rfl rfl (OpV.move rfl) ?_
      refine hW.step rfl rfl rfl (OpV.move rfl) ?_
      refine hW.step rfl rfl rfl (OpV.call (evs.cons rfl (evs.cons rfl (evs.cons rfl (evs.cons rfl (evs.nil))))) ca_13 (fun w hs => w_impl_DividerOk e15_16)) ?_
      refine hkz3 _ ?_ ?_
      exact rfl
      repeat (first | exact Sub.refl _ | refine Sub.skip rfl ?_)
     case az3 => exact rfl
     case bz3 => exact rfl
     case cz3 => exact rfl
     case dz3 => exact rfl
     refine hkz2 _ ?_ ?_
     exact rfl
     repeat (first | exact Sub.refl _ | refine Sub.skip rfl ?_)
    case Fz2 =>
     intro hcz2 hkz2
     refine hW.skip rfl rfl rfl ?_
     refine hW.skip rfl rfl rfl ?_
     refine hW.skip rfl rfl rfl ?_
     refine hW.skip rfl rfl rfl ?_
     refine hW.skip rfl rfl rfl ?_
     refine hW.skip rfl rfl rfl ?_
     refine hW.skip rfl rfl rfl ?_
     refine hW.skip rfl rfl rfl ?_
     refine hW.skip rfl rfl rfl ?_
     refine hkz2 _ ?_
     repeat (first | exact Sub.refl _ | refine Sub.skip rfl ?_)
    case az2 => exact rfl
    case bz2 => exact rfl
    case cz2 => exact rfl
    case dz2 => exact rfl
    refine hW.step rfl rfl rfl (OpV.move rfl) ?_
    refine hW.andQ 106 120 119 (p := ?pz4) (rest := ?qz4) (B := q15_33) rfl (fun hz => andO_f e15_33 hz) ?Tz4 ?Fz4 ?az4 ?bz4 ?cz4 ?dz4 ?ez4
    case Tz4 =>
     intro hcz4 hkz4
     have hqz4 := andO_t e15_33 hcz4
     obtain ⟨q15_32, e15_32, hqz4⟩ := bnd hqz4
     obtain rfl := Option.some.inj hqz4
     refine hW.step rfl rfl rfl (OpV.move rfl) ?_
     refine hW.step rfl rfl rfl (OpV.not rfl) ?_
     refine hW.step rfl rfl rfl (OpV.move rfl) ?_
     refine hW.orQ 109 119 118 (p := ?pz5) (rest := ?qz5) (B := q15_32) rfl (fun hz => orO_t e15_32 hz) ?Tz5 ?Fz5 ?az5 ?bz5 ?cz5 ?dz5 ?ez5
     case Tz5 =>
      intro hcz5 hkz5
      refine hW.skip rfl rfl rfl ?_
      refine hW.skip rfl rfl rfl ?_
      refine hW.skip rfl rfl rfl ?_
      refine hW.skip rfl rfl rfl ?_
      refine hW.skip rfl rfl rfl ?_
      refine hW.skip rfl rfl rfl ?_
      refine hW.skip rfl rfl rfl ?_
      refine hW.skip rfl rfl rfl ?_
      refine hW.skip rfl rfl rfl ?_
      refine hkz5 _ ?_
      repeat (first | exact Sub.refl _ | refine Sub.skip rfl ?_)
     case Fz5 =>
      intro hcz5 hkz5
      have hqz5 := orO_f e15_32 hcz5
      obtain ⟨x15_26, e15_26, hqz5⟩ := bnd hqz5
      obtain ⟨x15_30, e15_30, hqz5⟩ := bnd hqz5
      obtain rfl := Option.some.inj hqz5
      refine hW.step rfl rfl rfl (OpV.loadAll rfl (.tail _ (.head _)) ag_26) ?_
      refine hW.step rfl rfl rfl (OpV.move rfl) ?_
      refine hW.step rfl rfl rfl (OpV.move rfl) ?_
      refine hW.step rfl rfl rfl (OpV.call (evs.cons rfl (evs.cons rfl (evs.cons rfl (evs.nil)))) ca_16 (fun w hs => w_impl_ErrorOf e15_26)) ?_
      refine hW.step rfl rfl rfl (OpV.loadAll rfl (.head _) ag_26) ?_
      refine hW.step rfl rfl rfl (OpV.move rfl) ?_
      refine hW.step rfl rfl rfl (OpV.move rfl) ?_
      refine hW.step rfl rfl rfl (OpV.call (evs.cons rfl (evs.cons rfl (evs.cons rfl (evs.nil)))) ca_17 (fun w hs => w_spec_ErrorOf e15_30)) ?_
      refine hW.step rfl rfl rfl (OpV.eql rfl rfl) ?_
      refine hkz5 _ ?_ ?_
      exact rfl
      repeat (first | exact Sub.refl _ | refine Sub.skip rfl ?_)
     case az5 => exact rfl
     case bz5 => exact rfl
     case cz5 => exact rfl
     case dz5 => exact rfl
     refine hkz4 _ ?_ ?_
     exact rfl
     repeat (first | exact Sub.refl _ | refine Sub.skip rfl ?_)
    case Fz4 =>
     intro hcz4 hkz4
     refine hW.skip rfl rfl rfl ?_
     refine hW.skip rfl rfl rfl ?_
     refine hW.skip rfl rfl rfl ?_
     refine hW.skip rfl rfl rfl ?_
     refine hW.skip rfl rfl rfl ?_
     refine hW.skip rfl rfl rfl ?_
     refine hW.skip rfl rfl rfl ?_
     refine hW.skip rfl rfl rfl ?_
     refine hW.skip rfl rfl rfl ?_
     refine hW.skip rfl rfl rfl ?_
     refine hW.skip rfl rfl rfl ?_
     refine hW.skip rfl rfl rfl ?_
     refine hW.skip rfl rfl rfl ?_
     refine hkz4 _ ?_
     repeat (first | exact Sub.refl _ | refine Sub.skip rfl ?_)
    case az4 => exact rfl
    case bz4 => exact rfl
    case cz4 => exact rfl
    case dz4 => exact rfl
    refine hW.step rfl rfl rfl (OpV.assign rfl) ?_
    refine hk _ ?_
    refine Sub.cons ?_ (Sub.nil _)
    all_goals exact rfl
   refine En.next (WC.ret ?_)
   refine En.ret1 rfl (Res.tmp rfl) ?_
   obtain rfl := Option.some.inj h
   intro w' hs
   exact ⟨rfl, hs.below⟩
  ·
   intro zK0_0
   refine WC.loopP (G := Unit) (fun s g => match s, g with | v_0, () => [(0, .slice q0_0 a_p0.length k0_0), (3, .int .i64 (wr (1 + (wr (x3_1 * 12))))), (4, .int .i64 (wr ((wr (1 + (wr (x4_1 * 20)))) + x4_5))), (5, .int .i64 (wr (1 + x5_1))), (6, .int .i64 (wr (400 + (wr (x6_1 * 40))))), (7, .pointer (some ⟨b7_8, 0, .none⟩)), (8, .bool x7_4b), (9, .int .i64 v_0)]) (fun s g => match s, g with | v_0, () => [Chunk.box b7_8 26 [.int .i64 x7_4a.N, .int .i64 x7_4a.M, .int .i64 x7_4a.P]]) 0 () ezy0 (by exact Sub.cons rfl (Sub.cons rfl (Sub.cons rfl (Sub.cons rfl (Sub.cons rfl (Sub.cons rfl (Sub.cons rfl (Sub.cons rfl (Sub.nil _))))))))) (by exact (fun _ h => h)) ?_
   rintro zm0 v_0 ⟨⟩ zo0 zf0 zb0 ze0
   have zh0 : laws_FnBestClock_L0 a_p0 x3_1 x4_1 x4_5 x5_1 x6_1 x7_4a x7_4b v_0 = some zo0 := zf0
   unfold laws_FnBestClock_L0 at zh0
   show WC _ _ _ _ _ [(0, .slice q0_0 a_p0.length k0_0), (3, .int .i64 (wr (1 + (wr (x3_1 * 12))))), (4, .int .i64 (wr ((wr (1 + (wr (x4_1 * 20)))) + x4_5))), (5, .int .i64 (wr (1 + x5_1))), (6, .int .i64 (wr (400 + (wr (x6_1 * 40))))), (7, .pointer (some ⟨b7_8, 0, .none⟩)), (8, .bool x7_4b), (9, .int .i64 v_0)] [Chunk.box b7_8 26 [.int .i64 x7_4a.N, .int .i64 x7_4a.M, .int .i64 x7_4a.P]]
   refine WC.seq (WC.seq (WC.region ?_))
   refine sp (OpV.move rfl) ?_
   refine sp (OpV.lss rfl rfl) ?_
   refine WL.nil (En.next ?_)
   refine WC.cond rfl ?_ ?_
   ·
    intro hc_2
    replace zh0 := ifO_t hc_2 zh0
    refine WC.skip (En.next (WC.seq (WC.block (WC.seq ?_))))
    obtain ⟨x11_2, e11_2, zh0⟩ := bnd zh0
    obtain ⟨x11_8, e11_8, zh0⟩ := bnd zh0
    obtain ⟨x11_14, e11_14, zh0⟩ := bnd zh0
    obtain ⟨x11_16, e11_16, zh0⟩ := bnd zh0
    refine WC.region ?_
    refine sp (OpV.move rfl) ?_
    refine sp (OpV.move rfl) ?_
    refine sp (OpV.call (evs.cons rfl (evs.cons rfl (evs.nil))) ca_11 (fun w hs => w_laws_at e11_2 (r0_0.ext hs.below))) ?_
    refine sp (OpV.remR rfl rfl rfl) ?_
    refine sp (OpV.addR rfl rfl) ?_
    refine sp (OpV.move rfl) ?_
    refine sp (OpV.move rfl) ?_
    refine sp (OpV.addR rfl rfl) ?_
    refine sp (OpV.call (evs.cons rfl (evs.cons rfl (evs.nil))) ca_11 (fun w hs => w_laws_at e11_8 (r0_0.ext hs.below))) ?_
    refine sp (OpV.remR rfl rfl rfl) ?_
    refine sp (OpV.addR rfl rfl) ?_
    refine sp (OpV.move rfl) ?_
    refine sp (OpV.move rfl) ?_
    refine sp (OpV.addR rfl rfl) ?_
    refine sp (OpV.call (evs.cons rfl (evs.cons rfl (evs.nil))) ca_11 (fun w hs => w_laws_at e11_14 (r0_0.ext hs.below))) ?_
    refine sp (OpV.remR rfl rfl rfl) ?_
    refine sp (OpV.shlR rfl rfl e11_16) ?_
    refine sp (OpV.build (evps.cons rfl (evps.cons rfl (evps.cons rfl (evps.nil)))) (bd_26_0_1_2 _ _ _)) ?_
    refine WL.heavy rfl rfl rfl (OpH.alloc zc_26 ?_)
    intro b11_18
    refine WL.heavy0 rfl rfl (OpH.storeTo (A := []) [_, _, _] rfl rfl rfl ts_26 rfl rfl rfl ?_)
    refine WL.nil (En.next (WC.seq ?_))
    obtain ⟨x12_4, e12_4, zh0⟩ := bnd zh0
    obtain ⟨q12_15, e12_15, zh0⟩ := bnd zh0
    refine WC.region ?_
    refine sp (OpV.loadAll rfl (.head _) ag_26) ?_
    refine sp (OpV.move rfl) ?_
    refine sp (OpV.move rfl) ?_
    refine sp (OpV.move rfl) ?_
    refine sp (OpV.call (evs.cons rfl (evs.cons rfl (evs.cons rfl (evs.cons rfl (evs.nil))))) ca_13 (fun w hs => w_impl_DividerOk e12_4)) ?_
    refine sp (OpV.move rfl) ?_
    refine Lt.ofWL.andQ 68 78 77 (p := ?pz6) (rest := ?qz6) (B := q12_15) rfl (fun hz => andO_f e12_15 hz) ?Tz6 ?Fz6 ?az6 ?bz6 ?cz6 ?dz6 ?ez6
    case Tz6 =>
     intro hcz6 hkz6
     have hqz6 := andO_t e12_15 hcz6
     obtain ⟨q12_14, e12_14, hqz6⟩ := bnd hqz6
     obtain rfl := Option.some.inj hqz6
     refine sp (OpV.move rfl) ?_
     refine sp (OpV.not rfl) ?_
     refine sp (OpV.move rfl) ?_
     refine Lt.ofWL.orQ 71 77 76 (p := ?pz7) (rest := ?qz7) (B := q12_14) rfl (fun hz => orO_t e12_14 hz) ?Tz7 ?Fz7 ?az7 ?bz7 ?cz7 ?dz7 ?ez7
     case Tz7 =>
      intro hcz7 hkz7
      refine sk ?_
      refine sk ?_
      refine sk ?_
      refine sk ?_
      refine sk ?_
      refine hkz7 _ ?_
      repeat (first | exact Sub.refl _ | refine Sub.skip rfl ?_)
     case Fz7 =>
      intro hcz7 hkz7
      have hqz7 := orO_f e12_14 hcz7
      obtain ⟨x12_13, e12_13, hqz7⟩ := bnd hqz7
      obtain rfl := Option.some.inj hqz7
      refine sp (OpV.loadAll rfl (.head _) ag_26) ?_
      refine sp (OpV.loadAll rfl (.tail _ (.head _)) ag_26) ?_
      refine sp (OpV.move rfl) ?_
      refine sp (OpV.move rfl) ?_
      refine sp (OpV.call (evs.cons rfl (evs.cons rfl (evs.cons rfl (evs.cons rfl (evs.nil))))) ca_14 (fun w hs => w_impl_Closer e12_13)) ?_
      refine hkz7 _ ?_ ?_
      exact rfl
      repeat (first | exact Sub.refl _ | refine Sub.skip rfl ?_)
     case az7 => exact rfl
     case bz7 => exact rfl
     case cz7 => exact rfl
     case dz7 => exact rfl
     refine hkz6 _ ?_ ?_
     exact rfl
     repeat (first | exact Sub.refl _ | refine Sub.skip rfl ?_)
    case Fz6 =>
     intro hcz6 hkz6
     refine sk ?_
     refine sk ?_
     refine sk ?_
     refine sk ?_
     refine sk ?_
     refine sk ?_
     refine sk ?_
     refine sk ?_
     refine sk ?_
     refine hkz6 _ ?_
     repeat (first | exact Sub.refl _ | refine Sub.skip rfl ?_)
    case az6 => exact rfl
    case bz6 => exact rfl
    case cz6 => exact rfl
    case dz6 => exact rfl
    refine WL.nil (En.next ?_)
    refine WC.cond rfl ?_ ?_
    ·
     intro hc_3
     replace zh0 := ifO_t hc_3 zh0
     refine WC.seq (WC.region ?_)
     refine sp (OpV.assign rfl) ?_
     refine WL.nil (En.next (WC.ret (En.block_ret (En.then_ret (En.then_ret (En.block_ret (En.then_ret ?_)))))))
     refine En.ret1 rfl (Res.tmp rfl) ?_
     have hx := exitP ze0 zh0
     subst hx
     replace h := fork_r h
     obtain rfl := Option.some.inj h
     intro w' hs
     exact ⟨rfl, hs.below⟩
    ·
     intro hc_3
     replace zh0 := ifO_f hc_3 zh0
     refine WC.skip (En.block_norm (En.next (WC.region ?_)))
     refine sp (OpV.move rfl) ?_
     refine sp (OpV.addR rfl rfl) ?_
     refine sp (OpV.assign rfl) ?_
     refine WL.nil ?_
     exact En.backP zb0 zh0 () (Sub.cons rfl (Sub.cons rfl (Sub.cons rfl (Sub.cons rfl (Sub.cons rfl (Sub.cons rfl (Sub.cons rfl (Sub.cons rfl (Sub.nil _))))))))) (fun _ h => ((h).perm (List.perm_middle (l₁ := [_]))).sub (.cons_cons _ (.cons _ (.slnil))))
   ·
    intro hc_2
    replace zh0 := ifO_f hc_2 zh0
    refine WC.exit (En.then_exit (En.then_exit ?_))
    have hx := exitP ze0 zh0
    exact En.wk _ _ (Sub.cons rfl (Sub.cons rfl (Sub.cons rfl (Sub.cons rfl (Sub.cons rfl (Sub.cons rfl (Sub.nil _))))))) (fun _ h => h) (zK0_0 ((), ()) hx.symm)

theorem w_spec_l01Once {c_p0 : L01CurT} {n_p1 : Int} {r : Bool × L01CurT} {b0 : Nat} {q0_0 : Option Addr} {l0_0 k0_0 : Nat} (h : spec_l01Once c_p0 n_p1 = some r) {w0 w : World} {C : List Chunk} (hs0 : St w0 (Chunk.box b0 88 [.slice q0_0 l0_0 k0_0, .int .i64 c_p0.i, .int .i64 c_p0.h] :: C) w) (r0_0 : ∀ w, St w0 C w → Rd tU8 w q0_0 l0_0 k0_0 c_p0.b) :
    Calls Try.prog 63 #[.pointer (some ⟨b0, 0, .none⟩), .int .i64 n_p1] w (fun en w' => ∃ rv G, en = .returned rv ∧ (rv = .bool r.1 ∧ G = Chunk.box b0 88 [.slice q0_0 l0_0 k0_0, .int .i64 r.2.i, .int .i64 r.2.h] :: C) ∧ St w0 G w') := by
 obtain rfl := (r0_0 _ (St.tl (F := [_]) hs0)).1
 unfold spec_l01Once at h
 refine enterF hs0 (vs := [_, _]) Try.func63 rfl rfl rfl rfl ?_
 refine WC.seq (WC.region ?_)
 refine sp (OpV.assign rfl) ?_
 refine WL.nil (En.next (WC.seq ?_))
 obtain ⟨⟨x1_2a, x1_2b⟩, e1_2, h⟩ := bnd h
 refine WC.region ?_
 refine sp (OpV.move rfl) ?_
 refine sp (OpV.move rfl) ?_
 refine WL.heavy rfl rfl rfl (OpH.callX (evs.cons rfl (evs.cons rfl (evs.nil))) ca_62 (fun w hs => w_spec_l01Below e1_2 hs (fun w hs => (r0_0 _ (St.tl (F := []) hs)))) ?_)
 rintro _ _ ⟨rfl, rfl⟩
 refine sp (OpV.eql rfl rfl) ?_
 refine sp (OpV.assign rfl) ?_
 refine WL.nil (En.next (WC.ret ?_))
 refine En.ret1 rfl (Res.tmp rfl) ?_
 obtain rfl := Option.some.inj h
 intro w' hs
 have hs := hs
 exact ⟨_, _, rfl, ⟨rfl, rfl⟩, hs⟩

theorem w_spec_l24Lists {c_p0 : L01CurT} {r : (List Bool) × (List Bool) × L01CurT} {b0 : Nat} {q0_0 : Option Addr} {l0_0 k0_0 : Nat} (h : spec_l24Lists c_p0 = some r) {w0 w : World} {C : List Chunk} (hs0 : St w0 (Chunk.box b0 88 [.slice q0_0 l0_0 k0_0, .int .i64 c_p0.i, .int .i64 c_p0.h] :: C) w) (r0_0 : ∀ w, St w0 C w → Rd tU8 w q0_0 l0_0 k0_0 c_p0.b) :
    Calls Try.prog 46 #[.pointer (some ⟨b0, 0, .none⟩)] w (fun en w' => ∃ rv G, en = .returned rv ∧ (∃ (a0_0 : Option Addr) (n0_0 : Nat) (c0_0 : Nat) (f0_0 : List Nat) (a1_0 : Option Addr) (n1_0 : Nat) (c1_0 : Nat) (f1_0 : List Nat), rv = .tuple #[.slice a0_0 n0_0 c0_0, .slice a1_0 n1_0 c1_0] ∧ G = Chunk.own tBool f0_0 a0_0 n0_0 c0_0 r.1 :: Chunk.own tBool f1_0 a1_0 n1_0 c1_0 r.2.1 :: Chunk.box b0 88 [.slice q0_0 l0_0 k0_0, .int .i64 r.2.2.i, .int .i64 r.2.2.h] :: C) ∧ St w0 G w') := by
 obtain rfl := (r0_0 _ (St.tl (F := [_]) hs0)).1
 unfold spec_l24Lists at h
 refine enterF hs0 (vs := [_]) Try.func46 rfl rfl rfl rfl ?_
 refine WC.seq (WC.region ?_)
 refine sp (OpV.assign rfl) ?_
 refine sp (OpV.assign rfl) ?_
 refine WL.nil (En.next (WC.seq (WC.region ?_)))
 refine WL.heavy rfl rfl rfl (OpH.lit0 (A := tBool) (evps.nil) bs_37_0_ ?_)
 intro b1_0
 refine sp (OpV.assign rfl) ?_
 refine WL.nil (En.next (WC.seq (WC.region ?_)))
 refine WL.heavy rfl rfl rfl (OpH.lit0 (A := tBool) (evps.nil) bs_37_0_ ?_)
 intro b2_0
 refine sp (OpV.assign rfl) ?_
 refine WL.nil (En.next (WC.seq (WC.seq ?_)))
 obtain ⟨⟨x3_1a, x3_1b⟩, e3_1, h⟩ := bnd h
 refine WC.region ?_
 refine sp (OpV.move rfl) ?_
 refine WL.wkF (fun _ h => h.perm (List.perm_middle (l₁ := [_, _]))) ?_
 refine WL.heavy rfl rfl rfl (OpH.callX (evs.cons rfl (evs.cons rfl (evs.nil))) ca_62 (fun w hs => w_spec_l01Below e3_1 hs (fun w hs => (r0_0 _ (St.tl (F := [_, _]) hs)))) ?_)
 rintro _ _ ⟨rfl, rfl⟩
 refine sp (OpV.assign rfl) ?_
 refine WL.nil (En.next (WC.block ?_))
 obtain ⟨zy0, ezy0, h⟩ := bnd h
 refine WC.cut (X := ((List Bool) × (List Bool) × Int × Int) × ((Option Addr) × Nat × Nat × (List Nat) × (Option Addr) × Nat × Nat × (List Nat))) (.exit 0) (fun x => zy0 = x.1) (fun x => match x with | ((a_0e, b_0e, c_0e, c1_0e), (aa_0e, na_0e, ca_0e, fa_0e, ab_0e, nb_0e, cb_0e, fb_0e)) => [(4, .slice aa_0e na_0e ca_0e), (5, .slice ab_0e nb_0e cb_0e)]) (fun x => match x with | ((a_0e, b_0e, c_0e, c1_0e), (aa_0e, na_0e, ca_0e, fa_0e, ab_0e, nb_0e, cb_0e, fb_0e)) => (Chunk.own tBool fa_0e aa_0e na_0e ca_0e a_0e :: Chunk.own tBool fb_0e ab_0e nb_0e cb_0e b_0e :: Chunk.box b0 88 [.slice q0_0 c_p0.b.length k0_0, .int .i64 c_0e, .int .i64 c1_0e] :: C)) ?_ ?_
 ·
  rintro ⟨⟨a_0e, b_0e, c_0e, c1_0e⟩, ⟨aa_0e, na_0e, ca_0e, fa_0e, ab_0e, nb_0e, cb_0e, fb_0e⟩⟩ hx
  replace hx : (a_0e, b_0e, c_0e, c1_0e) = zy0 := hx.symm
  subst hx
  show En _ _ _ _ [(4, .slice aa_0e na_0e ca_0e), (5, .slice ab_0e nb_0e cb_0e)] (Chunk.own tBool fa_0e aa_0e na_0e ca_0e a_0e :: Chunk.own tBool fb_0e ab_0e nb_0e cb_0e b_0e :: Chunk.box b0 88 [.slice q0_0 c_p0.b.length k0_0, .int .i64 c_0e, .int .i64 c1_0e] :: C)
  refine En.block_exit (En.next (WC.seq (WC.region ?_)))
  refine sp (OpV.move rfl) ?_
  refine sp (OpV.move rfl) ?_
  refine sp (OpV.assign rfl) ?_
  refine sp (OpV.assign rfl) ?_
  refine WL.nil (En.next (WC.ret ?_))
  refine En.ret2 rfl (Res.tmp rfl) (Res.tmp rfl) ?_
  obtain rfl := Option.some.inj h
  intro w' hs
  have hs := hs
  exact ⟨_, _, rfl, ⟨aa_0e, na_0e, ca_0e, fa_0e, ab_0e, nb_0e, cb_0e, fb_0e, rfl, rfl⟩, hs⟩
 ·
  intro zK0_0
  refine WC.loopP (G := (Option Addr) × Nat × Nat × (List Nat) × (Option Addr) × Nat × Nat × (List Nat)) (fun s g => match s, g with | (c_0, c1_0, a_0, b_0, k_0), (aa_0, na_0, ca_0, fa_0, ab_0, nb_0, cb_0, fb_0) => [(0, .pointer (some ⟨b0, 0, .none⟩)), (4, .slice aa_0 na_0 ca_0), (5, .slice ab_0 nb_0 cb_0), (6, .int .i64 k_0)]) (fun s g => match s, g with | (c_0, c1_0, a_0, b_0, k_0), (aa_0, na_0, ca_0, fa_0, ab_0, nb_0, cb_0, fb_0) => (Chunk.box b0 88 [.slice q0_0 c_p0.b.length k0_0, .int .i64 c_0, .int .i64 c1_0] :: Chunk.own tBool fa_0 aa_0 na_0 ca_0 a_0 :: Chunk.own tBool fb_0 ab_0 nb_0 cb_0 b_0 :: C)) (x3_1b.i, x3_1b.h, ([] : List Bool), ([] : List Bool), x3_1a) ((some ⟨b1_0, 0, .none⟩), 0, 0, [b1_0], (some ⟨b2_0, 0, .none⟩), 0, 0, [b2_0]) ezy0 (by exact Sub.cons rfl (Sub.cons rfl (Sub.cons rfl (Sub.cons rfl (Sub.nil _))))) (by exact (fun _ h => (((h).perm (List.perm_middle (l₁ := [_]))).perm (List.perm_middle (l₁ := [_, _]))).perm (List.perm_middle (l₁ := [_, _])))) ?_
  rintro zm0 ⟨c_0, c1_0, a_0, b_0, k_0⟩ ⟨aa_0, na_0, ca_0, fa_0, ab_0, nb_0, cb_0, fb_0⟩ zo0 zf0 zb0 ze0
  have zh0 : spec_l24Lists_L0 c_p0 c_0 c1_0 a_0 b_0 k_0 = some zo0 := zf0
  unfold spec_l24Lists_L0 at zh0
  show WC _ _ _ _ _ [(0, .pointer (some ⟨b0, 0, .none⟩)), (4, .slice aa_0 na_0 ca_0), (5, .slice ab_0 nb_0 cb_0), (6, .int .i64 k_0)] (Chunk.box b0 88 [.slice q0_0 c_p0.b.length k0_0, .int .i64 c_0, .int .i64 c1_0] :: Chunk.own tBool fa_0 aa_0 na_0 ca_0 a_0 :: Chunk.own tBool fb_0 ab_0 nb_0 cb_0 b_0 :: C)
  refine WC.seq (WC.seq (WC.region ?_))
  refine sp (OpV.move rfl) ?_
  refine sp (OpV.gtr rfl rfl) ?_
  refine WL.nil (En.next ?_)
  refine WC.cond rfl ?_ ?_
  ·
   intro hc_1
   replace zh0 := ifO_t hc_1 zh0
   refine WC.skip (En.next (WC.seq (WC.block (WC.seq ?_))))
   obtain ⟨⟨x6_2a, x6_2b⟩, e6_2, zh0⟩ := bnd zh0
   obtain ⟨x6_4, e6_4, zh0⟩ := bnd zh0
   refine WC.region ?_
   refine sp (OpV.move rfl) ?_
   refine sp (OpV.move rfl) ?_
   refine WL.heavy rfl rfl rfl (OpH.callX (evs.cons rfl (evs.cons rfl (evs.nil))) ca_63 (fun w hs => w_spec_l01Once e6_2 hs (fun w hs => (r0_0 _ (St.tl (F := [_, _]) hs)))) ?_)
   rintro _ _ ⟨rfl, rfl⟩
   refine WL.heavy rfl rfl rfl (OpH.litF (A := tBool) (xs := [x6_2a]) tBool_flat (evps.cons rfl (evps.nil)) (bs_37_1_0 _) rfl rfl (Nat.le_of_ble_eq_true rfl) ?_)
   intro b6_3
   refine WL.heavy rfl rfl rfl (OpH.appS (F := [_, _]) (A := tBool) tBool_flat rfl rfl rfl mi_37 rfl (by decide) (fun w hs => (Ow.rd (hs.mem (.head _)))) e6_4 ?_)
   intro f6_4 a6_4 c6_4
   refine sp (OpV.assign rfl) ?_
   refine WL.nil (En.next ?_)
   obtain ⟨⟨x7_2a, x7_2b⟩, e7_2, zh0⟩ := bnd zh0
   obtain ⟨x7_5, e7_5, zh0⟩ := bnd zh0
   refine WC.region ?_
   refine sp (OpV.move rfl) ?_
   refine sp (OpV.move rfl) ?_
   refine WL.wkF (fun _ h => h.perm (List.perm_middle (l₁ := [_]))) ?_
   refine WL.heavy rfl rfl rfl (OpH.callX (evs.cons rfl (evs.cons rfl (evs.nil))) ca_62 (fun w hs => w_spec_l01Below e7_2 hs (fun w hs => (r0_0 _ (St.tl (F := [_, _, _]) hs)))) ?_)
   rintro _ _ ⟨rfl, rfl⟩
   refine sp (OpV.gtr rfl rfl) ?_
   refine WL.heavy rfl rfl rfl (OpH.litF (A := tBool) (xs := [(decide (0 < x7_2a))]) tBool_flat (evps.cons rfl (evps.nil)) (bs_37_1_0 _) rfl rfl (Nat.le_of_ble_eq_true rfl) ?_)
   intro b7_4
   refine WL.heavy rfl rfl rfl (OpH.appS (F := [_, _, _, _]) (A := tBool) tBool_flat rfl rfl rfl mi_37 rfl (by decide) (fun w hs => (Ow.rd (hs.mem (.head _)))) e7_5 ?_)
   intro f7_5 a7_5 c7_5
   refine sp (OpV.assign rfl) ?_
   refine WL.nil (En.block_norm (En.next (WC.region ?_)))
   refine sp (OpV.move rfl) ?_
   refine sp (OpV.subR rfl rfl) ?_
   refine sp (OpV.assign rfl) ?_
   refine WL.nil ?_
   exact En.backP zb0 zh0 (a6_4, x6_4.length, c6_4, f6_4, a7_5, x7_5.length, c7_5, f7_5) (Sub.cons rfl (Sub.cons rfl (Sub.cons rfl (Sub.cons rfl (Sub.nil _))))) (fun _ h => ((((h).perm (List.perm_middle (l₁ := [_, _, _, _]))).perm (List.perm_middle (l₁ := [_, _, _, _]))).perm (List.perm_middle (l₁ := [_, _, _]))).sub (.cons_cons _ (.cons_cons _ (.cons_cons _ (.cons _ (.cons _ (List.Sublist.refl _)))))))
  ·
   intro hc_1
   replace zh0 := ifO_f hc_1 zh0
   refine WC.exit (En.then_exit (En.then_exit ?_))
   have hx := exitP ze0 zh0
   exact En.wk _ _ (Sub.cons rfl (Sub.cons rfl (Sub.nil _))) (fun _ h => ((h).perm (List.perm_middle (l₁ := [_, _]))).perm (List.perm_middle (l₁ := [_, _]))) (zK0_0 ((a_0, b_0, c_0, c1_0), (aa_0, na_0, ca_0, fa_0, ab_0, nb_0, cb_0, fb_0)) hx.symm)

theorem w_spec_DrawPace {code_p0 : List Int} {r : PaceT × (List Bool) × (List Bool)} {q0_0 : Option Addr} {l0_0 k0_0 : Nat} (h : spec_DrawPace code_p0 = some r) {w : World} (r0_0 : Rd tU8 w q0_0 l0_0 k0_0 code_p0)   :
    Calls Try.prog 18 #[.slice q0_0 l0_0 k0_0] w (fun en w' => ∃ rv G, en = .returned rv ∧ (∃ (a0_0 : Option Addr) (n0_0 : Nat) (c0_0 : Nat) (f0_0 : List Nat) (a1_0 : Option Addr) (n1_0 : Nat) (c1_0 : Nat) (f1_0 : List Nat) (a2_0 : Option Addr) (n2_0 : Nat) (c2_0 : Nat) (f2_0 : List Nat), rv = .tuple #[.agg #[.int .i64 r.1.Mode.Clock, .int .i64 r.1.Mode.W, .int .i64 r.1.Mode.HFront, .int .i64 r.1.Mode.HSync, .int .i64 r.1.Mode.HBack, .int .i64 r.1.Mode.H, .int .i64 r.1.Mode.VFront, .int .i64 r.1.Mode.VSync, .int .i64 r.1.Mode.VBack, .int .i64 r.1.Stretch, .int .i64 r.1.Lines, .slice a0_0 n0_0 c0_0], .slice a1_0 n1_0 c1_0, .slice a2_0 n2_0 c2_0] ∧ G = [Chunk.own tInt f0_0 a0_0 n0_0 c0_0 r.1.Frames, Chunk.own tBool f1_0 a1_0 n1_0 c1_0 r.2.1, Chunk.own tBool f2_0 a2_0 n2_0 c2_0 r.2.2]) ∧ St w G w') := by
 obtain rfl := r0_0.1
 unfold spec_DrawPace at h
 refine enter (vs := [_]) Try.func18 rfl rfl rfl rfl ?_
 refine WC.seq (WC.region ?_)
 refine WL.heavy rfl rfl rfl (OpH.alloc zc_36 ?_)
 intro b0_0
 refine sp (OpV.assign rfl) ?_
 refine sp (OpV.assign rfl) ?_
 refine WL.nil (En.next (WC.seq ?_))
 obtain ⟨x1_1, e1_1, h⟩ := bnd h
 refine WC.region ?_
 refine sp (OpV.move rfl) ?_
 refine WL.heavy rfl rfl rfl (OpH.callR (evs.cons rfl (evs.nil)) ca_43 (fun w hs => w_spec_l01New e1_1 (r0_0.ext hs.below)) ?_)
 rintro _ _ ⟨b1_10p, rfl, rfl⟩
 refine sp (OpV.assign rfl) ?_
 refine WL.nil (En.next (WC.seq ?_))
 obtain ⟨⟨x2_1a, x2_1b⟩, e2_1, h⟩ := bnd h
 obtain ⟨⟨x2_4a, x2_4b⟩, e2_4, h⟩ := bnd h
 refine WC.region ?_
 refine sp (OpV.move rfl) ?_
 refine WL.heavy rfl rfl rfl (OpH.callX (evs.cons rfl (evs.nil)) ca_44 (fun w hs => w_spec_l16Mode e2_1 hs (fun w hs => (r0_0.ext hs.below))) ?_)
 rintro _ _ ⟨rfl, rfl⟩
 refine sp (OpV.move rfl) ?_
 refine WL.heavy rfl rfl rfl (OpH.litF (A := tInt) (xs := [0, 1, 5]) tInt_flat (evps.cons rfl (evps.cons rfl (evps.cons rfl (evps.nil)))) (bs_34_3_0_1_2 _ _ _) rfl rfl (Nat.le_of_ble_eq_true rfl) ?_)
 intro b2_3
 refine WL.wkF (fun _ h => h.perm (List.perm_middle (l₁ := [_]))) ?_
 refine WL.heavy rfl rfl rfl (OpH.callX (evs.cons rfl (evs.cons rfl (evs.nil))) ca_45 (fun w hs => w_spec_l01PickInt e2_4 hs (fun w hs => (r0_0.ext hs.below)) (fun w hs => (Ow.rd (hs.mem (.head _))))) ?_)
 rintro _ _ ⟨rfl, rfl⟩
 refine sp (OpV.build (evps.cons rfl (evps.cons rfl (evps.nil))) (bd_36_0_1 _ _ _ _ _ _ _ _ _ _)) ?_
 refine WL.heavy rfl rfl rfl (OpH.alloc zc_36 ?_)
 intro b2_6
 refine WL.heavy0 rfl rfl (OpH.storeTo (A := []) [_, _, _, _, _, _, _, _, _, _, _, _] rfl rfl rfl ts_36 rfl rfl rfl ?_)
 refine WL.nil (En.next (WC.seq ?_))
 obtain ⟨⟨x3_1a, x3_1b, x3_1c⟩, e3_1, h⟩ := bnd h
 refine WC.region ?_
 refine sp (OpV.move rfl) ?_
 refine WL.wkF (fun _ h => h.perm (List.perm_middle (l₁ := [_]))) ?_
 refine WL.heavy rfl rfl rfl (OpH.callX (evs.cons rfl (evs.nil)) ca_46 (fun w hs => w_spec_l24Lists e3_1 hs (fun w hs => (r0_0.ext hs.below))) ?_)
 rintro _ _ ⟨a3_100, n3_100, c3_100, f3_100, a3_110, n3_110, c3_110, f3_110, rfl, rfl⟩
 refine sp (OpV.move rfl) ?_
 refine sp (OpV.extract rfl rfl) ?_
 refine sp (OpV.extract rfl rfl) ?_
 refine sp (OpV.assign rfl) ?_
 refine sp (OpV.assign rfl) ?_
 refine WL.nil (En.next (WC.seq (WC.region ?_)))
 refine sp (OpV.loadAll rfl (.tail _ (.tail _ (.tail _ (.head _)))) ag_36) ?_
 refine sp (OpV.move rfl) ?_
 refine sp (OpV.move rfl) ?_
 refine WL.heavy0 rfl rfl (OpH.storeTo (A := [_, _, _, _, _]) [_, _, _, _, _, _, _, _, _, _, _, _] rfl rfl rfl ts_36 rfl rfl rfl ?_)
 refine sp (OpV.assign rfl) ?_
 refine sp (OpV.assign rfl) ?_
 refine WL.nil (En.next (WC.ret ?_))
 refine En.ret3 rfl (Res.cell rfl (.tail _ (.tail _ (.tail _ (.tail _ (.tail _ (.head _)))))) ag_36) (Res.tmp rfl) (Res.tmp rfl) ?_
 obtain rfl := Option.some.inj h
 intro w' hs
 have hs := ((hs).ownNil (A := tInt)).sub (.cons_cons _ (.cons_cons _ (.cons_cons _ (.cons _ (.cons _ (.cons _ (.cons _ (.slnil))))))))
 exact ⟨_, _, rfl, ⟨.none, 0, 0, [], a3_100, n3_100, c3_100, f3_100, a3_110, n3_110, c3_110, f3_110, rfl, rfl⟩, hs⟩

theorem w_slices_Clone_S_int_int {s_p0 : List Int} {r : List Int} {q0_0 : Option Addr} {n0_0 k0_0 : Nat} (h : slices_Clone_S_int_int s_p0 = some r) {w : World} (r0_0 : Rd tInt w q0_0 n0_0 k0_0 s_p0) :
    Calls Try.prog 65 #[.slice q0_0 n0_0 k0_0] w (fun en w' => ∃ rv G, en = .returned rv ∧ (∃ (a0_0 : Option Addr) (n0_0 : Nat) (c0_0 : Nat) (f0_0 : List Nat), rv = .slice a0_0 n0_0 c0_0 ∧ G = [Chunk.own tInt f0_0 a0_0 n0_0 c0_0 r]) ∧ St w G w') := by
  obtain rfl := r0_0.1
  obtain ⟨hn, h⟩ := need_some h
  obtain rfl := Option.some.inj h
  refine enter (vs := [_]) Try.func65 rfl rfl rfl rfl ?_
  refine WC.seq (WC.region ?_)
  refine sp (OpV.assign rfl) ?_
  refine WL.nil (En.next (WC.seq (WC.seq (WC.region ?_))))
  refine sp (OpV.move rfl) ?_
  refine sp (OpV.eqNil rfl si_34) ?_
  refine WL.nil (En.next ?_)
  refine WC.cond rfl ?_ ?_
  · intro hc
    have hnil := Rd.isNil r0_0 hc
    refine WC.seq (WC.region ?_)
    refine sp (OpV.assign rfl) ?_
    refine WL.nil (En.next (WC.ret (En.then_ret ?_)))
    refine En.ret1 rfl (Res.tmp rfl) ?_
    intro w' hs
    refine ⟨_, _, rfl, ⟨.none, 0, 0, [], rfl, rfl⟩, ?_⟩
    rw [hnil]; exact hs.ownNil
  · intro hc
    refine WC.skip (En.next (WC.seq (WC.region ?_)))
    refine WL.heavy rfl rfl rfl (OpH.lit0 (A := tInt) evps.nil bs_34_0_ ?_)
    intro b
    refine sp (OpV.move rfl) ?_
    refine WL.heavy rfl rfl rfl (OpH.appS (F := []) (A := tInt) tInt_flat rfl rfl rfl mi_34 rfl (by decide) (fun w hs => r0_0.ext hs.below) (app_nil hn) ?_)
    intro fp a c
    refine sp (OpV.assign rfl) ?_
    refine WL.nil (En.next (WC.ret ?_))
    refine En.ret1 rfl (Res.tmp rfl) ?_
    intro w' hs
    exact ⟨_, _, rfl, ⟨_, _, _, _, rfl, rfl⟩, hs⟩

theorem w_impl_copyPace {p_p0 : PaceT} {r : PaceT} {q0_0 : Option Addr} {l0_0 k0_0 : Nat} (h : impl_copyPace p_p0 = some r) {w : World} (r0_0 : Rd tInt w q0_0 l0_0 k0_0 p_p0.Frames)   :
    Calls Try.prog 48 #[.agg #[.int .i64 p_p0.Mode.Clock, .int .i64 p_p0.Mode.W, .int .i64 p_p0.Mode.HFront, .int .i64 p_p0.Mode.HSync, .int .i64 p_p0.Mode.HBack, .int .i64 p_p0.Mode.H, .int .i64 p_p0.Mode.VFront, .int .i64 p_p0.Mode.VSync, .int .i64 p_p0.Mode.VBack, .int .i64 p_p0.Stretch, .int .i64 p_p0.Lines, .slice q0_0 l0_0 k0_0]] w (fun en w' => ∃ rv G, en = .returned rv ∧ (∃ (a0_0 : Option Addr) (n0_0 : Nat) (c0_0 : Nat) (f0_0 : List Nat), rv = .agg #[.int .i64 r.Mode.Clock, .int .i64 r.Mode.W, .int .i64 r.Mode.HFront, .int .i64 r.Mode.HSync, .int .i64 r.Mode.HBack, .int .i64 r.Mode.H, .int .i64 r.Mode.VFront, .int .i64 r.Mode.VSync, .int .i64 r.Mode.VBack, .int .i64 r.Stretch, .int .i64 r.Lines, .slice a0_0 n0_0 c0_0] ∧ G = [Chunk.own tInt f0_0 a0_0 n0_0 c0_0 r.Frames]) ∧ St w G w') := by
 obtain rfl := r0_0.1
 unfold impl_copyPace at h
 refine enter (vs := [_]) Try.func48 rfl rfl rfl rfl ?_
 refine WC.seq (WC.region ?_)
 refine WL.heavy rfl rfl rfl (OpH.box rfl rfl ?_)
 intro b0_0
 refine WL.heavy rfl rfl rfl (OpH.alloc zc_36 ?_)
 intro b0_1
 refine WL.nil (En.next (WC.seq ?_))
 obtain ⟨x1_2, e1_2, h⟩ := bnd h
 refine WC.region ?_
 refine sp (OpV.fieldAddr rfl fo_36_3) ?_
 refine sp (OpV.loadBox rfl pt_34 (.tail _ (.head _)) rfl) ?_
 refine WL.heavy rfl rfl rfl (OpH.callR (evs.cons rfl (evs.nil)) ca_65 (fun w hs => w_slices_Clone_S_int_int e1_2 (r0_0.ext hs.below)) ?_)
 rintro _ _ ⟨a1_200, n1_200, c1_200, f1_200, rfl, rfl⟩
 refine sp (OpV.fieldAddr rfl fo_36_3) ?_
 refine WL.heavy0 rfl rfl (OpH.storeTo (A := [_, _]) [_, _, _, _, _, _, _, _, _, _, _, _] rfl rfl rfl ts_34 rfl rfl rfl ?_)
 refine WL.nil (En.next (WC.seq (WC.region ?_)))
 refine sp (OpV.loadAll rfl (.tail _ (.tail _ (.head _))) ag_36) ?_
 refine WL.heavy0 rfl rfl (OpH.storeTo (A := [_]) [_, _, _, _, _, _, _, _, _, _, _, _] rfl rfl rfl ts_36 rfl rfl rfl ?_)
 refine WL.nil (En.next (WC.ret ?_))
 refine En.ret1 rfl (Res.cell rfl (.tail _ (.head _)) ag_36) ?_
 obtain rfl := Option.some.inj h
 intro w' hs
 have hs := (hs).sub (.cons_cons _ (.cons _ (.cons _ (.slnil))))
 exact ⟨_, _, rfl, ⟨a1_200, n1_200, c1_200, f1_200, rfl, rfl⟩, hs⟩

theorem w_impl_BlankLines {m_p0 : ModeT} {r : Int}  (h : impl_BlankLines m_p0 = some r) {w : World}    :
    Calls Try.prog 64 #[.agg #[.int .i64 m_p0.Clock, .int .i64 m_p0.W, .int .i64 m_p0.HFront, .int .i64 m_p0.HSync, .int .i64 m_p0.HBack, .int .i64 m_p0.H, .int .i64 m_p0.VFront, .int .i64 m_p0.VSync, .int .i64 m_p0.VBack]] w (fun en w' => en = .returned (.int .i64 r) ∧ Ext w w') := by
 unfold impl_BlankLines at h
 refine enter (vs := [_]) Try.func64 rfl rfl rfl rfl ?_
 refine WC.seq (WC.region ?_)
 refine WL.heavy rfl rfl rfl (OpH.box rfl rfl ?_)
 intro b0_0
 refine sp (OpV.assign rfl) ?_
 refine WL.nil (En.next (WC.seq (WC.seq ?_)))
 obtain ⟨x1_1, e1_1, h⟩ := bnd h
 refine WC.region ?_
 refine sp (OpV.loadAll rfl (.head _) ag_33) ?_
 refine sp (OpV.call (evs.cons rfl (evs.nil)) ca_50 (fun w hs => w_impl_ModeOk e1_1)) ?_
 refine sp (OpV.not rfl) ?_
 refine WL.nil (En.next ?_)
 refine WC.cond rfl ?_ ?_
 ·
  intro hc_1
  replace h := ifO_t hc_1 h
  refine WC.seq (WC.region ?_)
  refine sp (OpV.assign rfl) ?_
  refine WL.nil (En.next (WC.ret (En.then_ret ?_)))
  refine En.ret1 rfl (Res.tmp rfl) ?_
  obtain rfl := Option.some.inj h
  intro w' hs
  exact ⟨rfl, hs.below⟩
 ·
  intro hc_1
  replace h := ifO_f hc_1 h
  refine WC.skip (En.next (WC.seq (WC.region ?_)))
  refine sp (OpV.fieldAddr rfl fo_33_6) ?_
  refine sp (OpV.loadBox rfl pt_3 (.head _) rfl) ?_
  refine sp (OpV.fieldAddr rfl fo_33_7) ?_
  refine sp (OpV.loadBox rfl pt_3 (.head _) rfl) ?_
  refine sp (OpV.addR rfl rfl) ?_
  refine sp (OpV.fieldAddr rfl fo_33_8) ?_
  refine sp (OpV.loadBox rfl pt_3 (.head _) rfl) ?_
  refine sp (OpV.addR rfl rfl) ?_
  refine sp (OpV.assign rfl) ?_
  refine WL.nil (En.next (WC.ret ?_))
  refine En.ret1 rfl (Res.tmp rfl) ?_
  obtain rfl := Option.some.inj h
  intro w' hs
  exact ⟨rfl, hs.below⟩

theorem w_impl_shortFrame {p_p0 : PaceT} {r : Int} {q0_0 : Option Addr} {l0_0 k0_0 : Nat} (h : impl_shortFrame p_p0 = some r) {w : World} (r0_0 : Rd tInt w q0_0 l0_0 k0_0 p_p0.Frames)   :
    Calls Try.prog 47 #[.agg #[.int .i64 p_p0.Mode.Clock, .int .i64 p_p0.Mode.W, .int .i64 p_p0.Mode.HFront, .int .i64 p_p0.Mode.HSync, .int .i64 p_p0.Mode.HBack, .int .i64 p_p0.Mode.H, .int .i64 p_p0.Mode.VFront, .int .i64 p_p0.Mode.VSync, .int .i64 p_p0.Mode.VBack, .int .i64 p_p0.Stretch, .int .i64 p_p0.Lines, .slice q0_0 l0_0 k0_0]] w (fun en w' => en = .returned (.int .i64 r) ∧ Ext w w') := by
 obtain rfl := r0_0.1
 unfold impl_shortFrame at h
 refine enter (vs := [_]) Try.func47 rfl rfl rfl rfl ?_
 refine WC.seq (WC.region ?_)
 refine WL.heavy rfl rfl rfl (OpH.box rfl rfl ?_)
 intro b0_0
 refine sp (OpV.assign rfl) ?_
 refine WL.nil (En.next (WC.seq ?_))
 obtain ⟨x1_5, e1_5, h⟩ := bnd h
 refine WC.drawn [(2, ?r1v2)] (by kernel_rfl) (by kernel_rfl) ?dH1 ?dK1
 case dH1 =>
  intro W hW hk
  refine hW.step rfl rfl rfl (OpV.fieldAddr rfl fo_36_0) ?_
  refine hW.step rfl rfl rfl (OpV.fieldAddr rfl fo_33_5) ?_
  refine hW.step rfl rfl rfl (OpV.loadBox rfl pt_3 (.head _) rfl) ?_
  refine hW.step rfl rfl rfl (OpV.fieldAddr rfl fo_36_0) ?_
  refine hW.step rfl rfl rfl (OpV.loadPart rfl (.head _) ag_33 rfl rfl) ?_
  refine hW.step rfl rfl rfl (OpV.call (evs.cons rfl (evs.nil)) ca_64 (fun w hs => w_impl_BlankLines e1_5)) ?_
  refine hW.step rfl rfl rfl (OpV.addR rfl rfl) ?_
  refine hW.step rfl rfl rfl (OpV.assign rfl) ?_
  refine hk _ ?_
  refine Sub.cons ?_ (Sub.nil _)
  all_goals exact rfl
 refine En.next (WC.ret ?_)
 refine En.ret1 rfl (Res.tmp rfl) ?_
 obtain rfl := Option.some.inj h
 intro w' hs
 exact ⟨rfl, hs.below⟩

theorem w_impl_PaceOk {p_p0 : PaceT} {r : Bool} {q0_0 : Option Addr} {l0_0 k0_0 : Nat} (h : impl_PaceOk p_p0 = some r) {w : World} (r0_0 : Rd tInt w q0_0 l0_0 k0_0 p_p0.Frames)   :
    Calls Try.prog 24 #[.agg #[.int .i64 p_p0.Mode.Clock, .int .i64 p_p0.Mode.W, .int .i64 p_p0.Mode.HFront, .int .i64 p_p0.Mode.HSync, .int .i64 p_p0.Mode.HBack, .int .i64 p_p0.Mode.H, .int .i64 p_p0.Mode.VFront, .int .i64 p_p0.Mode.VSync, .int .i64 p_p0.Mode.VBack, .int .i64 p_p0.Stretch, .int .i64 p_p0.Lines, .slice q0_0 l0_0 k0_0]] w (fun en w' => en = .returned (.bool r) ∧ Ext w w') := by
 obtain rfl := r0_0.1
 unfold impl_PaceOk at h
 refine enter (vs := [_]) Try.func24 rfl rfl rfl rfl ?_
 refine WC.seq (WC.region ?_)
 refine WL.heavy rfl rfl rfl (OpH.box rfl rfl ?_)
 intro b0_0
 refine sp (OpV.assign rfl) ?_
 refine WL.nil (En.next (WC.seq (WC.seq ?_)))
 obtain ⟨x1_2, e1_2, h⟩ := bnd h
 obtain ⟨q1_9, e1_9, h⟩ := bnd h
 obtain ⟨q1_21, e1_21, h⟩ := bnd h
 refine WC.drawn [(1, ?r1v1), (32, ?r1v32)] (by kernel_rfl) (by kernel_rfl) ?dH1 ?dK1
 case dH1 =>
  intro W hW hk
  refine hW.step rfl rfl rfl (OpV.fieldAddr rfl fo_36_0) ?_
  refine hW.step rfl rfl rfl (OpV.loadPart rfl (.head _) ag_33 rfl rfl) ?_
  refine hW.step rfl rfl rfl (OpV.call (evs.cons rfl (evs.nil)) ca_50 (fun w hs => w_impl_ModeOk e1_2)) ?_
  refine hW.step rfl rfl rfl (OpV.not rfl) ?_
  refine hW.step rfl rfl rfl (OpV.move rfl) ?_
  refine hW.orQ 9 14 13 (p := ?pz1) (rest := ?qz1) (B := q1_9) rfl (fun hz => orO_t e1_9 hz) ?Tz1 ?Fz1 ?az1 ?bz1 ?cz1 ?dz1 ?ez1
  case Tz1 =>
   intro hcz1 hkz1
   refine hW.skip rfl rfl rfl ?_
   refine hW.skip rfl rfl rfl ?_
   refine hW.skip rfl rfl rfl ?_
   refine hW.skip rfl rfl rfl ?_
   refine hkz1 _ ?_
   repeat (first | exact Sub.refl _ | refine Sub.skip rfl ?_)
  case Fz1 =>
   intro hcz1 hkz1
   have hqz1 := orO_f e1_9 hcz1
   obtain ⟨x1_7, e1_7, hqz1⟩ := bnd hqz1
   obtain rfl := Option.some.inj hqz1
   refine hW.step rfl rfl rfl (OpV.fieldAddr rfl fo_36_1) ?_
   refine hW.step rfl rfl rfl (OpV.loadBox rfl pt_3 (.head _) rfl) ?_
   refine hW.step rfl rfl rfl (OpV.call (evs.cons rfl (evs.cons rfl (evs.cons rfl (evs.nil)))) ca_39 (fun w hs => w_impl_within e1_7)) ?_
   refine hW.step rfl rfl rfl (OpV.not rfl) ?_
   refine hkz1 _ ?_ ?_
   exact rfl
   repeat (first | exact Sub.refl _ | refine Sub.skip rfl ?_)
  case az1 => exact rfl
  case bz1 => exact rfl
  case cz1 => exact rfl
  case dz1 => exact rfl
  refine hW.step rfl rfl rfl (OpV.move rfl) ?_
  refine hW.orQ 15 26 25 (p := ?pz2) (rest := ?qz2) (B := q1_21) rfl (fun hz => orO_t e1_21 hz) ?Tz2 ?Fz2 ?az2 ?bz2 ?cz2 ?dz2 ?ez2
  case Tz2 =>
   intro hcz2 hkz2
   refine hW.skip rfl rfl rfl ?_
   refine hW.skip rfl rfl rfl ?_
   refine hW.skip rfl rfl rfl ?_
   refine hW.skip rfl rfl rfl ?_
   refine hW.skip rfl rfl rfl ?_
   refine hW.skip rfl rfl rfl ?_
   refine hW.skip rfl rfl rfl ?_
   refine hW.skip rfl rfl rfl ?_
   refine hW.skip rfl rfl rfl ?_
   refine hW.skip rfl rfl rfl ?_
   refine hkz2 _ ?_
   repeat (first | exact Sub.refl _ | refine Sub.skip rfl ?_)
  case Fz2 =>
   intro hcz2 hkz2
   have hqz2 := orO_f e1_21 hcz2
   obtain ⟨x1_14, e1_14, hqz2⟩ := bnd hqz2
   obtain ⟨x1_19, e1_19, hqz2⟩ := bnd hqz2
   obtain rfl := Option.some.inj hqz2
   refine hW.step rfl rfl rfl (OpV.fieldAddr rfl fo_36_2) ?_
   refine hW.step rfl rfl rfl (OpV.loadBox rfl pt_3 (.head _) rfl) ?_
   refine hW.step rfl rfl rfl (OpV.loadAll rfl (.head _) ag_36) ?_
   refine hW.step rfl rfl rfl (OpV.call (evs.cons rfl (evs.nil)) ca_47 (fun w hs => w_impl_shortFrame e1_14 (r0_0.ext hs.below))) ?_
   refine hW.step rfl rfl rfl (OpV.fieldAddr rfl fo_36_1) ?_
   refine hW.step rfl rfl rfl (OpV.loadBox rfl pt_3 (.head _) rfl) ?_
   refine hW.step rfl rfl rfl (OpV.addR rfl rfl) ?_
   refine hW.step rfl rfl rfl (OpV.subR rfl rfl) ?_
   refine hW.step rfl rfl rfl (OpV.call (evs.cons rfl (evs.cons rfl (evs.cons rfl (evs.nil)))) ca_39 (fun w hs => w_impl_within e1_19)) ?_
   refine hW.step rfl rfl rfl (OpV.not rfl) ?_
   refine hkz2 _ ?_ ?_
   exact rfl
   repeat (first | exact Sub.refl _ | refine Sub.skip rfl ?_)
  case az2 => exact rfl
  case bz2 => exact rfl
  case cz2 => exact rfl
  case dz2 => exact rfl
  refine hW.step rfl rfl rfl (OpV.move rfl) ?_
  refine hW.or 27 32 31 (p := ?pz3) (rest := ?qz3) (B := ?Bz3) rfl ?Tz3 ?Fz3 ?az3 ?bz3 ?cz3 ?dz3 ?ez3
  case Tz3 =>
   intro hcz3 hkz3
   refine hW.skip rfl rfl rfl ?_
   refine hW.skip rfl rfl rfl ?_
   refine hW.skip rfl rfl rfl ?_
   refine hW.skip rfl rfl rfl ?_
   refine hkz3 _ ?_
   repeat (first | exact Sub.refl _ | refine Sub.skip rfl ?_)
  case Fz3 =>
   intro hcz3 hkz3
   refine hW.step rfl rfl rfl (OpV.fieldAddr rfl fo_36_3) ?_
   refine hW.step rfl rfl rfl (OpV.loadBox rfl pt_34 (.head _) rfl) ?_
   refine hW.step rfl rfl rfl (OpV.len rfl si_34 rfl) ?_
   refine hW.step rfl rfl rfl (OpV.gtr rfl rfl) ?_
   refine hkz3 _ ?_ ?_
   exact rfl
   repeat (first | exact Sub.refl _ | refine Sub.skip rfl ?_)
  case az3 => exact rfl
  case bz3 => exact rfl
  case cz3 => exact rfl
  case dz3 => exact rfl
  refine hk _ ?_
  refine Sub.cons ?_ (Sub.cons ?_ (Sub.nil _))
  all_goals exact rfl
 refine En.next ?_
 refine WC.cond rfl ?_ ?_
 ·
  intro hc_1
  replace h := ifO_t hc_1 h
  refine WC.seq (WC.region ?_)
  refine sp (OpV.assign rfl) ?_
  refine WL.nil (En.next (WC.ret (En.then_ret ?_)))
  refine En.ret1 rfl (Res.tmp rfl) ?_
  obtain rfl := Option.some.inj h
  intro w' hs
  exact ⟨rfl, hs.below⟩
 ·
  intro hc_1
  replace h := ifO_f hc_1 h
  refine WC.skip (En.next (WC.seq (WC.seq (WC.region ?_))))
  refine sp (OpV.fieldAddr rfl fo_36_3) ?_
  refine sp (OpV.loadBox rfl pt_34 (.head _) rfl) ?_
  refine sp (OpV.len rfl si_34 rfl) ?_
  refine sp (OpV.move rfl) ?_
  refine WL.nil (En.next (WC.block ?_))
  obtain ⟨zy0, ezy0, h⟩ := bnd h
  refine WC.cut (X := (Unit) × (Unit)) (.exit 0) (fun x => zy0 = .inl x.1) (fun x => match x with | ((), ()) => []) (fun x => match x with | ((), ()) => []) ?_ ?_
  ·
   rintro ⟨⟨⟩, ⟨⟩⟩ hx
   replace hx : .inl () = zy0 := hx.symm
   subst hx
   replace h := fork_l h
   show En _ _ _ _ [] []
   refine En.block_exit (En.next (WC.seq (WC.region ?_)))
   refine sp (OpV.assign rfl) ?_
   refine WL.nil (En.next (WC.ret ?_))
   refine En.ret1 rfl (Res.tmp rfl) ?_
   obtain rfl := Option.some.inj h
   intro w' hs
   exact ⟨rfl, hs.below⟩
  ·
   intro zK0_0
   refine WC.loopP (G := Unit) (fun s g => match s, g with | v_0, () => [(34, .slice q0_0 p_p0.Frames.length k0_0), (35, .int .i64 (p_p0.Frames.length : Int)), (36, .int .i64 v_0)]) (fun s g => match s, g with | v_0, () => []) 0 () ezy0 (by exact Sub.cons rfl (Sub.cons rfl (Sub.cons rfl (Sub.nil _)))) (by exact (fun _ h => (h).sub (.cons _ (.slnil)))) ?_
   rintro zm0 v_0 ⟨⟩ zo0 zf0 zb0 ze0
   have zh0 : impl_PaceOk_L0 p_p0 v_0 = some zo0 := zf0
   unfold impl_PaceOk_L0 at zh0
   show WC _ _ _ _ _ [(34, .slice q0_0 p_p0.Frames.length k0_0), (35, .int .i64 (p_p0.Frames.length : Int)), (36, .int .i64 v_0)] []
   refine WC.seq (WC.region ?_)
   refine sp (OpV.lss rfl rfl) ?_
   refine WL.nil (En.next (WC.seq ?_))
   refine WC.cond rfl ?_ ?_
   ·
    intro hc_2
    replace zh0 := ifO_t hc_2 zh0
    refine WC.skip (En.next (WC.seq (WC.block (WC.seq ?_))))
    obtain ⟨x5_0, e5_0, zh0⟩ := bnd zh0
    obtain ⟨g5_0, o5_0, _, ha5_0, rfl, hd5_0⟩ := Rd.atIdx r0_0 e5_0
    replace hd5_0 : ∀ (j : Nat) v, ([.int .i64 x5_0] : List Value)[j]? = some v → w.cell? ⟨g5_0, o5_0 + v_0.toNat * 1 + j, .none⟩ = some v := hd5_0
    refine WC.region ?_
    refine sp (OpV.idxA rfl rfl se_34 ha5_0 ⟨(idx_some e5_0).1, (idx_some e5_0).2.1⟩) ?_
    refine sp (OpV.load1 rfl pt_3 (fun w hs => hs.cell (hd5_0 0 _ rfl))) ?_
    refine sp (OpV.assign rfl) ?_
    refine WL.nil (En.next (WC.seq ?_))
    obtain ⟨x6_1, e6_1, zh0⟩ := bnd zh0
    refine WC.region ?_
    refine sp (OpV.move rfl) ?_
    refine sp (OpV.call (evs.cons rfl (evs.cons rfl (evs.cons rfl (evs.nil)))) ca_39 (fun w hs => w_impl_within e6_1)) ?_
    refine sp (OpV.not rfl) ?_
    refine WL.nil (En.next ?_)
    refine WC.cond rfl ?_ ?_
    ·
     intro hc_3
     replace zh0 := ifO_t hc_3 zh0
     refine WC.seq (WC.region ?_)
     refine sp (OpV.assign rfl) ?_
     refine WL.nil (En.next (WC.ret (En.block_ret (En.then_ret (En.then_ret (En.block_ret (En.then_ret ?_)))))))
     refine En.ret1 rfl (Res.tmp rfl) ?_
     have hx := exitP ze0 zh0
     subst hx
     replace h := fork_r h
     obtain rfl := Option.some.inj h
     intro w' hs
     exact ⟨rfl, hs.below⟩
    ·
     intro hc_3
     replace zh0 := ifO_f hc_3 zh0
     refine WC.skip (En.block_norm (En.next (WC.region ?_)))
     refine sp (OpV.addR rfl rfl) ?_
     refine sp (OpV.move rfl) ?_
     refine WL.nil ?_
     exact En.backP zb0 zh0 () (Sub.cons rfl (Sub.cons rfl (Sub.cons rfl (Sub.nil _)))) (fun _ h => h)
   ·
    intro hc_2
    replace zh0 := ifO_f hc_2 zh0
    refine WC.exit (En.then_exit (En.then_exit ?_))
    have hx := exitP ze0 zh0
    exact En.wk _ _ (Sub.nil _) (fun _ h => h) (zK0_0 ((), ()) hx.symm)

end Go.Proofs.Ytmbohhfhhdopiaa
