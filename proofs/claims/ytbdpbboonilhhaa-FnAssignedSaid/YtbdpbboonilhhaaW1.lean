/- Walks: the program computes the pure functions. -/
import Derived.Test.YtbdpbboonilhhaaDefs
import Derived.Test.YtbdpbboonilhhaaFacts
import Derived.Test.YtbdpbboonilhhaaRepeat
namespace Go.Proofs.Ytbdpbboonilhhaa
open Go.RowKit K
set_option maxRecDepth 100000
set_option maxHeartbeats 4000000

theorem w_laws_big {code_p0 : List Int} {r : Bool} {q0_0 : Option Addr} {l0_0 k0_0 : Nat} (h : laws_big code_p0 = some r) {w : World} (r0_0 : Rd tU8 w q0_0 l0_0 k0_0 code_p0)   :
    Calls Try.prog 10 #[.slice q0_0 l0_0 k0_0] w (fun en w' => en = .returned (.bool r) ∧ Ext w w') := by
 obtain rfl := r0_0.1
 unfold laws_big at h
 refine enter (vs := [_]) Try.func10 rfl rfl rfl rfl ?_
 refine WC.sr ?_
 refine ag ?_
 refine WL.nil (En.next (WC.sr ?_))
 refine mv ?_
 refine sp (OpV.len rfl si_22 rfl) ?_
 refine sp (OpV.gtr rfl rfl) ?_
 refine ag ?_
 refine WL.nil (En.next (WC.ret ?_))
 refine En.ret1 rfl (Res.tmp rfl) ?_
 obtain rfl := Option.some.inj h
 intro w' hs
 exact ⟨rfl, hs.below⟩

theorem w_spec_l01New {code_p0 : List Int} {r : L01CurT} {q0_0 : Option Addr} {l0_0 k0_0 : Nat} (h : spec_l01New code_p0 = some r) {w : World} (r0_0 : Rd tU8 w q0_0 l0_0 k0_0 code_p0)   :
    Calls Try.prog 52 #[.slice q0_0 l0_0 k0_0] w (fun en w' => ∃ rv G, en = .returned rv ∧ (∃ (b0_p : Nat), rv = .pointer (some ⟨b0_p, 0, .none⟩) ∧ G = [Chunk.box b0_p 137 [.slice q0_0 l0_0 k0_0, .int .i64 r.i, .int .i64 r.h]]) ∧ St w G w') := by
 obtain rfl := r0_0.1
 unfold spec_l01New at h
 refine enter (vs := [_]) Try.func52 rfl rfl rfl rfl ?_
 refine WC.sr ?_
 refine ag ?_
 refine WL.nil (En.next (WC.sr ?_))
 refine mv ?_
 refine sp (OpV.len rfl si_22 rfl) ?_
 refine sp (OpV.addR rfl rfl) ?_
 refine ag ?_
 refine WL.nil (En.next (WC.seq (WC.sr ?_)))
 refine ag ?_
 refine WL.nil (En.next (WC.block ?_))
 obtain ⟨zy0, ezy0, h⟩ := bnd h
 refine WC.cut (X := (Int) × (Unit)) (.exit 0) (fun x => zy0 = x.1) (fun x => match x with | (h_0e, ()) => [(0, .slice q0_0 code_p0.length k0_0), (3, .int .i64 h_0e)]) (fun x => match x with | (h_0e, ()) => []) ?_ ?_
 ·
  rintro ⟨h_0e, ⟨⟩⟩ hx
  replace hx : h_0e = zy0 := hx.symm
  subst hx
  show En _ _ _ _ [(0, .slice q0_0 code_p0.length k0_0), (3, .int .i64 h_0e)] []
  refine En.block_exit (En.next (WC.sr ?_))
  refine mv ?_
  refine mv ?_
  refine sp (OpV.build (evps.cons rfl (evps.cons rfl (evps.nil))) (bd_137_0_2 _ _ _ _)) ?_
  refine WL.heavy rfl rfl rfl (OpH.box rfl rfl ?_)
  intro b6_3
  refine ag ?_
  refine WL.nil (En.next (WC.ret ?_))
  refine En.ret1 rfl (Res.tmp rfl) ?_
  obtain rfl := Option.some.inj h
  intro w' hs
  have hs := hs
  exact ⟨_, _, rfl, ⟨b6_3, rfl, rfl⟩, hs⟩
 ·
  intro zK0_0
  refine WC.loopP (G := Unit) (fun s g => match s, g with | (h_0, i_0), () => [(0, .slice q0_0 code_p0.length k0_0), (3, .int .i64 h_0), (4, .int .i64 i_0)]) (fun s g => match s, g with | (h_0, i_0), () => []) ((wr (33137 + (code_p0.length : Int))), 0) () ezy0 (by exact sc (sc (sc sn))) (by exact (fun _ h => h)) ?_
  rintro zm0 ⟨h_0, i_0⟩ ⟨⟩ zo0 zf0 zb0 ze0
  have zh0 : spec_l01New_L0 code_p0 h_0 i_0 = some zo0 := zf0
  unfold spec_l01New_L0 at zh0
  show WC _ _ _ _ _ [(0, .slice q0_0 code_p0.length k0_0), (3, .int .i64 h_0), (4, .int .i64 i_0)] []
  refine WC.seq (WC.sr ?_)
  refine mv ?_
  refine mv ?_
  refine sp (OpV.len rfl si_22 rfl) ?_
  refine sp (OpV.lss rfl rfl) ?_
  refine mv ?_
  refine Lt.ofWL.and 12 15 14 (p := ?pz1) (rest := ?qz1) (B := ?Bz1) rfl ?Tz1 ?Fz1 ?az1 ?bz1 ?cz1 ?dz1 ?ez1
  case Tz1 =>
   intro hcz1 hkz1
   refine mv ?_
   refine sp (OpV.lss rfl rfl) ?_
   refine hkz1 _ ?_ ?_
   exact rfl
   repeat (first | exact Sub.refl _ | refine Sub.skip rfl ?_)
  case Fz1 =>
   intro hcz1 hkz1
   refine sk ?_
   refine sk ?_
   refine hkz1 _ ?_
   repeat (first | exact Sub.refl _ | refine Sub.skip rfl ?_)
  case az1 => exact rfl
  case bz1 => exact rfl
  case cz1 => exact rfl
  case dz1 => exact rfl
  refine WL.nil (En.next ?_)
  refine WC.cond rfl ?_ ?_
  ·
   intro hc_1
   replace zh0 := ifO_t hc_1 zh0
   refine WC.skip (En.next (WC.seq (WC.block ?_)))
   obtain ⟨x5_4, e5_4, zh0⟩ := bnd zh0
   obtain ⟨g5_4, o5_4, _, ha5_4, rfl, hd5_4⟩ := Rd.atIdx r0_0 e5_4
   replace hd5_4 : ∀ (j : Nat) v, ([.int .u8 x5_4] : List Value)[j]? = some v → w.cell? ⟨g5_4, o5_4 + i_0.toNat * 1 + j, .none⟩ = some v := hd5_4
   refine WC.region ?_
   refine mv ?_
   refine sp (OpV.mulR rfl rfl) ?_
   refine mv ?_
   refine mv ?_
   refine sp (OpV.idxA rfl rfl se_22 ha5_4 ⟨(idx_some e5_4).1, (idx_some e5_4).2.1⟩) ?_
   refine sp (OpV.load1 rfl pt_5 (fun w hs => hs.cell (hd5_4 0 _ rfl))) ?_
   refine sp (OpV.convR rfl uS_5 ui_3_i64) ?_
   refine sp (OpV.addR rfl rfl) ?_
   refine sp (OpV.addR rfl rfl) ?_
   refine sp (OpV.andR rfl rfl) ?_
   refine ag ?_
   refine WL.nil (En.block_norm (En.next (WC.region ?_)))
   refine mv ?_
   refine sp (OpV.addR rfl rfl) ?_
   refine ag ?_
   refine WL.nil ?_
   exact En.backP zb0 zh0 () (sc (sc (sc sn))) (fun _ h => h)
  ·
   intro hc_1
   replace zh0 := ifO_f hc_1 zh0
   refine WC.exit (En.then_exit (En.then_exit ?_))
   have hx := exitP ze0 zh0
   exact En.wk _ _ (sc (sc sn)) (fun _ h => h) (zK0_0 (h_0, ()) hx.symm)

theorem w_spec_l01Byte {c_p0 : L01CurT} {r : Int × L01CurT} {b0 : Nat} {q0_0 : Option Addr} {l0_0 k0_0 : Nat} (h : spec_l01Byte c_p0 = some r) {w0 w : World} {C : List Chunk} (hs0 : St w0 (Chunk.box b0 137 [.slice q0_0 l0_0 k0_0, .int .i64 c_p0.i, .int .i64 c_p0.h] :: C) w) (r0_0 : ∀ w, St w0 C w → Rd tU8 w q0_0 l0_0 k0_0 c_p0.b) :
    Calls Try.prog 110 #[.pointer (some ⟨b0, 0, .none⟩)] w (fun en w' => ∃ rv G, en = .returned rv ∧ (rv = .int .i64 r.1 ∧ G = Chunk.box b0 137 [.slice q0_0 l0_0 k0_0, .int .i64 r.2.i, .int .i64 r.2.h] :: C) ∧ St w0 G w') := by
 obtain rfl := (r0_0 _ (St.tl (F := [_]) hs0)).1
 unfold spec_l01Byte at h
 refine enterF hs0 (vs := [_]) Try.func110 rfl rfl rfl rfl ?_
 refine WC.sr ?_
 refine ag ?_
 refine WL.nil (En.next (WC.sr ?_))
 refine mv ?_
 refine mv ?_
 refine sp (OpV.nilCheck rfl) ?_
 refine sp (OpV.fieldAddr rfl fo_137_2) ?_
 refine sp (OpV.loadBox rfl pt_3 mq0 rfl) ?_
 refine sp (OpV.mulR rfl rfl) ?_
 refine sp (OpV.addR rfl rfl) ?_
 refine sp (OpV.nilCheck rfl) ?_
 refine sp (OpV.fieldAddr rfl fo_137_2) ?_
 refine WL.heavy0 rfl rfl (OpH.storeTo (A := []) [_, _, _] rfl rfl rfl ts_3 rfl rfl rfl ?_)
 refine WL.nil (En.next (WC.seq ?_))
 refine WC.drawn [(0, ?r2v0), (3, ?r2v3)] (by kernel_rfl) (by kernel_rfl) ?dH2 ?dK2
 case dH2 =>
  intro W hW hk
  refine hW.mv ?_
  refine hW.sp (OpV.nilCheck rfl) ?_
  refine hW.sp (OpV.fieldAddr rfl fo_137_2) ?_
  refine hW.sp (OpV.loadBox rfl pt_3 mq0 rfl) ?_
  refine hW.sp (OpV.shrR rfl rfl rfl) ?_
  refine hW.mv ?_
  refine hW.sp (OpV.nilCheck rfl) ?_
  refine hW.sp (OpV.fieldAddr rfl fo_137_2) ?_
  refine hW.sp (OpV.loadBox rfl pt_3 mq0 rfl) ?_
  refine hW.sp (OpV.shrR rfl rfl rfl) ?_
  refine hW.sp (OpV.xorR rfl rfl) ?_
  refine hW.sp (OpV.andR rfl rfl) ?_
  refine hW.sp (OpV.assign rfl) ?_
  refine hk _ ?_
  refine Sub.cons ?_ (Sub.cons ?_ sn)
  all_goals exact rfl
 refine En.next (WC.seq (WC.seq ?_))
 refine WC.drawn [(0, ?r3v0), (3, ?r3v3), (34, ?r3v34)] (by kernel_rfl) (by kernel_rfl) ?dH3 ?dK3
 case dH3 =>
  intro W hW hk
  refine hW.mv ?_
  refine hW.sp (OpV.nilCheck rfl) ?_
  refine hW.sp (OpV.fieldAddr rfl fo_137_1) ?_
  refine hW.sp (OpV.loadBox rfl pt_3 mq0 rfl) ?_
  refine hW.mv ?_
  refine hW.sp (OpV.nilCheck rfl) ?_
  refine hW.sp (OpV.fieldAddr rfl fo_137_0) ?_
  refine hW.sp (OpV.loadBox rfl pt_22 mq0 rfl) ?_
  refine hW.sp (OpV.len rfl si_22 rfl) ?_
  refine hW.sp (OpV.lss rfl rfl) ?_
  refine hk _ ?_
  refine Sub.cons ?_ (Sub.cons ?_ (Sub.cons ?_ sn))
  all_goals exact rfl
 refine En.next ?_
 refine WC.cond rfl ?_ ?_
 ·
  intro hc_1
  replace h := ifO_t hc_1 h
  refine WC.seq ?_
  refine WC.inh fun hin4 => ?_
  obtain ⟨x4_9, e4_9, h⟩ := bnd h
  obtain ⟨g4_9, o4_9, ha4_9⟩ : ∃ b o, q0_0 = some ⟨b, o, .none⟩ := by obtain ⟨wi, hsi⟩ := hin4; obtain ⟨b, o, _, e, _⟩ := Rd.atIdx (r0_0 _ (St.tl (F := [_]) hsi)) e4_9; exact ⟨b, o, e⟩
  refine WC.drawn [(0, ?r4v0), (3, ?r4v3)] (by kernel_rfl) (by kernel_rfl) ?dH4 ?dK4
  case dH4 =>
   intro W hW hk
   refine hW.mv ?_
   refine hW.mv ?_
   refine hW.sp (OpV.nilCheck rfl) ?_
   refine hW.sp (OpV.fieldAddr rfl fo_137_0) ?_
   refine hW.sp (OpV.loadBox rfl pt_22 mq0 rfl) ?_
   refine hW.mv ?_
   refine hW.sp (OpV.nilCheck rfl) ?_
   refine hW.sp (OpV.fieldAddr rfl fo_137_1) ?_
   refine hW.sp (OpV.loadBox rfl pt_3 mq0 rfl) ?_
   refine hW.sp (OpV.idxA rfl rfl se_22 ha4_9 ⟨(idx_some e4_9).1, (idx_some e4_9).2.1⟩) ?_
   refine hW.sp (OpV.load1 rfl pt_5 (fun w hs => Rd.cell1 tU8_flat (r0_0 _ (St.tl (F := [_]) hs)) e4_9 ha4_9 rfl)) ?_
   refine hW.sp (OpV.convR rfl uS_5 ui_3_i64) ?_
   refine hW.sp (OpV.addR rfl rfl) ?_
   refine hW.sp (OpV.andR rfl rfl) ?_
   refine hW.sp (OpV.assign rfl) ?_
   refine hk _ ?_
   refine Sub.cons ?_ (Sub.cons ?_ sn)
   all_goals exact rfl
  refine En.next (WC.region ?_)
  refine mv ?_
  refine mv ?_
  refine sp (OpV.nilCheck rfl) ?_
  refine sp (OpV.fieldAddr rfl fo_137_1) ?_
  refine sp (OpV.loadBox rfl pt_3 mq0 rfl) ?_
  refine sp (OpV.addR rfl rfl) ?_
  refine sp (OpV.nilCheck rfl) ?_
  refine sp (OpV.fieldAddr rfl fo_137_1) ?_
  refine WL.heavy0 rfl rfl (OpH.storeTo (A := []) [_, _, _] rfl rfl rfl ts_3 rfl rfl rfl ?_)
  refine WL.nil (En.next (WC.sr ?_))
  refine mv ?_
  refine ag ?_
  refine WL.nil (En.next (WC.ret ?_))
  refine En.ret1 rfl (Res.tmp rfl) ?_
  obtain rfl := Option.some.inj h
  intro w' hs
  have hs := hs
  exact ⟨_, _, rfl, ⟨rfl, rfl⟩, hs⟩
 ·
  intro hc_1
  replace h := ifO_f hc_1 h
  refine WC.skip (En.next (WC.sr ?_))
  refine mv ?_
  refine ag ?_
  refine WL.nil (En.next (WC.ret ?_))
  refine En.ret1 rfl (Res.tmp rfl) ?_
  obtain rfl := Option.some.inj h
  intro w' hs
  have hs := hs
  exact ⟨_, _, rfl, ⟨rfl, rfl⟩, hs⟩

theorem w_spec_l01Below {c_p0 : L01CurT} {n_p1 : Int} {r : Int × L01CurT} {b0 : Nat} {q0_0 : Option Addr} {l0_0 k0_0 : Nat} (h : spec_l01Below c_p0 n_p1 = some r) {w0 w : World} {C : List Chunk} (hs0 : St w0 (Chunk.box b0 137 [.slice q0_0 l0_0 k0_0, .int .i64 c_p0.i, .int .i64 c_p0.h] :: C) w) (r0_0 : ∀ w, St w0 C w → Rd tU8 w q0_0 l0_0 k0_0 c_p0.b) :
    Calls Try.prog 53 #[.pointer (some ⟨b0, 0, .none⟩), .int .i64 n_p1] w (fun en w' => ∃ rv G, en = .returned rv ∧ (rv = .int .i64 r.1 ∧ G = Chunk.box b0 137 [.slice q0_0 l0_0 k0_0, .int .i64 r.2.i, .int .i64 r.2.h] :: C) ∧ St w0 G w') := by
 obtain rfl := (r0_0 _ (St.tl (F := [_]) hs0)).1
 unfold spec_l01Below at h
 refine enterF hs0 (vs := [_, _]) Try.func53 rfl rfl rfl rfl ?_
 refine WC.sr ?_
 refine ag ?_
 refine WL.nil (En.next (WC.seq (WC.sr ?_)))
 refine mv ?_
 refine sp (OpV.leq rfl rfl) ?_
 refine WL.nil (En.next ?_)
 refine WC.cond rfl ?_ ?_
 ·
  intro hc_1
  replace h := ifO_t hc_1 h
  refine WC.sr ?_
  refine ag ?_
  refine WL.nil (En.next (WC.ret (En.then_ret ?_)))
  refine En.ret1 rfl (Res.tmp rfl) ?_
  obtain rfl := Option.some.inj h
  intro w' hs
  have hs := hs
  exact ⟨_, _, rfl, ⟨rfl, rfl⟩, hs⟩
 ·
  intro hc_1
  replace h := ifO_f hc_1 h
  refine WC.skip (En.next (WC.seq (WC.sr ?_)))
  refine mv ?_
  refine sp (OpV.leq rfl rfl) ?_
  refine WL.nil (En.next ?_)
  refine WC.cond rfl ?_ ?_
  ·
   intro hc_2
   replace h := ifO_t hc_2 h
   refine WC.seq ?_
   obtain ⟨⟨x4_1a, x4_1b⟩, e4_1, h⟩ := bnd h
   obtain ⟨x4_3, e4_3, h⟩ := bnd h
   refine WC.region ?_
   refine mv ?_
   refine WL.heavy rfl rfl rfl (OpH.callX (ec rfl e0) ca_110 (fun w hs => w_spec_l01Byte e4_1 hs (fun w hs => (r0_0 _ (St.tl (F := []) hs)))) ?_)
   rintro _ _ ⟨rfl, rfl⟩
   refine mv ?_
   refine sp (OpV.remR rfl rfl e4_3) ?_
   refine ag ?_
   refine WL.nil (En.next (WC.ret (En.then_ret ?_)))
   refine En.ret1 rfl (Res.tmp rfl) ?_
   obtain rfl := Option.some.inj h
   intro w' hs
   have hs := hs
   exact ⟨_, _, rfl, ⟨rfl, rfl⟩, hs⟩
  ·
   intro hc_2
   replace h := ifO_f hc_2 h
   refine WC.skip (En.next (WC.seq ?_))
   obtain ⟨⟨x5_1a, x5_1b⟩, e5_1, h⟩ := bnd h
   refine WC.region ?_
   refine mv ?_
   refine WL.heavy rfl rfl rfl (OpH.callX (ec rfl e0) ca_110 (fun w hs => w_spec_l01Byte e5_1 hs (fun w hs => (r0_0 _ (St.tl (F := []) hs)))) ?_)
   rintro _ _ ⟨rfl, rfl⟩
   refine ag ?_
   refine WL.nil (En.next (WC.seq ?_))
   obtain ⟨⟨x6_1a, x6_1b⟩, e6_1, h⟩ := bnd h
   refine WC.region ?_
   refine mv ?_
   refine WL.heavy rfl rfl rfl (OpH.callX (ec rfl e0) ca_110 (fun w hs => w_spec_l01Byte e6_1 hs (fun w hs => (r0_0 _ (St.tl (F := []) hs)))) ?_)
   rintro _ _ ⟨rfl, rfl⟩
   refine ag ?_
   refine WL.nil (En.next (WC.seq ?_))
   obtain ⟨⟨x7_1a, x7_1b⟩, e7_1, h⟩ := bnd h
   refine WC.region ?_
   refine mv ?_
   refine WL.heavy rfl rfl rfl (OpH.callX (ec rfl e0) ca_110 (fun w hs => w_spec_l01Byte e7_1 hs (fun w hs => (r0_0 _ (St.tl (F := []) hs)))) ?_)
   rintro _ _ ⟨rfl, rfl⟩
   refine ag ?_
   refine WL.nil (En.next (WC.seq ?_))
   obtain ⟨⟨x8_1a, x8_1b⟩, e8_1, h⟩ := bnd h
   refine WC.region ?_
   refine mv ?_
   refine WL.heavy rfl rfl rfl (OpH.callX (ec rfl e0) ca_110 (fun w hs => w_spec_l01Byte e8_1 hs (fun w hs => (r0_0 _ (St.tl (F := []) hs)))) ?_)
   rintro _ _ ⟨rfl, rfl⟩
   refine ag ?_
   refine WL.nil (En.next (WC.seq ?_))
   obtain ⟨x9_11, e9_11, h⟩ := bnd h
   refine WC.region ?_
   refine mv ?_
   refine sp (OpV.mulR rfl rfl) ?_
   refine mv ?_
   refine sp (OpV.mulR rfl rfl) ?_
   refine sp (OpV.addR rfl rfl) ?_
   refine mv ?_
   refine sp (OpV.mulR rfl rfl) ?_
   refine sp (OpV.addR rfl rfl) ?_
   refine mv ?_
   refine sp (OpV.addR rfl rfl) ?_
   refine mv ?_
   refine sp (OpV.remR rfl rfl e9_11) ?_
   refine ag ?_
   refine WL.nil (En.next (WC.ret ?_))
   refine En.ret1 rfl (Res.tmp rfl) ?_
   obtain rfl := Option.some.inj h
   intro w' hs
   have hs := hs
   exact ⟨_, _, rfl, ⟨rfl, rfl⟩, hs⟩

theorem w_spec_l01PickInt {c_p0 : L01CurT} {list_p1 : List Int} {r : Int × L01CurT} {b0 : Nat} {q0_0 : Option Addr} {l0_0 k0_0 : Nat} {q1_0 : Option Addr} {l1_0 k1_0 : Nat} (h : spec_l01PickInt c_p0 list_p1 = some r) {w0 w : World} {C : List Chunk} (hs0 : St w0 (Chunk.box b0 137 [.slice q0_0 l0_0 k0_0, .int .i64 c_p0.i, .int .i64 c_p0.h] :: C) w) (r0_0 : ∀ w, St w0 C w → Rd tU8 w q0_0 l0_0 k0_0 c_p0.b) (r1_0 : ∀ w, St w0 C w → Rd tInt w q1_0 l1_0 k1_0 list_p1) :
    Calls Try.prog 116 #[.pointer (some ⟨b0, 0, .none⟩), .slice q1_0 l1_0 k1_0] w (fun en w' => ∃ rv G, en = .returned rv ∧ (rv = .int .i64 r.1 ∧ G = Chunk.box b0 137 [.slice q0_0 l0_0 k0_0, .int .i64 r.2.i, .int .i64 r.2.h] :: C) ∧ St w0 G w') := by
 obtain rfl := (r0_0 _ (St.tl (F := [_]) hs0)).1
 obtain rfl := (r1_0 _ (St.tl (F := [_]) hs0)).1
 unfold spec_l01PickInt at h
 refine enterF hs0 (vs := [_, _]) Try.func116 rfl rfl rfl rfl ?_
 refine WC.sr ?_
 refine ag ?_
 refine WL.nil (En.next (WC.seq ?_))
 refine WC.inh fun hin1 => ?_
 obtain ⟨⟨x1_4a, x1_4b⟩, e1_4, h⟩ := bnd h
 obtain ⟨x1_5, e1_5, h⟩ := bnd h
 obtain ⟨g1_5, o1_5, ha1_5⟩ : ∃ b o, q1_0 = some ⟨b, o, .none⟩ := by obtain ⟨wi, hsi⟩ := hin1; obtain ⟨b, o, _, e, _⟩ := Rd.atIdx (r1_0 _ (St.tl (F := [_]) hsi)) e1_5; exact ⟨b, o, e⟩
 refine WC.region ?_
 refine mv ?_
 refine mv ?_
 refine mv ?_
 refine sp (OpV.len rfl si_28 rfl) ?_
 refine WL.heavy rfl rfl rfl (OpH.callX (ec rfl (ec rfl e0)) ca_53 (fun w hs => w_spec_l01Below e1_4 hs (fun w hs => (r0_0 _ (St.tl (F := []) hs)))) ?_)
 rintro _ _ ⟨rfl, rfl⟩
 refine sp (OpV.idxA rfl rfl se_28 ha1_5 ⟨(idx_some e1_5).1, (idx_some e1_5).2.1⟩) ?_
 refine sp (OpV.load1 rfl pt_3 (fun w hs => Rd.cell1 tInt_flat (r1_0 _ (St.tl (F := [_]) hs)) e1_5 ha1_5 rfl)) ?_
 refine ag ?_
 refine WL.nil (En.next (WC.ret ?_))
 refine En.ret1 rfl (Res.tmp rfl) ?_
 obtain rfl := Option.some.inj h
 intro w' hs
 have hs := hs
 exact ⟨_, _, rfl, ⟨rfl, rfl⟩, hs⟩

theorem w_spec_l04Byte {c_p0 : L01CurT} {r : Int × L01CurT} {b0 : Nat} {q0_0 : Option Addr} {l0_0 k0_0 : Nat} (h : spec_l04Byte c_p0 = some r) {w0 w : World} {C : List Chunk} (hs0 : St w0 (Chunk.box b0 137 [.slice q0_0 l0_0 k0_0, .int .i64 c_p0.i, .int .i64 c_p0.h] :: C) w) (r0_0 : ∀ w, St w0 C w → Rd tU8 w q0_0 l0_0 k0_0 c_p0.b) :
    Calls Try.prog 157 #[.pointer (some ⟨b0, 0, .none⟩)] w (fun en w' => ∃ rv G, en = .returned rv ∧ (rv = .int .i64 r.1 ∧ G = Chunk.box b0 137 [.slice q0_0 l0_0 k0_0, .int .i64 r.2.i, .int .i64 r.2.h] :: C) ∧ St w0 G w') := by
 obtain rfl := (r0_0 _ (St.tl (F := [_]) hs0)).1
 unfold spec_l04Byte at h
 refine enterF hs0 (vs := [_]) Try.func157 rfl rfl rfl rfl ?_
 refine WC.sr ?_
 refine ag ?_
 refine WL.nil (En.next (WC.seq ?_))
 obtain ⟨⟨x1_2a, x1_2b⟩, e1_2, h⟩ := bnd h
 obtain ⟨⟨x1_4a, x1_4b⟩, e1_4, h⟩ := bnd h
 refine WC.region ?_
 refine mv ?_
 refine mv ?_
 refine WL.heavy rfl rfl rfl (OpH.callX (ec rfl (ec rfl e0)) ca_53 (fun w hs => w_spec_l01Below e1_2 hs (fun w hs => (r0_0 _ (St.tl (F := []) hs)))) ?_)
 rintro _ _ ⟨rfl, rfl⟩
 refine WL.heavy rfl rfl rfl (OpH.litF (A := tInt) (xs := [0, 255, 127, 128, 1, 254, x1_2a]) tInt_flat (evps.cons rfl (evps.cons rfl (evps.cons rfl (evps.cons rfl (evps.cons rfl (evps.cons rfl (evps.cons rfl (evps.nil)))))))) (bs_28_7_0_1_2_3_4_5_6 _ _ _ _ _ _ _) rfl rfl (Nat.le_of_ble_eq_true rfl) ?_)
 intro b1_3
 refine WL.wkF (fun _ h => h.pm 1) ?_
 refine WL.heavy rfl rfl rfl (OpH.callX (ec rfl (ec rfl e0)) ca_116 (fun w hs => w_spec_l01PickInt e1_4 hs (fun w hs => (r0_0 _ (St.tl (F := [_]) hs))) (fun w hs => (Ow.rd (hs.mem mq0)))) ?_)
 rintro _ _ ⟨rfl, rfl⟩
 refine ag ?_
 refine WL.nil (En.next (WC.ret ?_))
 refine En.ret1 rfl (Res.tmp rfl) ?_
 obtain rfl := Option.some.inj h
 intro w' hs
 have hs := (hs).sub (.cons_cons _ (.cons _ (List.Sublist.refl _)))
 exact ⟨_, _, rfl, ⟨rfl, rfl⟩, hs⟩

theorem w_spec_l01In {x_p0 : Int} {least_p1 : Int} {most_p2 : Int} {r : Bool}  (h : spec_l01In x_p0 least_p1 most_p2 = some r) {w : World}    :
    Calls Try.prog 56 #[.int .i64 x_p0, .int .i64 least_p1, .int .i64 most_p2] w (fun en w' => en = .returned (.bool r) ∧ Ext w w') := by
 unfold spec_l01In at h
 refine enter (vs := [_, _, _]) Try.func56 rfl rfl rfl rfl ?_
 refine WC.sr ?_
 refine ag ?_
 refine WL.nil (En.next (WC.sr ?_))
 refine mv ?_
 refine mv ?_
 refine sp (OpV.geq rfl rfl) ?_
 refine mv ?_
 refine Lt.ofWL.and 10 14 13 (p := ?pz1) (rest := ?qz1) (B := ?Bz1) rfl ?Tz1 ?Fz1 ?az1 ?bz1 ?cz1 ?dz1 ?ez1
 case Tz1 =>
  intro hcz1 hkz1
  refine mv ?_
  refine mv ?_
  refine sp (OpV.leq rfl rfl) ?_
  refine hkz1 _ ?_ ?_
  exact rfl
  repeat (first | exact Sub.refl _ | refine Sub.skip rfl ?_)
 case Fz1 =>
  intro hcz1 hkz1
  refine sk ?_
  refine sk ?_
  refine sk ?_
  refine hkz1 _ ?_
  repeat (first | exact Sub.refl _ | refine Sub.skip rfl ?_)
 case az1 => exact rfl
 case bz1 => exact rfl
 case cz1 => exact rfl
 case dz1 => exact rfl
 refine ag ?_
 refine WL.nil (En.next (WC.ret ?_))
 refine En.ret1 rfl (Res.tmp rfl) ?_
 obtain rfl := Option.some.inj h
 intro w' hs
 exact ⟨rfl, hs.below⟩

theorem w_spec_MakePixel {a_p0 : Int} {r_p1 : Int} {g_p2 : Int} {b_p3 : Int} {r : Int}  (h : spec_MakePixel a_p0 r_p1 g_p2 b_p3 = some r) {w : World}    :
    Calls Try.prog 158 #[.int .i64 a_p0, .int .i64 r_p1, .int .i64 g_p2, .int .i64 b_p3] w (fun en w' => en = .returned (.int .i64 r) ∧ Ext w w') := by
 unfold spec_MakePixel at h
 refine enter (vs := [_, _, _, _]) Try.func158 rfl rfl rfl rfl ?_
 refine WC.sr ?_
 refine ag ?_
 refine WL.nil (En.next (WC.seq (WC.seq ?_)))
 obtain ⟨x1_1, e1_1, h⟩ := bnd h
 obtain ⟨q1_7, e1_7, h⟩ := bnd h
 obtain ⟨q1_12, e1_12, h⟩ := bnd h
 obtain ⟨q1_17, e1_17, h⟩ := bnd h
 refine WC.region ?_
 refine mv ?_
 refine sp (OpV.call (ec rfl (ec rfl (ec rfl e0))) ca_56 (fun w hs => w_spec_l01In e1_1)) ?_
 refine sp (OpV.not rfl) ?_
 refine mv ?_
 refine Lt.ofWL.orQ 12 16 15 (p := ?pz1) (rest := ?qz1) (B := q1_7) rfl (fun hz => orO_t e1_7 hz) ?Tz1 ?Fz1 ?az1 ?bz1 ?cz1 ?dz1 ?ez1
 case Tz1 =>
  intro hcz1 hkz1
  refine sk ?_
  refine sk ?_
  refine sk ?_
  refine hkz1 _ ?_
  repeat (first | exact Sub.refl _ | refine Sub.skip rfl ?_)
 case Fz1 =>
  intro hcz1 hkz1
  have hqz1 := orO_f e1_7 hcz1
  obtain ⟨x1_5, e1_5, hqz1⟩ := bnd hqz1
  obtain rfl := Option.some.inj hqz1
  refine mv ?_
  refine sp (OpV.call (ec rfl (ec rfl (ec rfl e0))) ca_56 (fun w hs => w_spec_l01In e1_5)) ?_
  refine sp (OpV.not rfl) ?_
  refine hkz1 _ ?_ ?_
  exact rfl
  repeat (first | exact Sub.refl _ | refine Sub.skip rfl ?_)
 case az1 => exact rfl
 case bz1 => exact rfl
 case cz1 => exact rfl
 case dz1 => exact rfl
 refine mv ?_
 refine Lt.ofWL.orQ 17 21 20 (p := ?pz2) (rest := ?qz2) (B := q1_12) rfl (fun hz => orO_t e1_12 hz) ?Tz2 ?Fz2 ?az2 ?bz2 ?cz2 ?dz2 ?ez2
 case Tz2 =>
  intro hcz2 hkz2
  refine sk ?_
  refine sk ?_
  refine sk ?_
  refine hkz2 _ ?_
  repeat (first | exact Sub.refl _ | refine Sub.skip rfl ?_)
 case Fz2 =>
  intro hcz2 hkz2
  have hqz2 := orO_f e1_12 hcz2
  obtain ⟨x1_10, e1_10, hqz2⟩ := bnd hqz2
  obtain rfl := Option.some.inj hqz2
  refine mv ?_
  refine sp (OpV.call (ec rfl (ec rfl (ec rfl e0))) ca_56 (fun w hs => w_spec_l01In e1_10)) ?_
  refine sp (OpV.not rfl) ?_
  refine hkz2 _ ?_ ?_
  exact rfl
  repeat (first | exact Sub.refl _ | refine Sub.skip rfl ?_)
 case az2 => exact rfl
 case bz2 => exact rfl
 case cz2 => exact rfl
 case dz2 => exact rfl
 refine mv ?_
 refine Lt.ofWL.orQ 22 26 25 (p := ?pz3) (rest := ?qz3) (B := q1_17) rfl (fun hz => orO_t e1_17 hz) ?Tz3 ?Fz3 ?az3 ?bz3 ?cz3 ?dz3 ?ez3
 case Tz3 =>
  intro hcz3 hkz3
  refine sk ?_
  refine sk ?_
  refine sk ?_
  refine hkz3 _ ?_
  repeat (first | exact Sub.refl _ | refine Sub.skip rfl ?_)
 case Fz3 =>
  intro hcz3 hkz3
  have hqz3 := orO_f e1_17 hcz3
  obtain ⟨x1_15, e1_15, hqz3⟩ := bnd hqz3
  obtain rfl := Option.some.inj hqz3
  refine mv ?_
  refine sp (OpV.call (ec rfl (ec rfl (ec rfl e0))) ca_56 (fun w hs => w_spec_l01In e1_15)) ?_
  refine sp (OpV.not rfl) ?_
  refine hkz3 _ ?_ ?_
  exact rfl
  repeat (first | exact Sub.refl _ | refine Sub.skip rfl ?_)
 case az3 => exact rfl
 case bz3 => exact rfl
 case cz3 => exact rfl
 case dz3 => exact rfl
 refine WL.nil (En.next ?_)
 refine WC.cond rfl ?_ ?_
 ·
  intro hc_1
  replace h := ifO_t hc_1 h
  refine WC.sr ?_
  refine ag ?_
  refine WL.nil (En.next (WC.ret (En.then_ret ?_)))
  refine En.ret1 rfl (Res.tmp rfl) ?_
  obtain rfl := Option.some.inj h
  intro w' hs
  exact ⟨rfl, hs.below⟩
 ·
  intro hc_1
  replace h := ifO_f hc_1 h
  refine WC.skip (En.next (WC.sr ?_))
  refine mv ?_
  refine sp (OpV.shlR rfl rfl rfl) ?_
  refine mv ?_
  refine sp (OpV.shlR rfl rfl rfl) ?_
  refine sp (OpV.addR rfl rfl) ?_
  refine mv ?_
  refine sp (OpV.shlR rfl rfl rfl) ?_
  refine sp (OpV.addR rfl rfl) ?_
  refine mv ?_
  refine sp (OpV.addR rfl rfl) ?_
  refine ag ?_
  refine WL.nil (En.next (WC.ret ?_))
  refine En.ret1 rfl (Res.tmp rfl) ?_
  obtain rfl := Option.some.inj h
  intro w' hs
  exact ⟨rfl, hs.below⟩

theorem w_spec_l04Draw {c_p0 : L01CurT} {r : Int × L01CurT} {b0 : Nat} {q0_0 : Option Addr} {l0_0 k0_0 : Nat} (h : spec_l04Draw c_p0 = some r) {w0 w : World} {C : List Chunk} (hs0 : St w0 (Chunk.box b0 137 [.slice q0_0 l0_0 k0_0, .int .i64 c_p0.i, .int .i64 c_p0.h] :: C) w) (r0_0 : ∀ w, St w0 C w → Rd tU8 w q0_0 l0_0 k0_0 c_p0.b) :
    Calls Try.prog 111 #[.pointer (some ⟨b0, 0, .none⟩)] w (fun en w' => ∃ rv G, en = .returned rv ∧ (rv = .int .i64 r.1 ∧ G = Chunk.box b0 137 [.slice q0_0 l0_0 k0_0, .int .i64 r.2.i, .int .i64 r.2.h] :: C) ∧ St w0 G w') := by
 obtain rfl := (r0_0 _ (St.tl (F := [_]) hs0)).1
 unfold spec_l04Draw at h
 refine enterF hs0 (vs := [_]) Try.func111 rfl rfl rfl rfl ?_
 refine WC.sr ?_
 refine ag ?_
 refine WL.nil (En.next (WC.seq ?_))
 obtain ⟨⟨x1_2a, x1_2b⟩, e1_2, h⟩ := bnd h
 obtain ⟨⟨x1_4a, x1_4b⟩, e1_4, h⟩ := bnd h
 refine WC.region ?_
 refine mv ?_
 refine mv ?_
 refine WL.heavy rfl rfl rfl (OpH.callX (ec rfl (ec rfl e0)) ca_53 (fun w hs => w_spec_l01Below e1_2 hs (fun w hs => (r0_0 _ (St.tl (F := []) hs)))) ?_)
 rintro _ _ ⟨rfl, rfl⟩
 refine WL.heavy rfl rfl rfl (OpH.litF (A := tInt) (xs := [255, 255, 255, 0, 128, 200, x1_2a]) tInt_flat (evps.cons rfl (evps.cons rfl (evps.cons rfl (evps.cons rfl (evps.cons rfl (evps.cons rfl (evps.cons rfl (evps.nil)))))))) (bs_28_7_0_1_2_3_4_5_6 _ _ _ _ _ _ _) rfl rfl (Nat.le_of_ble_eq_true rfl) ?_)
 intro b1_3
 refine WL.wkF (fun _ h => h.pm 1) ?_
 refine WL.heavy rfl rfl rfl (OpH.callX (ec rfl (ec rfl e0)) ca_116 (fun w hs => w_spec_l01PickInt e1_4 hs (fun w hs => (r0_0 _ (St.tl (F := [_]) hs))) (fun w hs => (Ow.rd (hs.mem mq0)))) ?_)
 rintro _ _ ⟨rfl, rfl⟩
 refine ag ?_
 refine WL.nil (En.next (WC.seq ?_))
 obtain ⟨⟨x2_1a, x2_1b⟩, e2_1, h⟩ := bnd h
 refine WC.region ?_
 refine mv ?_
 refine WL.heavy rfl rfl rfl (OpH.callX (ec rfl e0) ca_157 (fun w hs => w_spec_l04Byte e2_1 hs (fun w hs => (r0_0 _ (St.tl (F := [_]) hs)))) ?_)
 rintro _ _ ⟨rfl, rfl⟩
 refine ag ?_
 refine WL.nil (En.next (WC.seq ?_))
 obtain ⟨⟨x3_1a, x3_1b⟩, e3_1, h⟩ := bnd h
 refine WC.region ?_
 refine mv ?_
 refine WL.heavy rfl rfl rfl (OpH.callX (ec rfl e0) ca_157 (fun w hs => w_spec_l04Byte e3_1 hs (fun w hs => (r0_0 _ (St.tl (F := [_]) hs)))) ?_)
 rintro _ _ ⟨rfl, rfl⟩
 refine ag ?_
 refine WL.nil (En.next (WC.seq ?_))
 obtain ⟨⟨x4_4a, x4_4b⟩, e4_4, h⟩ := bnd h
 obtain ⟨x4_5, e4_5, h⟩ := bnd h
 refine WC.region ?_
 refine mv ?_
 refine mv ?_
 refine mv ?_
 refine mv ?_
 refine WL.heavy rfl rfl rfl (OpH.callX (ec rfl e0) ca_157 (fun w hs => w_spec_l04Byte e4_4 hs (fun w hs => (r0_0 _ (St.tl (F := [_]) hs)))) ?_)
 rintro _ _ ⟨rfl, rfl⟩
 refine sp (OpV.call (ec rfl (ec rfl (ec rfl (ec rfl e0)))) ca_158 (fun w hs => w_spec_MakePixel e4_5)) ?_
 refine ag ?_
 refine WL.nil (En.next (WC.ret ?_))
 refine En.ret1 rfl (Res.tmp rfl) ?_
 obtain rfl := Option.some.inj h
 intro w' hs
 have hs := (hs).sub (.cons_cons _ (.cons _ (List.Sublist.refl _)))
 exact ⟨_, _, rfl, ⟨rfl, rfl⟩, hs⟩

theorem w_spec_l04Pixel {p_p0 : Int} {r : Bool}  (h : spec_l04Pixel p_p0 = some r) {w : World}    :
    Calls Try.prog 57 #[.int .i64 p_p0] w (fun en w' => en = .returned (.bool r) ∧ Ext w w') := by
 unfold spec_l04Pixel at h
 refine enter (vs := [_]) Try.func57 rfl rfl rfl rfl ?_
 refine WC.sr ?_
 refine ag ?_
 refine WL.nil (En.next (WC.seq ?_))
 obtain ⟨x1_1, e1_1, h⟩ := bnd h
 refine WC.region ?_
 refine mv ?_
 refine sp (OpV.call (ec rfl (ec rfl (ec rfl e0))) ca_56 (fun w hs => w_spec_l01In e1_1)) ?_
 refine ag ?_
 refine WL.nil (En.next (WC.ret ?_))
 refine En.ret1 rfl (Res.tmp rfl) ?_
 obtain rfl := Option.some.inj h
 intro w' hs
 exact ⟨rfl, hs.below⟩

theorem w_spec_NewImage {w_p0 : Int} {h_p1 : Int} {p_p2 : Int} {r : ImageT}  (h : spec_NewImage w_p0 h_p1 p_p2 = some r) {w : World}    :
    Calls Try.prog 14 #[.int .i64 w_p0, .int .i64 h_p1, .int .i64 p_p2] w (fun en w' => ∃ rv G, en = .returned rv ∧ (∃ (a0_0 : Option Addr) (n0_0 : Nat) (c0_0 : Nat) (f0_0 : List Nat), rv = .agg #[.int .i64 r.W, .int .i64 r.H, .slice a0_0 n0_0 c0_0] ∧ G = [Chunk.own tInt f0_0 a0_0 n0_0 c0_0 r.Data]) ∧ St w G w') := by
 unfold spec_NewImage at h
 refine enter (vs := [_, _, _]) Try.func14 rfl rfl rfl rfl ?_
 refine WC.sr ?_
 refine WL.heavy rfl rfl rfl (OpH.alloc zc_33 ?_)
 intro b0_0
 refine WL.nil (En.next (WC.seq (WC.seq ?_)))
 obtain ⟨x1_1, e1_1, h⟩ := bnd h
 obtain ⟨q1_7, e1_7, h⟩ := bnd h
 obtain ⟨q1_12, e1_12, h⟩ := bnd h
 refine WC.region ?_
 refine mv ?_
 refine sp (OpV.call (ec rfl (ec rfl (ec rfl e0))) ca_56 (fun w hs => w_spec_l01In e1_1)) ?_
 refine sp (OpV.not rfl) ?_
 refine mv ?_
 refine Lt.ofWL.orQ 12 16 15 (p := ?pz1) (rest := ?qz1) (B := q1_7) rfl (fun hz => orO_t e1_7 hz) ?Tz1 ?Fz1 ?az1 ?bz1 ?cz1 ?dz1 ?ez1
 case Tz1 =>
  intro hcz1 hkz1
  refine sk ?_
  refine sk ?_
  refine sk ?_
  refine hkz1 _ ?_
  repeat (first | exact Sub.refl _ | refine Sub.skip rfl ?_)
 case Fz1 =>
  intro hcz1 hkz1
  have hqz1 := orO_f e1_7 hcz1
  obtain ⟨x1_5, e1_5, hqz1⟩ := bnd hqz1
  obtain rfl := Option.some.inj hqz1
  refine mv ?_
  refine sp (OpV.call (ec rfl (ec rfl (ec rfl e0))) ca_56 (fun w hs => w_spec_l01In e1_5)) ?_
  refine sp (OpV.not rfl) ?_
  refine hkz1 _ ?_ ?_
  exact rfl
  repeat (first | exact Sub.refl _ | refine Sub.skip rfl ?_)
 case az1 => exact rfl
 case bz1 => exact rfl
 case cz1 => exact rfl
 case dz1 => exact rfl
 refine mv ?_
 refine Lt.ofWL.orQ 17 21 20 (p := ?pz2) (rest := ?qz2) (B := q1_12) rfl (fun hz => orO_t e1_12 hz) ?Tz2 ?Fz2 ?az2 ?bz2 ?cz2 ?dz2 ?ez2
 case Tz2 =>
  intro hcz2 hkz2
  refine sk ?_
  refine sk ?_
  refine sk ?_
  refine hkz2 _ ?_
  repeat (first | exact Sub.refl _ | refine Sub.skip rfl ?_)
 case Fz2 =>
  intro hcz2 hkz2
  have hqz2 := orO_f e1_12 hcz2
  obtain ⟨x1_10, e1_10, hqz2⟩ := bnd hqz2
  obtain rfl := Option.some.inj hqz2
  refine mv ?_
  refine sp (OpV.call (ec rfl e0) ca_57 (fun w hs => w_spec_l04Pixel e1_10)) ?_
  refine sp (OpV.not rfl) ?_
  refine hkz2 _ ?_ ?_
  exact rfl
  repeat (first | exact Sub.refl _ | refine Sub.skip rfl ?_)
 case az2 => exact rfl
 case bz2 => exact rfl
 case cz2 => exact rfl
 case dz2 => exact rfl
 refine WL.nil (En.next ?_)
 refine WC.cond rfl ?_ ?_
 ·
  intro hc_1
  replace h := ifO_t hc_1 h
  refine WC.sr ?_
  refine sp (OpV.build (evps.nil) bd_33_) ?_
  refine WL.heavy0 rfl rfl (OpH.storeTo (A := []) [_, _, _] rfl rfl rfl ts_33 rfl rfl rfl ?_)
  refine WL.nil (En.next (WC.ret (En.then_ret ?_)))
  refine En.ret1 rfl (Res.cell rfl mq0 ag_33) ?_
  obtain rfl := Option.some.inj h
  intro w' hs
  have hs := ((hs).ownNil (A := tInt)).sub (.cons_cons _ (.cons _ (.slnil)))
  exact ⟨_, _, rfl, ⟨.none, 0, 0, [], rfl, rfl⟩, hs⟩
 ·
  intro hc_1
  replace h := ifO_f hc_1 h
  refine WC.skip (En.next (WC.sr ?_))
  refine mv ?_
  refine mv ?_
  refine sp (OpV.build (evps.cons rfl (evps.cons rfl (evps.nil))) (bd_33_0_1 _ _)) ?_
  refine WL.heavy rfl rfl rfl (OpH.alloc zc_33 ?_)
  intro b3_3
  refine WL.heavy0 rfl rfl (OpH.storeTo (A := []) [_, _, _] rfl rfl rfl ts_33 rfl rfl rfl ?_)
  refine WL.nil (En.next (WC.seq (WC.sr ?_)))
  refine ag ?_
  refine WL.nil (En.next (WC.block ?_))
  obtain ⟨zy0, ezy0, h⟩ := bnd h
  refine WC.cut (X := ((List Int)) × ((Option Addr) × Nat × Nat × (List Nat))) (.exit 0) (fun x => zy0 = x.1) (fun x => match x with | (i_0e, (ai_0e, ni_0e, ci_0e, fi_0e)) => [(6, .pointer (some ⟨b0_0, 0, .none⟩)), (7, .pointer (some ⟨b3_3, 0, .none⟩))]) (fun x => match x with | (i_0e, (ai_0e, ni_0e, ci_0e, fi_0e)) => [Chunk.box b0_0 33 [.int .i64 0, .int .i64 0, .slice .none 0 0], Chunk.box b3_3 33 [.int .i64 w_p0, .int .i64 h_p1, .slice ai_0e ni_0e ci_0e], Chunk.own tInt fi_0e ai_0e ni_0e ci_0e i_0e]) ?_ ?_
  ·
   rintro ⟨i_0e, ⟨ai_0e, ni_0e, ci_0e, fi_0e⟩⟩ hx
   replace hx : i_0e = zy0 := hx.symm
   subst hx
   show En _ _ _ _ [(6, .pointer (some ⟨b0_0, 0, .none⟩)), (7, .pointer (some ⟨b3_3, 0, .none⟩))] [Chunk.box b0_0 33 [.int .i64 0, .int .i64 0, .slice .none 0 0], Chunk.box b3_3 33 [.int .i64 w_p0, .int .i64 h_p1, .slice ai_0e ni_0e ci_0e], Chunk.own tInt fi_0e ai_0e ni_0e ci_0e i_0e]
   refine En.block_exit (En.next (WC.sr ?_))
   refine sp (OpV.loadAll rfl mq1 ag_33) ?_
   refine WL.heavy0 rfl rfl (OpH.storeTo (A := []) [_, _, _] rfl rfl rfl ts_33 rfl rfl rfl ?_)
   refine WL.nil (En.next (WC.ret ?_))
   refine En.ret1 rfl (Res.cell rfl mq0 ag_33) ?_
   obtain rfl := Option.some.inj h
   intro w' hs
   have hs := ((hs).pm 2).sub (.cons_cons _ (.cons _ (.cons _ (.slnil))))
   exact ⟨_, _, rfl, ⟨ai_0e, ni_0e, ci_0e, fi_0e, rfl, rfl⟩, hs⟩
  ·
   intro zK0_0
   refine WC.loopP (G := (Option Addr) × Nat × Nat × (List Nat)) (fun s g => match s, g with | (i_0, k_0), (ai_0, ni_0, ci_0, fi_0) => [(0, .int .i64 w_p0), (1, .int .i64 h_p1), (2, .int .i64 p_p2), (6, .pointer (some ⟨b0_0, 0, .none⟩)), (7, .pointer (some ⟨b3_3, 0, .none⟩)), (8, .int .i64 k_0)]) (fun s g => match s, g with | (i_0, k_0), (ai_0, ni_0, ci_0, fi_0) => [Chunk.box b0_0 33 [.int .i64 0, .int .i64 0, .slice .none 0 0], Chunk.box b3_3 33 [.int .i64 w_p0, .int .i64 h_p1, .slice ai_0 ni_0 ci_0], Chunk.own tInt fi_0 ai_0 ni_0 ci_0 i_0]) ([], 0) (.none, 0, 0, []) ezy0 (by exact sc (sc (sc (sc (sc (sc sn)))))) (by exact (fun _ h => (((h).ownNil (A := tInt)).pm 1).pm 2)) ?_
   rintro zm0 ⟨i_0, k_0⟩ ⟨ai_0, ni_0, ci_0, fi_0⟩ zo0 zf0 zb0 ze0
   have zh0 : spec_NewImage_L0 w_p0 h_p1 p_p2 i_0 k_0 = some zo0 := zf0
   unfold spec_NewImage_L0 at zh0
   show WC _ _ _ _ _ [(0, .int .i64 w_p0), (1, .int .i64 h_p1), (2, .int .i64 p_p2), (6, .pointer (some ⟨b0_0, 0, .none⟩)), (7, .pointer (some ⟨b3_3, 0, .none⟩)), (8, .int .i64 k_0)] [Chunk.box b0_0 33 [.int .i64 0, .int .i64 0, .slice .none 0 0], Chunk.box b3_3 33 [.int .i64 w_p0, .int .i64 h_p1, .slice ai_0 ni_0 ci_0], Chunk.own tInt fi_0 ai_0 ni_0 ci_0 i_0]
   refine WC.seq (WC.sr ?_)
   refine mv ?_
   refine mv ?_
   refine mv ?_
   refine sp (OpV.mulR rfl rfl) ?_
   refine sp (OpV.lss rfl rfl) ?_
   refine WL.nil (En.next ?_)
   refine WC.cond rfl ?_ ?_
   ·
    intro hc_2
    replace zh0 := ifO_t hc_2 zh0
    refine WC.skip (En.next (WC.seq (WC.block ?_)))
    obtain ⟨x7_4, e7_4, zh0⟩ := bnd zh0
    refine WC.region ?_
    refine sp (OpV.fieldAddr rfl fo_33_2) ?_
    refine sp (OpV.loadBox rfl pt_28 mq1 rfl) ?_
    refine mv ?_
    refine WL.heavy rfl rfl rfl (OpH.litF (A := tInt) (xs := [p_p2]) tInt_flat (evps.cons rfl (evps.nil)) (bs_28_1_0 _) rfl rfl (Nat.le_of_ble_eq_true rfl) ?_)
    intro b7_3
    refine WL.heavy rfl rfl rfl (OpH.appS (F := [_, _, _]) (A := tInt) tInt_flat rfl rfl rfl mi_28 rfl (by decide) (fun w hs => (Ow.rd (hs.mem mq0))) e7_4 ?_)
    intro f7_4 a7_4 c7_4
    refine sp (OpV.fieldAddr rfl fo_33_2) ?_
    refine WL.heavy0 rfl rfl (OpH.storeTo (A := [_, _]) [_, _, _] rfl rfl rfl ts_28 rfl rfl rfl ?_)
    refine WL.nil (En.block_norm (En.next (WC.region ?_)))
    refine mv ?_
    refine sp (OpV.addR rfl rfl) ?_
    refine ag ?_
    refine WL.nil ?_
    exact En.backP zb0 zh0 (a7_4, x7_4.length, c7_4, f7_4) (sc (sc (sc (sc (sc (sc sn)))))) (fun _ h => ((((h).pm 3).pm 3).pm 3).sub (.cons_cons _ (.cons_cons _ (.cons_cons _ (.cons _ (.slnil))))))
   ·
    intro hc_2
    replace zh0 := ifO_f hc_2 zh0
    refine WC.exit (En.then_exit (En.then_exit ?_))
    have hx := exitP ze0 zh0
    exact En.wk _ _ (sc (sc sn)) (fun _ h => h) (zK0_0 (i_0, (ai_0, ni_0, ci_0, fi_0)) hx.symm)

theorem w_spec_l05Copy {i_p0 : ImageT} {r : ImageT} {q0_0 : Option Addr} {l0_0 k0_0 : Nat} (h : spec_l05Copy i_p0 = some r) {w : World} (r0_0 : Rd tInt w q0_0 l0_0 k0_0 i_p0.Data)   :
    Calls Try.prog 156 #[.agg #[.int .i64 i_p0.W, .int .i64 i_p0.H, .slice q0_0 l0_0 k0_0]] w (fun en w' => ∃ rv G, en = .returned rv ∧ (∃ (a0_0 : Option Addr) (n0_0 : Nat) (c0_0 : Nat) (f0_0 : List Nat), rv = .agg #[.int .i64 r.W, .int .i64 r.H, .slice a0_0 n0_0 c0_0] ∧ G = [Chunk.own tInt f0_0 a0_0 n0_0 c0_0 r.Data]) ∧ St w G w') := by
 obtain rfl := r0_0.1
 unfold spec_l05Copy at h
 refine enter (vs := [_]) Try.func156 rfl rfl rfl rfl ?_
 refine WC.sr ?_
 refine WL.heavy rfl rfl rfl (OpH.box rfl rfl ?_)
 intro b0_0
 refine WL.heavy rfl rfl rfl (OpH.alloc zc_33 ?_)
 intro b0_1
 refine WL.nil (En.next (WC.seq ?_))
 obtain ⟨x1_7, e1_7, h⟩ := bnd h
 refine WC.drawnH [_] ([_]) (fun _ h => h) (by kernel_rfl) ?_
 refine tk 0 rfl (OpV.fieldAddr rfl fo_33_0) ?_
 refine tk 1 rfl (OpV.loadBox rfl pt_3 mq0 rfl) ?_
 refine tk 2 rfl (OpV.fieldAddr rfl fo_33_1) ?_
 refine tk 3 rfl (OpV.loadBox rfl pt_3 mq0 rfl) ?_
 refine tk 5 rfl (OpV.fieldAddr rfl fo_33_2) ?_
 refine tk 6 rfl (OpV.loadBox rfl pt_28 mq0 rfl) ?_
 refine al1 4 rfl ?_
 refine OpH.lit0 (A := tInt) (evps.nil) bs_28_0_ ?_
 intro b1_4
 refine ⟨[_, _], rfl, ?_⟩
 refine al1 7 rfl ?_
 refine OpH.appS (F := []) (A := tInt) tInt_flat rfl rfl rfl mi_28 rfl (by decide) (fun w hs => (r0_0.ext hs.below)) e1_7 ?_
 intro f1_7 a1_7 c1_7
 refine ⟨[_, _], rfl, ?_⟩
 refine tk 8 rfl (OpV.build (evps.cons rfl (evps.cons rfl (evps.cons rfl (evps.nil)))) (bd_33_0_1_2 _ _ _ _ _)) ?_
 refine al0 9 rfl ?_
 refine OpH.storeTo (A := [_]) [_, _, _] rfl rfl rfl ts_33 rfl rfl rfl ?_
 refine ⟨[_, _], rfl, ?_⟩
 refine WAE.rebase (H := []) ?_
 refine WAE.done (by kernel_rfl) ?_ _
 refine En.next (WC.ret ?_)
 refine En.ret1 rfl (Res.cell rfl mq1 ag_33) ?_
 obtain rfl := Option.some.inj h
 intro w' hs
 have hs := (hs).sub (.cons_cons _ (.cons _ (.cons _ (.slnil))))
 exact ⟨_, _, rfl, ⟨a1_7, x1_7.length, c1_7, f1_7, rfl, rfl⟩, hs⟩

theorem w_spec_ImageOk {i_p0 : ImageT} {r : Bool} {q0_0 : Option Addr} {l0_0 k0_0 : Nat} (h : spec_ImageOk i_p0 = some r) {w : World} (r0_0 : Rd tInt w q0_0 l0_0 k0_0 i_p0.Data)   :
    Calls Try.prog 98 #[.agg #[.int .i64 i_p0.W, .int .i64 i_p0.H, .slice q0_0 l0_0 k0_0]] w (fun en w' => en = .returned (.bool r) ∧ Ext w w') := by
 obtain rfl := r0_0.1
 unfold spec_ImageOk at h
 refine enter (vs := [_]) Try.func98 rfl rfl rfl rfl ?_
 refine WC.sr ?_
 refine WL.heavy rfl rfl rfl (OpH.box rfl rfl ?_)
 intro b0_0
 refine ag ?_
 refine WL.nil (En.next (WC.seq (WC.seq ?_)))
 obtain ⟨x1_2, e1_2, h⟩ := bnd h
 obtain ⟨q1_9, e1_9, h⟩ := bnd h
 refine WC.region ?_
 refine sp (OpV.fieldAddr rfl fo_33_0) ?_
 refine sp (OpV.loadBox rfl pt_3 mq0 rfl) ?_
 refine sp (OpV.call (ec rfl (ec rfl (ec rfl e0))) ca_56 (fun w hs => w_spec_l01In e1_2)) ?_
 refine sp (OpV.not rfl) ?_
 refine mv ?_
 refine Lt.ofWL.orQ 8 13 12 (p := ?pz1) (rest := ?qz1) (B := q1_9) rfl (fun hz => orO_t e1_9 hz) ?Tz1 ?Fz1 ?az1 ?bz1 ?cz1 ?dz1 ?ez1
 case Tz1 =>
  intro hcz1 hkz1
  refine sk ?_
  refine sk ?_
  refine sk ?_
  refine sk ?_
  refine hkz1 _ ?_
  repeat (first | exact Sub.refl _ | refine Sub.skip rfl ?_)
 case Fz1 =>
  intro hcz1 hkz1
  have hqz1 := orO_f e1_9 hcz1
  obtain ⟨x1_7, e1_7, hqz1⟩ := bnd hqz1
  obtain rfl := Option.some.inj hqz1
  refine sp (OpV.fieldAddr rfl fo_33_1) ?_
  refine sp (OpV.loadBox rfl pt_3 mq0 rfl) ?_
  refine sp (OpV.call (ec rfl (ec rfl (ec rfl e0))) ca_56 (fun w hs => w_spec_l01In e1_7)) ?_
  refine sp (OpV.not rfl) ?_
  refine hkz1 _ ?_ ?_
  exact rfl
  repeat (first | exact Sub.refl _ | refine Sub.skip rfl ?_)
 case az1 => exact rfl
 case bz1 => exact rfl
 case cz1 => exact rfl
 case dz1 => exact rfl
 refine mv ?_
 refine Lt.ofWL.or 14 24 23 (p := ?pz2) (rest := ?qz2) (B := ?Bz2) rfl ?Tz2 ?Fz2 ?az2 ?bz2 ?cz2 ?dz2 ?ez2
 case Tz2 =>
  intro hcz2 hkz2
  refine sk ?_
  refine sk ?_
  refine sk ?_
  refine sk ?_
  refine sk ?_
  refine sk ?_
  refine sk ?_
  refine sk ?_
  refine sk ?_
  refine hkz2 _ ?_
  repeat (first | exact Sub.refl _ | refine Sub.skip rfl ?_)
 case Fz2 =>
  intro hcz2 hkz2
  refine sp (OpV.fieldAddr rfl fo_33_2) ?_
  refine sp (OpV.loadBox rfl pt_28 mq0 rfl) ?_
  refine sp (OpV.len rfl si_28 rfl) ?_
  refine sp (OpV.fieldAddr rfl fo_33_0) ?_
  refine sp (OpV.loadBox rfl pt_3 mq0 rfl) ?_
  refine sp (OpV.fieldAddr rfl fo_33_1) ?_
  refine sp (OpV.loadBox rfl pt_3 mq0 rfl) ?_
  refine sp (OpV.mulR rfl rfl) ?_
  refine sp (OpV.neq rfl rfl) ?_
  refine hkz2 _ ?_ ?_
  exact rfl
  repeat (first | exact Sub.refl _ | refine Sub.skip rfl ?_)
 case az2 => exact rfl
 case bz2 => exact rfl
 case cz2 => exact rfl
 case dz2 => exact rfl
 refine WL.nil (En.next ?_)
 refine WC.cond rfl ?_ ?_
 ·
  intro hc_1
  replace h := ifO_t hc_1 h
  refine WC.sr ?_
  refine ag ?_
  refine WL.nil (En.next (WC.ret (En.then_ret ?_)))
  refine En.ret1 rfl (Res.tmp rfl) ?_
  obtain rfl := Option.some.inj h
  intro w' hs
  exact ⟨rfl, hs.below⟩
 ·
  intro hc_1
  replace h := ifO_f hc_1 h
  refine WC.skip (En.next (WC.seq (WC.sr ?_)))
  refine ag ?_
  refine WL.nil (En.next (WC.block ?_))
  obtain ⟨zy0, ezy0, h⟩ := bnd h
  refine WC.cut (X := (Unit) × (Unit)) (.exit 0) (fun x => zy0 = .inl x.1) (fun x => match x with | ((), ()) => []) (fun x => match x with | ((), ()) => []) ?_ ?_
  ·
   rintro ⟨⟨⟩, ⟨⟩⟩ hx
   replace hx : .inl () = zy0 := hx.symm
   subst hx
   replace h := fork_l h
   show En _ _ _ _ [] []
   refine En.block_exit (En.next (WC.sr ?_))
   refine ag ?_
   refine WL.nil (En.next (WC.ret ?_))
   refine En.ret1 rfl (Res.tmp rfl) ?_
   obtain rfl := Option.some.inj h
   intro w' hs
   exact ⟨rfl, hs.below⟩
  ·
   intro zK0_0
   refine WC.loopP (G := Unit) (fun s g => match s, g with | k_0, () => [(1, .pointer (some ⟨b0_0, 0, .none⟩)), (3, .int .i64 k_0)]) (fun s g => match s, g with | k_0, () => [Chunk.box b0_0 33 [.int .i64 i_p0.W, .int .i64 i_p0.H, .slice q0_0 i_p0.Data.length k0_0]]) 0 () ezy0 (by exact sc (sc sn)) (by exact (fun _ h => h)) ?_
   rintro zm0 k_0 ⟨⟩ zo0 zf0 zb0 ze0
   have zh0 : spec_ImageOk_L0 i_p0 k_0 = some zo0 := zf0
   unfold spec_ImageOk_L0 at zh0
   show WC _ _ _ _ _ [(1, .pointer (some ⟨b0_0, 0, .none⟩)), (3, .int .i64 k_0)] [Chunk.box b0_0 33 [.int .i64 i_p0.W, .int .i64 i_p0.H, .slice q0_0 i_p0.Data.length k0_0]]
   refine WC.seq (WC.sr ?_)
   refine mv ?_
   refine sp (OpV.fieldAddr rfl fo_33_2) ?_
   refine sp (OpV.loadBox rfl pt_28 mq0 rfl) ?_
   refine sp (OpV.len rfl si_28 rfl) ?_
   refine sp (OpV.lss rfl rfl) ?_
   refine WL.nil (En.next ?_)
   refine WC.cond rfl ?_ ?_
   ·
    intro hc_2
    replace zh0 := ifO_t hc_2 zh0
    refine WC.skip (En.next (WC.seq (WC.block (WC.seq ?_))))
    obtain ⟨x6_3, e6_3, zh0⟩ := bnd zh0
    obtain ⟨g6_3, o6_3, _, ha6_3, rfl, hd6_3⟩ := Rd.atIdx r0_0 e6_3
    replace hd6_3 : ∀ (j : Nat) v, ([.int .i64 x6_3] : List Value)[j]? = some v → w.cell? ⟨g6_3, o6_3 + k_0.toNat * 1 + j, .none⟩ = some v := hd6_3
    obtain ⟨x6_5, e6_5, zh0⟩ := bnd zh0
    refine WC.region ?_
    refine sp (OpV.fieldAddr rfl fo_33_2) ?_
    refine sp (OpV.loadBox rfl pt_28 mq0 rfl) ?_
    refine mv ?_
    refine sp (OpV.idxA rfl rfl se_28 ha6_3 ⟨(idx_some e6_3).1, (idx_some e6_3).2.1⟩) ?_
    refine sp (OpV.load1 rfl pt_3 (fun w hs => hs.cell (hd6_3 0 _ rfl))) ?_
    refine sp (OpV.call (ec rfl e0) ca_57 (fun w hs => w_spec_l04Pixel e6_5)) ?_
    refine sp (OpV.not rfl) ?_
    refine WL.nil (En.next ?_)
    refine WC.cond rfl ?_ ?_
    ·
     intro hc_3
     replace zh0 := ifO_t hc_3 zh0
     refine WC.sr ?_
     refine ag ?_
     refine WL.nil (En.next (WC.ret (En.block_ret (En.then_ret (En.then_ret (En.block_ret (En.then_ret ?_)))))))
     refine En.ret1 rfl (Res.tmp rfl) ?_
     have hx := exitP ze0 zh0
     subst hx
     replace h := fork_r h
     obtain rfl := Option.some.inj h
     intro w' hs
     exact ⟨rfl, hs.below⟩
    ·
     intro hc_3
     replace zh0 := ifO_f hc_3 zh0
     refine WC.skip (En.block_norm (En.next (WC.region ?_)))
     refine mv ?_
     refine sp (OpV.addR rfl rfl) ?_
     refine ag ?_
     refine WL.nil ?_
     exact En.backP zb0 zh0 () (sc (sc sn)) (fun _ h => h)
   ·
    intro hc_2
    replace zh0 := ifO_f hc_2 zh0
    refine WC.exit (En.then_exit (En.then_exit ?_))
    have hx := exitP ze0 zh0
    exact En.wk _ _ sn (fun _ h => (h).sub (.cons _ (.slnil))) (zK0_0 ((), ()) hx.symm)

theorem w_spec_RectOk {r_p0 : RectT} {r : Bool}  (h : spec_RectOk r_p0 = some r) {w : World}    :
    Calls Try.prog 159 #[.agg #[.int .i64 r_p0.X, .int .i64 r_p0.Y, .int .i64 r_p0.W, .int .i64 r_p0.H]] w (fun en w' => en = .returned (.bool r) ∧ Ext w w') := by
 unfold spec_RectOk at h
 refine enter (vs := [_]) Try.func159 rfl rfl rfl rfl ?_
 refine WC.sr ?_
 refine WL.heavy rfl rfl rfl (OpH.box rfl rfl ?_)
 intro b0_0
 refine ag ?_
 refine WL.nil (En.next (WC.seq ?_))
 obtain ⟨x1_2, e1_2, h⟩ := bnd h
 obtain ⟨q1_7, e1_7, h⟩ := bnd h
 obtain ⟨q1_12, e1_12, h⟩ := bnd h
 obtain ⟨q1_17, e1_17, h⟩ := bnd h
 refine WC.region ?_
 refine sp (OpV.fieldAddr rfl fo_141_0) ?_
 refine sp (OpV.loadBox rfl pt_3 mq0 rfl) ?_
 refine sp (OpV.call (ec rfl (ec rfl (ec rfl e0))) ca_56 (fun w hs => w_spec_l01In e1_2)) ?_
 refine mv ?_
 refine Lt.ofWL.andQ 6 10 9 (p := ?pz1) (rest := ?qz1) (B := q1_7) rfl (fun hz => andO_f e1_7 hz) ?Tz1 ?Fz1 ?az1 ?bz1 ?cz1 ?dz1 ?ez1
 case Tz1 =>
  intro hcz1 hkz1
  have hqz1 := andO_t e1_7 hcz1
  obtain ⟨x1_6, e1_6, hqz1⟩ := bnd hqz1
  obtain rfl := Option.some.inj hqz1
  refine sp (OpV.fieldAddr rfl fo_141_1) ?_
  refine sp (OpV.loadBox rfl pt_3 mq0 rfl) ?_
  refine sp (OpV.call (ec rfl (ec rfl (ec rfl e0))) ca_56 (fun w hs => w_spec_l01In e1_6)) ?_
  refine hkz1 _ ?_ ?_
  exact rfl
  repeat (first | exact Sub.refl _ | refine Sub.skip rfl ?_)
 case Fz1 =>
  intro hcz1 hkz1
  refine sk ?_
  refine sk ?_
  refine sk ?_
  refine hkz1 _ ?_
  repeat (first | exact Sub.refl _ | refine Sub.skip rfl ?_)
 case az1 => exact rfl
 case bz1 => exact rfl
 case cz1 => exact rfl
 case dz1 => exact rfl
 refine mv ?_
 refine Lt.ofWL.andQ 11 15 14 (p := ?pz2) (rest := ?qz2) (B := q1_12) rfl (fun hz => andO_f e1_12 hz) ?Tz2 ?Fz2 ?az2 ?bz2 ?cz2 ?dz2 ?ez2
 case Tz2 =>
  intro hcz2 hkz2
  have hqz2 := andO_t e1_12 hcz2
  obtain ⟨x1_11, e1_11, hqz2⟩ := bnd hqz2
  obtain rfl := Option.some.inj hqz2
  refine sp (OpV.fieldAddr rfl fo_141_2) ?_
  refine sp (OpV.loadBox rfl pt_3 mq0 rfl) ?_
  refine sp (OpV.call (ec rfl (ec rfl (ec rfl e0))) ca_56 (fun w hs => w_spec_l01In e1_11)) ?_
  refine hkz2 _ ?_ ?_
  exact rfl
  repeat (first | exact Sub.refl _ | refine Sub.skip rfl ?_)
 case Fz2 =>
  intro hcz2 hkz2
  refine sk ?_
  refine sk ?_
  refine sk ?_
  refine hkz2 _ ?_
  repeat (first | exact Sub.refl _ | refine Sub.skip rfl ?_)
 case az2 => exact rfl
 case bz2 => exact rfl
 case cz2 => exact rfl
 case dz2 => exact rfl
 refine mv ?_
 refine Lt.ofWL.andQ 16 20 19 (p := ?pz3) (rest := ?qz3) (B := q1_17) rfl (fun hz => andO_f e1_17 hz) ?Tz3 ?Fz3 ?az3 ?bz3 ?cz3 ?dz3 ?ez3
 case Tz3 =>
  intro hcz3 hkz3
  have hqz3 := andO_t e1_17 hcz3
  obtain ⟨x1_16, e1_16, hqz3⟩ := bnd hqz3
  obtain rfl := Option.some.inj hqz3
  refine sp (OpV.fieldAddr rfl fo_141_3) ?_
  refine sp (OpV.loadBox rfl pt_3 mq0 rfl) ?_
  refine sp (OpV.call (ec rfl (ec rfl (ec rfl e0))) ca_56 (fun w hs => w_spec_l01In e1_16)) ?_
  refine hkz3 _ ?_ ?_
  exact rfl
  repeat (first | exact Sub.refl _ | refine Sub.skip rfl ?_)
 case Fz3 =>
  intro hcz3 hkz3
  refine sk ?_
  refine sk ?_
  refine sk ?_
  refine hkz3 _ ?_
  repeat (first | exact Sub.refl _ | refine Sub.skip rfl ?_)
 case az3 => exact rfl
 case bz3 => exact rfl
 case cz3 => exact rfl
 case dz3 => exact rfl
 refine ag ?_
 refine WL.nil (En.next (WC.ret ?_))
 refine En.ret1 rfl (Res.tmp rfl) ?_
 obtain rfl := Option.some.inj h
 intro w' hs
 exact ⟨rfl, hs.below⟩

theorem w_spec_Intersect {a_p0 : RectT} {a_p1 : RectT} {r : RectT}  (h : spec_Intersect a_p0 a_p1 = some r) {w : World}    :
    Calls Try.prog 144 #[.agg #[.int .i64 a_p0.X, .int .i64 a_p0.Y, .int .i64 a_p0.W, .int .i64 a_p0.H], .agg #[.int .i64 a_p1.X, .int .i64 a_p1.Y, .int .i64 a_p1.W, .int .i64 a_p1.H]] w (fun en w' => en = .returned (.agg #[.int .i64 r.X, .int .i64 r.Y, .int .i64 r.W, .int .i64 r.H]) ∧ Ext w w') := by
 unfold spec_Intersect at h
 refine enter (vs := [_, _]) Try.func144 rfl rfl rfl rfl ?_
 refine WC.sr ?_
 refine WL.heavy rfl rfl rfl (OpH.box rfl rfl ?_)
 intro b0_0
 refine WL.heavy rfl rfl rfl (OpH.box rfl rfl ?_)
 intro b0_1
 refine WL.heavy rfl rfl rfl (OpH.alloc zc_141 ?_)
 intro b0_2
 refine WL.nil (En.next (WC.seq (WC.seq ?_)))
 obtain ⟨x1_1, e1_1, h⟩ := bnd h
 obtain ⟨q1_7, e1_7, h⟩ := bnd h
 refine WC.region ?_
 refine sp (OpV.loadAll rfl mq2 ag_141) ?_
 refine sp (OpV.call (ec rfl e0) ca_159 (fun w hs => w_spec_RectOk e1_1)) ?_
 refine sp (OpV.not rfl) ?_
 refine mv ?_
 refine Lt.ofWL.orQ 12 16 15 (p := ?pz1) (rest := ?qz1) (B := q1_7) rfl (fun hz => orO_t e1_7 hz) ?Tz1 ?Fz1 ?az1 ?bz1 ?cz1 ?dz1 ?ez1
 case Tz1 =>
  intro hcz1 hkz1
  refine sk ?_
  refine sk ?_
  refine sk ?_
  refine hkz1 _ ?_
  repeat (first | exact Sub.refl _ | refine Sub.skip rfl ?_)
 case Fz1 =>
  intro hcz1 hkz1
  have hqz1 := orO_f e1_7 hcz1
  obtain ⟨x1_5, e1_5, hqz1⟩ := bnd hqz1
  obtain rfl := Option.some.inj hqz1
  refine sp (OpV.loadAll rfl mq1 ag_141) ?_
  refine sp (OpV.call (ec rfl e0) ca_159 (fun w hs => w_spec_RectOk e1_5)) ?_
  refine sp (OpV.not rfl) ?_
  refine hkz1 _ ?_ ?_
  exact rfl
  repeat (first | exact Sub.refl _ | refine Sub.skip rfl ?_)
 case az1 => exact rfl
 case bz1 => exact rfl
 case cz1 => exact rfl
 case dz1 => exact rfl
 refine WL.nil (En.next ?_)
 refine WC.cond rfl ?_ ?_
 ·
  intro hc_1
  replace h := ifO_t hc_1 h
  refine WC.sr ?_
  refine sp (OpV.build (evps.nil) bd_141_) ?_
  refine WL.heavy0 rfl rfl (OpH.storeTo (A := []) [_, _, _, _] rfl rfl rfl ts_141 rfl rfl rfl ?_)
  refine WL.nil (En.next (WC.ret (En.then_ret ?_)))
  refine En.ret1 rfl (Res.cell rfl mq0 ag_141) ?_
  obtain rfl := Option.some.inj h
  intro w' hs
  exact ⟨rfl, hs.below⟩
 ·
  intro hc_1
  replace h := ifO_f hc_1 h
  refine WC.skip (En.next (WC.sr ?_))
  refine sp (OpV.fieldAddr rfl fo_141_0) ?_
  refine sp (OpV.loadBox rfl pt_3 mq2 rfl) ?_
  refine sp (OpV.fieldAddr rfl fo_141_0) ?_
  refine sp (OpV.loadBox rfl pt_3 mq1 rfl) ?_
  refine sp (OpV.max2 rfl rfl) ?_
  refine ag ?_
  refine WL.nil (En.next (WC.sr ?_))
  refine sp (OpV.fieldAddr rfl fo_141_1) ?_
  refine sp (OpV.loadBox rfl pt_3 mq2 rfl) ?_
  refine sp (OpV.fieldAddr rfl fo_141_1) ?_
  refine sp (OpV.loadBox rfl pt_3 mq1 rfl) ?_
  refine sp (OpV.max2 rfl rfl) ?_
  refine ag ?_
  refine WL.nil (En.next (WC.sr ?_))
  refine sp (OpV.fieldAddr rfl fo_141_0) ?_
  refine sp (OpV.loadBox rfl pt_3 mq2 rfl) ?_
  refine sp (OpV.fieldAddr rfl fo_141_2) ?_
  refine sp (OpV.loadBox rfl pt_3 mq2 rfl) ?_
  refine sp (OpV.addR rfl rfl) ?_
  refine sp (OpV.fieldAddr rfl fo_141_0) ?_
  refine sp (OpV.loadBox rfl pt_3 mq1 rfl) ?_
  refine sp (OpV.fieldAddr rfl fo_141_2) ?_
  refine sp (OpV.loadBox rfl pt_3 mq1 rfl) ?_
  refine sp (OpV.addR rfl rfl) ?_
  refine sp (OpV.min2 rfl rfl) ?_
  refine mv ?_
  refine sp (OpV.subR rfl rfl) ?_
  refine ag ?_
  refine WL.nil (En.next (WC.sr ?_))
  refine sp (OpV.fieldAddr rfl fo_141_1) ?_
  refine sp (OpV.loadBox rfl pt_3 mq2 rfl) ?_
  refine sp (OpV.fieldAddr rfl fo_141_3) ?_
  refine sp (OpV.loadBox rfl pt_3 mq2 rfl) ?_
  refine sp (OpV.addR rfl rfl) ?_
  refine sp (OpV.fieldAddr rfl fo_141_1) ?_
  refine sp (OpV.loadBox rfl pt_3 mq1 rfl) ?_
  refine sp (OpV.fieldAddr rfl fo_141_3) ?_
  refine sp (OpV.loadBox rfl pt_3 mq1 rfl) ?_
  refine sp (OpV.addR rfl rfl) ?_
  refine sp (OpV.min2 rfl rfl) ?_
  refine mv ?_
  refine sp (OpV.subR rfl rfl) ?_
  refine ag ?_
  refine WL.nil (En.next (WC.seq (WC.sr ?_)))
  refine mv ?_
  refine sp (OpV.leq rfl rfl) ?_
  refine mv ?_
  refine Lt.ofWL.or 56 59 58 (p := ?pz2) (rest := ?qz2) (B := ?Bz2) rfl ?Tz2 ?Fz2 ?az2 ?bz2 ?cz2 ?dz2 ?ez2
  case Tz2 =>
   intro hcz2 hkz2
   refine sk ?_
   refine sk ?_
   refine hkz2 _ ?_
   repeat (first | exact Sub.refl _ | refine Sub.skip rfl ?_)
  case Fz2 =>
   intro hcz2 hkz2
   refine mv ?_
   refine sp (OpV.leq rfl rfl) ?_
   refine hkz2 _ ?_ ?_
   exact rfl
   repeat (first | exact Sub.refl _ | refine Sub.skip rfl ?_)
  case az2 => exact rfl
  case bz2 => exact rfl
  case cz2 => exact rfl
  case dz2 => exact rfl
  refine WL.nil (En.next ?_)
  refine WC.cond rfl ?_ ?_
  ·
   intro hc_2
   replace h := ifO_t hc_2 h
   refine WC.sr ?_
   refine sp (OpV.build (evps.nil) bd_141_) ?_
   refine WL.heavy0 rfl rfl (OpH.storeTo (A := []) [_, _, _, _] rfl rfl rfl ts_141 rfl rfl rfl ?_)
   refine WL.nil (En.next (WC.ret (En.then_ret ?_)))
   refine En.ret1 rfl (Res.cell rfl mq0 ag_141) ?_
   obtain rfl := Option.some.inj h
   intro w' hs
   exact ⟨rfl, hs.below⟩
  ·
   intro hc_2
   replace h := ifO_f hc_2 h
   refine WC.skip (En.next (WC.sr ?_))
   refine mv ?_
   refine mv ?_
   refine mv ?_
   refine mv ?_
   refine sp (OpV.build (evps.cons rfl (evps.cons rfl (evps.cons rfl (evps.cons rfl (evps.nil))))) (bd_141_0_1_2_3 _ _ _ _)) ?_
   refine WL.heavy0 rfl rfl (OpH.storeTo (A := []) [_, _, _, _] rfl rfl rfl ts_141 rfl rfl rfl ?_)
   refine WL.nil (En.next (WC.ret ?_))
   refine En.ret1 rfl (Res.cell rfl mq0 ag_141) ?_
   obtain rfl := Option.some.inj h
   intro w' hs
   exact ⟨rfl, hs.below⟩

theorem w_spec_FillRect {a_p0 : ImageT} {a_p1 : RectT} {a_p2 : Int} {r : ImageT} {q0_0 : Option Addr} {l0_0 k0_0 : Nat} (h : spec_FillRect a_p0 a_p1 a_p2 = some r) {w : World} (r0_0 : Rd tInt w q0_0 l0_0 k0_0 a_p0.Data)   :
    Calls Try.prog 112 #[.agg #[.int .i64 a_p0.W, .int .i64 a_p0.H, .slice q0_0 l0_0 k0_0], .agg #[.int .i64 a_p1.X, .int .i64 a_p1.Y, .int .i64 a_p1.W, .int .i64 a_p1.H], .int .i64 a_p2] w (fun en w' => ∃ rv G, en = .returned rv ∧ (∃ (a0_0 : Option Addr) (n0_0 : Nat) (c0_0 : Nat) (f0_0 : List Nat), rv = .agg #[.int .i64 r.W, .int .i64 r.H, .slice a0_0 n0_0 c0_0] ∧ G = [Chunk.own tInt f0_0 a0_0 n0_0 c0_0 r.Data]) ∧ St w G w') := by
 obtain rfl := r0_0.1
 unfold spec_FillRect at h
 refine enter (vs := [_, _, _]) Try.func112 rfl rfl rfl rfl ?_
 refine WC.sr ?_
 refine WL.heavy rfl rfl rfl (OpH.box rfl rfl ?_)
 intro b0_0
 refine WL.heavy rfl rfl rfl (OpH.box rfl rfl ?_)
 intro b0_1
 refine WL.heavy rfl rfl rfl (OpH.alloc zc_33 ?_)
 intro b0_2
 refine WL.nil (En.next (WC.seq ?_))
 obtain ⟨x1_1, e1_1, h⟩ := bnd h
 refine WC.region ?_
 refine sp (OpV.loadAll rfl mq2 ag_33) ?_
 refine WL.heavy rfl rfl rfl (OpH.callR (ec rfl e0) ca_156 (fun w hs => w_spec_l05Copy e1_1 (r0_0.ext hs.below)) ?_)
 rintro _ _ ⟨a1_100, n1_100, c1_100, f1_100, rfl, rfl⟩
 refine WL.heavy rfl rfl rfl (OpH.alloc zc_33 ?_)
 intro b1_2
 refine WL.heavy0 rfl rfl (OpH.storeTo (A := []) [_, _, _] rfl rfl rfl ts_33 rfl rfl rfl ?_)
 refine WL.nil (En.next (WC.seq (WC.seq ?_)))
 obtain ⟨x2_1, e2_1, h⟩ := bnd h
 obtain ⟨q2_7, e2_7, h⟩ := bnd h
 obtain ⟨q2_12, e2_12, h⟩ := bnd h
 refine WC.region ?_
 refine sp (OpV.loadAll rfl mq4 ag_33) ?_
 refine sp (OpV.call (ec rfl e0) ca_98 (fun w hs => w_spec_ImageOk e2_1 (r0_0.ext hs.below))) ?_
 refine sp (OpV.not rfl) ?_
 refine mv ?_
 refine Lt.ofWL.orQ 16 20 19 (p := ?pz1) (rest := ?qz1) (B := q2_7) rfl (fun hz => orO_t e2_7 hz) ?Tz1 ?Fz1 ?az1 ?bz1 ?cz1 ?dz1 ?ez1
 case Tz1 =>
  intro hcz1 hkz1
  refine sk ?_
  refine sk ?_
  refine sk ?_
  refine hkz1 _ ?_
  repeat (first | exact Sub.refl _ | refine Sub.skip rfl ?_)
 case Fz1 =>
  intro hcz1 hkz1
  have hqz1 := orO_f e2_7 hcz1
  obtain ⟨x2_5, e2_5, hqz1⟩ := bnd hqz1
  obtain rfl := Option.some.inj hqz1
  refine sp (OpV.loadAll rfl mq3 ag_141) ?_
  refine sp (OpV.call (ec rfl e0) ca_159 (fun w hs => w_spec_RectOk e2_5)) ?_
  refine sp (OpV.not rfl) ?_
  refine hkz1 _ ?_ ?_
  exact rfl
  repeat (first | exact Sub.refl _ | refine Sub.skip rfl ?_)
 case az1 => exact rfl
 case bz1 => exact rfl
 case cz1 => exact rfl
 case dz1 => exact rfl
 refine mv ?_
 refine Lt.ofWL.orQ 21 25 24 (p := ?pz2) (rest := ?qz2) (B := q2_12) rfl (fun hz => orO_t e2_12 hz) ?Tz2 ?Fz2 ?az2 ?bz2 ?cz2 ?dz2 ?ez2
 case Tz2 =>
  intro hcz2 hkz2
  refine sk ?_
  refine sk ?_
  refine sk ?_
  refine hkz2 _ ?_
  repeat (first | exact Sub.refl _ | refine Sub.skip rfl ?_)
 case Fz2 =>
  intro hcz2 hkz2
  have hqz2 := orO_f e2_12 hcz2
  obtain ⟨x2_10, e2_10, hqz2⟩ := bnd hqz2
  obtain rfl := Option.some.inj hqz2
  refine mv ?_
  refine sp (OpV.call (ec rfl e0) ca_57 (fun w hs => w_spec_l04Pixel e2_10)) ?_
  refine sp (OpV.not rfl) ?_
  refine hkz2 _ ?_ ?_
  exact rfl
  repeat (first | exact Sub.refl _ | refine Sub.skip rfl ?_)
 case az2 => exact rfl
 case bz2 => exact rfl
 case cz2 => exact rfl
 case dz2 => exact rfl
 refine WL.nil (En.next ?_)
 refine WC.cond rfl ?_ ?_
 ·
  intro hc_1
  replace h := ifO_t hc_1 h
  refine WC.sr ?_
  refine sp (OpV.loadAll rfl mq0 ag_33) ?_
  refine WL.heavy0 rfl rfl (OpH.storeTo (A := [_, _]) [_, _, _] rfl rfl rfl ts_33 rfl rfl rfl ?_)
  refine WL.nil (En.next (WC.ret (En.then_ret ?_)))
  refine En.ret1 rfl (Res.cell rfl mq2 ag_33) ?_
  obtain rfl := Option.some.inj h
  intro w' hs
  have hs := ((hs).pm 1).sub (.cons_cons _ (.cons _ (.cons _ (.cons _ (.cons _ (.slnil))))))
  exact ⟨_, _, rfl, ⟨a1_100, n1_100, c1_100, f1_100, rfl, rfl⟩, hs⟩
 ·
  intro hc_1
  replace h := ifO_f hc_1 h
  refine WC.skip (En.next (WC.seq ?_))
  obtain ⟨x4_6, e4_6, h⟩ := bnd h
  refine WC.region ?_
  refine sp (OpV.loadAll rfl mq3 ag_141) ?_
  refine sp (OpV.fieldAddr rfl fo_33_0) ?_
  refine sp (OpV.loadBox rfl pt_3 mq4 rfl) ?_
  refine sp (OpV.fieldAddr rfl fo_33_1) ?_
  refine sp (OpV.loadBox rfl pt_3 mq4 rfl) ?_
  refine sp (OpV.build (evps.cons rfl (evps.cons rfl (evps.nil))) (bd_141_2_3 _ _)) ?_
  refine sp (OpV.call (ec rfl (ec rfl e0)) ca_144 (fun w hs => w_spec_Intersect e4_6)) ?_
  refine WL.heavy rfl rfl rfl (OpH.alloc zc_141 ?_)
  intro b4_7
  refine WL.heavy0 rfl rfl (OpH.storeTo (A := []) [_, _, _, _] rfl rfl rfl ts_141 rfl rfl rfl ?_)
  refine WL.nil (En.next (WC.seq (WC.sr ?_)))
  refine sp (OpV.fieldAddr rfl fo_141_1) ?_
  refine sp (OpV.loadBox rfl pt_3 mq0 rfl) ?_
  refine ag ?_
  refine WL.nil (En.next (WC.block ?_))
  obtain ⟨zy0, ezy0, h⟩ := bnd h
  refine WC.cut (X := ((List Int)) × ((List Nat))) (.exit 0) (fun x => zy0 = x.1) (fun x => match x with | (x_0e, fx_0e) => [(6, .pointer (some ⟨b0_2, 0, .none⟩)), (7, .pointer (some ⟨b1_2, 0, .none⟩))]) (fun x => match x with | (x_0e, fx_0e) => [Chunk.box b0_2 33 [.int .i64 0, .int .i64 0, .slice .none 0 0], Chunk.box b1_2 33 [.int .i64 x1_1.W, .int .i64 x1_1.H, .slice a1_100 n1_100 c1_100], Chunk.own tInt fx_0e a1_100 n1_100 c1_100 x_0e]) ?_ ?_
  ·
   rintro ⟨x_0e, fx_0e⟩ hx
   replace hx : x_0e = zy0 := hx.symm
   subst hx
   show En _ _ _ _ [(6, .pointer (some ⟨b0_2, 0, .none⟩)), (7, .pointer (some ⟨b1_2, 0, .none⟩))] [Chunk.box b0_2 33 [.int .i64 0, .int .i64 0, .slice .none 0 0], Chunk.box b1_2 33 [.int .i64 x1_1.W, .int .i64 x1_1.H, .slice a1_100 n1_100 c1_100], Chunk.own tInt fx_0e a1_100 n1_100 c1_100 x_0e]
   refine En.block_exit (En.next (WC.sr ?_))
   refine sp (OpV.loadAll rfl mq1 ag_33) ?_
   refine WL.heavy0 rfl rfl (OpH.storeTo (A := []) [_, _, _] rfl rfl rfl ts_33 rfl rfl rfl ?_)
   refine WL.nil (En.next (WC.ret ?_))
   refine En.ret1 rfl (Res.cell rfl mq0 ag_33) ?_
   obtain rfl := Option.some.inj h
   intro w' hs
   have hs := ((hs).pm 2).sub (.cons_cons _ (.cons _ (.cons _ (.slnil))))
   exact ⟨_, _, rfl, ⟨a1_100, n1_100, c1_100, fx_0e, rfl, rfl⟩, hs⟩
  ·
   intro zK0_0
   refine WC.loopP (G := (List Nat)) (fun s g => match s, g with | (x_0, v_0), fx_0 => [(2, .int .i64 a_p2), (3, .pointer (some ⟨b0_0, 0, .none⟩)), (6, .pointer (some ⟨b0_2, 0, .none⟩)), (7, .pointer (some ⟨b1_2, 0, .none⟩)), (8, .pointer (some ⟨b4_7, 0, .none⟩)), (9, .int .i64 v_0)]) (fun s g => match s, g with | (x_0, v_0), fx_0 => [Chunk.box b0_0 33 [.int .i64 a_p0.W, .int .i64 a_p0.H, .slice q0_0 a_p0.Data.length k0_0], Chunk.box b0_2 33 [.int .i64 0, .int .i64 0, .slice .none 0 0], Chunk.box b1_2 33 [.int .i64 x1_1.W, .int .i64 x1_1.H, .slice a1_100 n1_100 c1_100], Chunk.own tInt fx_0 a1_100 n1_100 c1_100 x_0, Chunk.box b4_7 141 [.int .i64 x4_6.X, .int .i64 x4_6.Y, .int .i64 x4_6.W, .int .i64 x4_6.H]]) (x1_1.Data, x4_6.Y) f1_100 ezy0 (by exact sc (sc (sc (sc (sc (sc sn)))))) (by exact (fun _ h => (((((h).pm 2).pm 2).pm 3).pm 5).sub (.cons_cons _ (.cons_cons _ (.cons_cons _ (.cons_cons _ (.cons_cons _ (.cons _ (.slnil))))))))) ?_
   rintro zm0 ⟨x_0, v_0⟩ fx_0 zo0 zf0 zb0 ze0
   have zh0 : spec_FillRect_L0 a_p0 a_p2 x4_6 x_0 v_0 = some zo0 := zf0
   unfold spec_FillRect_L0 at zh0
   show WC _ _ _ _ _ [(2, .int .i64 a_p2), (3, .pointer (some ⟨b0_0, 0, .none⟩)), (6, .pointer (some ⟨b0_2, 0, .none⟩)), (7, .pointer (some ⟨b1_2, 0, .none⟩)), (8, .pointer (some ⟨b4_7, 0, .none⟩)), (9, .int .i64 v_0)] [Chunk.box b0_0 33 [.int .i64 a_p0.W, .int .i64 a_p0.H, .slice q0_0 a_p0.Data.length k0_0], Chunk.box b0_2 33 [.int .i64 0, .int .i64 0, .slice .none 0 0], Chunk.box b1_2 33 [.int .i64 x1_1.W, .int .i64 x1_1.H, .slice a1_100 n1_100 c1_100], Chunk.own tInt fx_0 a1_100 n1_100 c1_100 x_0, Chunk.box b4_7 141 [.int .i64 x4_6.X, .int .i64 x4_6.Y, .int .i64 x4_6.W, .int .i64 x4_6.H]]
   refine WC.seq (WC.sr ?_)
   refine mv ?_
   refine sp (OpV.fieldAddr rfl fo_141_1) ?_
   refine sp (OpV.loadBox rfl pt_3 mq4 rfl) ?_
   refine sp (OpV.fieldAddr rfl fo_141_3) ?_
   refine sp (OpV.loadBox rfl pt_3 mq4 rfl) ?_
   refine sp (OpV.addR rfl rfl) ?_
   refine sp (OpV.lss rfl rfl) ?_
   refine WL.nil (En.next ?_)
   refine WC.cond rfl ?_ ?_
   ·
    intro hc_2
    replace zh0 := ifO_t hc_2 zh0
    refine WC.skip (En.next (WC.seq (WC.block (WC.sr ?_))))
    refine sp (OpV.fieldAddr rfl fo_141_0) ?_
    refine sp (OpV.loadBox rfl pt_3 mq4 rfl) ?_
    refine ag ?_
    refine WL.nil (En.next (WC.block ?_))
    obtain ⟨zy1, ezy1, zh0⟩ := bnd zh0
    refine WC.cut (X := ((List Int)) × ((List Nat))) (.exit 2) (fun x => zy1 = x.1) (fun x => match x with | (x_1e, fx_1e) => [(2, .int .i64 a_p2), (3, .pointer (some ⟨b0_0, 0, .none⟩)), (6, .pointer (some ⟨b0_2, 0, .none⟩)), (7, .pointer (some ⟨b1_2, 0, .none⟩)), (8, .pointer (some ⟨b4_7, 0, .none⟩)), (9, .int .i64 v_0)]) (fun x => match x with | (x_1e, fx_1e) => [Chunk.box b0_0 33 [.int .i64 a_p0.W, .int .i64 a_p0.H, .slice q0_0 a_p0.Data.length k0_0], Chunk.box b0_2 33 [.int .i64 0, .int .i64 0, .slice .none 0 0], Chunk.box b1_2 33 [.int .i64 x1_1.W, .int .i64 x1_1.H, .slice a1_100 n1_100 c1_100], Chunk.own tInt fx_1e a1_100 n1_100 c1_100 x_1e, Chunk.box b4_7 141 [.int .i64 x4_6.X, .int .i64 x4_6.Y, .int .i64 x4_6.W, .int .i64 x4_6.H]]) ?_ ?_
    ·
     rintro ⟨x_1e, fx_1e⟩ hx
     replace hx : x_1e = zy1 := hx.symm
     subst hx
     show En _ _ _ _ [(2, .int .i64 a_p2), (3, .pointer (some ⟨b0_0, 0, .none⟩)), (6, .pointer (some ⟨b0_2, 0, .none⟩)), (7, .pointer (some ⟨b1_2, 0, .none⟩)), (8, .pointer (some ⟨b4_7, 0, .none⟩)), (9, .int .i64 v_0)] [Chunk.box b0_0 33 [.int .i64 a_p0.W, .int .i64 a_p0.H, .slice q0_0 a_p0.Data.length k0_0], Chunk.box b0_2 33 [.int .i64 0, .int .i64 0, .slice .none 0 0], Chunk.box b1_2 33 [.int .i64 x1_1.W, .int .i64 x1_1.H, .slice a1_100 n1_100 c1_100], Chunk.own tInt fx_1e a1_100 n1_100 c1_100 x_1e, Chunk.box b4_7 141 [.int .i64 x4_6.X, .int .i64 x4_6.Y, .int .i64 x4_6.W, .int .i64 x4_6.H]]
     refine En.block_exit (En.block_norm (En.next (WC.region ?_)))
     refine mv ?_
     refine sp (OpV.addR rfl rfl) ?_
     refine ag ?_
     refine WL.nil ?_
     exact En.backP zb0 zh0 fx_1e (sc (sc (sc (sc (sc (sc sn)))))) (fun _ h => h)
    ·
     intro zK1_0
     refine WC.loopP (G := (List Nat)) (fun s g => match s, g with | (x_1, v_1), fx_1 => [(2, .int .i64 a_p2), (3, .pointer (some ⟨b0_0, 0, .none⟩)), (6, .pointer (some ⟨b0_2, 0, .none⟩)), (7, .pointer (some ⟨b1_2, 0, .none⟩)), (8, .pointer (some ⟨b4_7, 0, .none⟩)), (9, .int .i64 v_0), (10, .int .i64 v_1)]) (fun s g => match s, g with | (x_1, v_1), fx_1 => [Chunk.box b0_0 33 [.int .i64 a_p0.W, .int .i64 a_p0.H, .slice q0_0 a_p0.Data.length k0_0], Chunk.box b0_2 33 [.int .i64 0, .int .i64 0, .slice .none 0 0], Chunk.box b1_2 33 [.int .i64 x1_1.W, .int .i64 x1_1.H, .slice a1_100 n1_100 c1_100], Chunk.own tInt fx_1 a1_100 n1_100 c1_100 x_1, Chunk.box b4_7 141 [.int .i64 x4_6.X, .int .i64 x4_6.Y, .int .i64 x4_6.W, .int .i64 x4_6.H]]) (x_0, x4_6.X) fx_0 ezy1 (by exact sc (sc (sc (sc (sc (sc (sc sn))))))) (by exact (fun _ h => h)) ?_
     rintro zm1 ⟨x_1, v_1⟩ fx_1 zo1 zf1 zb1 ze1
     have zh1 : spec_FillRect_L1 a_p0 a_p2 x4_6 v_0 x_1 v_1 = some zo1 := zf1
     unfold spec_FillRect_L1 at zh1
     show WC _ _ _ _ _ [(2, .int .i64 a_p2), (3, .pointer (some ⟨b0_0, 0, .none⟩)), (6, .pointer (some ⟨b0_2, 0, .none⟩)), (7, .pointer (some ⟨b1_2, 0, .none⟩)), (8, .pointer (some ⟨b4_7, 0, .none⟩)), (9, .int .i64 v_0), (10, .int .i64 v_1)] [Chunk.box b0_0 33 [.int .i64 a_p0.W, .int .i64 a_p0.H, .slice q0_0 a_p0.Data.length k0_0], Chunk.box b0_2 33 [.int .i64 0, .int .i64 0, .slice .none 0 0], Chunk.box b1_2 33 [.int .i64 x1_1.W, .int .i64 x1_1.H, .slice a1_100 n1_100 c1_100], Chunk.own tInt fx_1 a1_100 n1_100 c1_100 x_1, Chunk.box b4_7 141 [.int .i64 x4_6.X, .int .i64 x4_6.Y, .int .i64 x4_6.W, .int .i64 x4_6.H]]
     refine WC.seq (WC.sr ?_)
     refine mv ?_
     refine sp (OpV.fieldAddr rfl fo_141_0) ?_
     refine sp (OpV.loadBox rfl pt_3 mq4 rfl) ?_
     refine sp (OpV.fieldAddr rfl fo_141_2) ?_
     refine sp (OpV.loadBox rfl pt_3 mq4 rfl) ?_
     refine sp (OpV.addR rfl rfl) ?_
     refine sp (OpV.lss rfl rfl) ?_
     refine WL.nil (En.next ?_)
     refine WC.cond rfl ?_ ?_
     ·
      intro hc_3
      replace zh1 := ifO_t hc_3 zh1
      refine WC.skip (En.next (WC.seq (WC.block ?_)))
      refine WC.inh fun hin11 => ?_
      have hn11_9 := ownLen hin11 mq3
      obtain ⟨x11_10, e11_10, zh1⟩ := bnd zh1
      obtain ⟨g11_9, o11_9, ha11_9⟩ := ownAddrU hin11 mq3 e11_10
      refine WC.region ?_
      refine sp (OpV.fieldAddr rfl fo_33_2) ?_
      refine sp (OpV.loadBox rfl pt_28 mq2 rfl) ?_
      refine mv ?_
      refine sp (OpV.fieldAddr rfl fo_33_0) ?_
      refine sp (OpV.loadBox rfl pt_3 mq0 rfl) ?_
      refine sp (OpV.mulR rfl rfl) ?_
      refine mv ?_
      refine sp (OpV.addR rfl rfl) ?_
      refine mv ?_
      refine sp (OpV.idxA rfl rfl se_28 ha11_9 ⟨(upd_some e11_10).1.1, by rw [hn11_9]; exact (upd_some e11_10).1.2⟩) ?_
      refine WL.wkF (fun _ h => St.elFlat tInt_flat a_p2 h) ?_
      refine WL.wkF (fun _ h => h.pm 4) ?_
      refine WL.wkF (fun _ h => h.pm 1) ?_
      refine WL.heavy0 rfl rfl (OpH.setEl (A := tInt) ha11_9 rfl rfl rfl ts_3 e11_10 ?_)
      intro f11_10
      refine WL.nil (En.block_norm (En.next (WC.region ?_)))
      refine mv ?_
      refine sp (OpV.addR rfl rfl) ?_
      refine ag ?_
      refine WL.nil ?_
      exact En.backP zb1 zh1 f11_10 (sc (sc (sc (sc (sc (sc (sc sn))))))) (fun _ h => (((((h).pm 4).pm 1).pm 4).pm 4).pm 4)
     ·
      intro hc_3
      replace zh1 := ifO_f hc_3 zh1
      refine WC.exit (En.then_exit (En.then_exit ?_))
      have hx := exitP ze1 zh1
      exact En.wk _ _ (sc (sc (sc (sc (sc (sc sn)))))) (fun _ h => h) (zK1_0 (x_1, fx_1) hx.symm)
   ·
    intro hc_2
    replace zh0 := ifO_f hc_2 zh0
    refine WC.exit (En.then_exit (En.then_exit ?_))
    have hx := exitP ze0 zh0
    exact En.wk _ _ (sc (sc sn)) (fun _ h => ((((h).pm 3).pm 3).pm 3).sub (.cons_cons _ (.cons_cons _ (.cons_cons _ (.cons _ (.cons _ (.slnil))))))) (zK0_0 (x_0, fx_0) hx.symm)

theorem w_spec_l05Image {c_p0 : L01CurT} {most_p1 : Int} {r : ImageT × L01CurT} {b0 : Nat} {q0_0 : Option Addr} {l0_0 k0_0 : Nat} (h : spec_l05Image c_p0 most_p1 = some r) {w0 w : World} {C : List Chunk} (hs0 : St w0 (Chunk.box b0 137 [.slice q0_0 l0_0 k0_0, .int .i64 c_p0.i, .int .i64 c_p0.h] :: C) w) (r0_0 : ∀ w, St w0 C w → Rd tU8 w q0_0 l0_0 k0_0 c_p0.b) :
    Calls Try.prog 115 #[.pointer (some ⟨b0, 0, .none⟩), .int .i64 most_p1] w (fun en w' => ∃ rv G, en = .returned rv ∧ (∃ (a0_0 : Option Addr) (n0_0 : Nat) (c0_0 : Nat) (f0_0 : List Nat), rv = .agg #[.int .i64 r.1.W, .int .i64 r.1.H, .slice a0_0 n0_0 c0_0] ∧ G = Chunk.own tInt f0_0 a0_0 n0_0 c0_0 r.1.Data :: Chunk.box b0 137 [.slice q0_0 l0_0 k0_0, .int .i64 r.2.i, .int .i64 r.2.h] :: C) ∧ St w0 G w') := by
 obtain rfl := (r0_0 _ (St.tl (F := [_]) hs0)).1
 unfold spec_l05Image at h
 refine enterF hs0 (vs := [_, _]) Try.func115 rfl rfl rfl rfl ?_
 refine WC.sr ?_
 refine WL.heavy rfl rfl rfl (OpH.alloc zc_33 ?_)
 intro b0_0
 refine WL.nil (En.next (WC.seq ?_))
 obtain ⟨⟨x1_2a, x1_2b⟩, e1_2, h⟩ := bnd h
 refine WC.region ?_
 refine mv ?_
 refine mv ?_
 refine WL.wkF (fun _ h => h.pm 1) ?_
 refine WL.heavy rfl rfl rfl (OpH.callX (ec rfl (ec rfl e0)) ca_53 (fun w hs => w_spec_l01Below e1_2 hs (fun w hs => (r0_0 _ (St.tl (F := [_]) hs)))) ?_)
 rintro _ _ ⟨rfl, rfl⟩
 refine sp (OpV.addR rfl rfl) ?_
 refine ag ?_
 refine WL.nil (En.next (WC.seq ?_))
 obtain ⟨⟨x2_2a, x2_2b⟩, e2_2, h⟩ := bnd h
 refine WC.region ?_
 refine mv ?_
 refine mv ?_
 refine WL.heavy rfl rfl rfl (OpH.callX (ec rfl (ec rfl e0)) ca_53 (fun w hs => w_spec_l01Below e2_2 hs (fun w hs => (r0_0 _ (St.tl (F := [_]) hs)))) ?_)
 rintro _ _ ⟨rfl, rfl⟩
 refine sp (OpV.addR rfl rfl) ?_
 refine ag ?_
 refine WL.nil (En.next (WC.seq ?_))
 obtain ⟨⟨x3_3a, x3_3b⟩, e3_3, h⟩ := bnd h
 obtain ⟨x3_4, e3_4, h⟩ := bnd h
 refine WC.region ?_
 refine mv ?_
 refine mv ?_
 refine mv ?_
 refine WL.heavy rfl rfl rfl (OpH.callX (ec rfl e0) ca_111 (fun w hs => w_spec_l04Draw e3_3 hs (fun w hs => (r0_0 _ (St.tl (F := [_]) hs)))) ?_)
 rintro _ _ ⟨rfl, rfl⟩
 refine WL.heavy rfl rfl rfl (OpH.callR (ec rfl (ec rfl (ec rfl e0))) ca_14 (fun w hs => w_spec_NewImage e3_4) ?_)
 rintro _ _ ⟨a3_400, n3_400, c3_400, f3_400, rfl, rfl⟩
 refine WL.heavy rfl rfl rfl (OpH.alloc zc_33 ?_)
 intro b3_5
 refine WL.heavy0 rfl rfl (OpH.storeTo (A := []) [_, _, _] rfl rfl rfl ts_33 rfl rfl rfl ?_)
 refine WL.nil (En.next (WC.seq (WC.seq ?_)))
 obtain ⟨⟨x4_1a, x4_1b⟩, e4_1, h⟩ := bnd h
 refine WC.region ?_
 refine mv ?_
 refine WL.wkF (fun _ h => h.pm 2) ?_
 refine WL.heavy rfl rfl rfl (OpH.callX (ec rfl (ec rfl e0)) ca_53 (fun w hs => w_spec_l01Below e4_1 hs (fun w hs => (r0_0 _ (St.tl (F := [_, _, _]) hs)))) ?_)
 rintro _ _ ⟨rfl, rfl⟩
 refine ag ?_
 refine WL.nil (En.next (WC.block ?_))
 obtain ⟨zy0, ezy0, h⟩ := bnd h
 refine WC.cut (X := (Int × Int × (List Int) × Int × Int) × ((Option Addr) × Nat × Nat × (List Nat))) (.exit 0) (fun x => zy0 = x.1) (fun x => match x with | ((i_0e, i1_0e, i2_0e, c_0e, c1_0e), (ai_0e, ni_0e, ci_0e, fi_0e)) => [(4, .pointer (some ⟨b0_0, 0, .none⟩)), (7, .pointer (some ⟨b3_5, 0, .none⟩))]) (fun x => match x with | ((i_0e, i1_0e, i2_0e, c_0e, c1_0e), (ai_0e, ni_0e, ci_0e, fi_0e)) => (Chunk.box b0_0 33 [.int .i64 0, .int .i64 0, .slice .none 0 0] :: Chunk.box b3_5 33 [.int .i64 i_0e, .int .i64 i1_0e, .slice ai_0e ni_0e ci_0e] :: Chunk.own tInt fi_0e ai_0e ni_0e ci_0e i2_0e :: Chunk.box b0 137 [.slice q0_0 c_p0.b.length k0_0, .int .i64 c_0e, .int .i64 c1_0e] :: C)) ?_ ?_
 ·
  rintro ⟨⟨i_0e, i1_0e, i2_0e, c_0e, c1_0e⟩, ⟨ai_0e, ni_0e, ci_0e, fi_0e⟩⟩ hx
  replace hx : (i_0e, i1_0e, i2_0e, c_0e, c1_0e) = zy0 := hx.symm
  subst hx
  show En _ _ _ _ [(4, .pointer (some ⟨b0_0, 0, .none⟩)), (7, .pointer (some ⟨b3_5, 0, .none⟩))] (Chunk.box b0_0 33 [.int .i64 0, .int .i64 0, .slice .none 0 0] :: Chunk.box b3_5 33 [.int .i64 i_0e, .int .i64 i1_0e, .slice ai_0e ni_0e ci_0e] :: Chunk.own tInt fi_0e ai_0e ni_0e ci_0e i2_0e :: Chunk.box b0 137 [.slice q0_0 c_p0.b.length k0_0, .int .i64 c_0e, .int .i64 c1_0e] :: C)
  refine En.block_exit (En.next (WC.sr ?_))
  refine sp (OpV.loadAll rfl mq1 ag_33) ?_
  refine WL.heavy0 rfl rfl (OpH.storeTo (A := []) [_, _, _] rfl rfl rfl ts_33 rfl rfl rfl ?_)
  refine WL.nil (En.next (WC.ret ?_))
  refine En.ret1 rfl (Res.cell rfl mq0 ag_33) ?_
  obtain rfl := Option.some.inj h
  intro w' hs
  have hs := (((hs).pm 3).pm 3).sub (.cons_cons _ (.cons_cons _ (.cons _ (.cons _ (List.Sublist.refl _)))))
  exact ⟨_, _, rfl, ⟨ai_0e, ni_0e, ci_0e, fi_0e, rfl, rfl⟩, hs⟩
 ·
  intro zK0_0
  refine WC.loopP (G := (Option Addr) × Nat × Nat × (List Nat)) (fun s g => match s, g with | (c_0, c1_0, i_0, i1_0, i2_0, k_0), (ai_0, ni_0, ci_0, fi_0) => [(0, .pointer (some ⟨b0, 0, .none⟩)), (4, .pointer (some ⟨b0_0, 0, .none⟩)), (5, .int .i64 (wr (1 + x1_2a))), (6, .int .i64 (wr (1 + x2_2a))), (7, .pointer (some ⟨b3_5, 0, .none⟩)), (8, .int .i64 k_0)]) (fun s g => match s, g with | (c_0, c1_0, i_0, i1_0, i2_0, k_0), (ai_0, ni_0, ci_0, fi_0) => (Chunk.box b0 137 [.slice q0_0 c_p0.b.length k0_0, .int .i64 c_0, .int .i64 c1_0] :: Chunk.box b0_0 33 [.int .i64 0, .int .i64 0, .slice .none 0 0] :: Chunk.box b3_5 33 [.int .i64 i_0, .int .i64 i1_0, .slice ai_0 ni_0 ci_0] :: Chunk.own tInt fi_0 ai_0 ni_0 ci_0 i2_0 :: C)) (x4_1b.i, x4_1b.h, x3_4.W, x3_4.H, x3_4.Data, x4_1a) (a3_400, n3_400, c3_400, f3_400) ezy0 (by exact sc (sc (sc (sc (sc (sc sn)))))) (by exact (fun _ h => ((((h).pm 2).pm 2).pm 3).pm 3)) ?_
  rintro zm0 ⟨c_0, c1_0, i_0, i1_0, i2_0, k_0⟩ ⟨ai_0, ni_0, ci_0, fi_0⟩ zo0 zf0 zb0 ze0
  have zh0 : spec_l05Image_L0 c_p0 x1_2a x2_2a c_0 c1_0 i_0 i1_0 i2_0 k_0 = some zo0 := zf0
  unfold spec_l05Image_L0 at zh0
  show WC _ _ _ _ _ [(0, .pointer (some ⟨b0, 0, .none⟩)), (4, .pointer (some ⟨b0_0, 0, .none⟩)), (5, .int .i64 (wr (1 + x1_2a))), (6, .int .i64 (wr (1 + x2_2a))), (7, .pointer (some ⟨b3_5, 0, .none⟩)), (8, .int .i64 k_0)] (Chunk.box b0 137 [.slice q0_0 c_p0.b.length k0_0, .int .i64 c_0, .int .i64 c1_0] :: Chunk.box b0_0 33 [.int .i64 0, .int .i64 0, .slice .none 0 0] :: Chunk.box b3_5 33 [.int .i64 i_0, .int .i64 i1_0, .slice ai_0 ni_0 ci_0] :: Chunk.own tInt fi_0 ai_0 ni_0 ci_0 i2_0 :: C)
  refine WC.seq (WC.sr ?_)
  refine mv ?_
  refine sp (OpV.gtr rfl rfl) ?_
  refine WL.nil (En.next ?_)
  refine WC.cond rfl ?_ ?_
  ·
   intro hc_1
   replace zh0 := ifO_t hc_1 zh0
   refine WC.skip (En.next (WC.seq (WC.block ?_)))
   obtain ⟨⟨x7_3a, x7_3b⟩, e7_3, zh0⟩ := bnd zh0
   obtain ⟨⟨x7_6a, x7_6b⟩, e7_6, zh0⟩ := bnd zh0
   obtain ⟨⟨x7_8a, x7_8b⟩, e7_8, zh0⟩ := bnd zh0
   obtain ⟨⟨x7_11a, x7_11b⟩, e7_11, zh0⟩ := bnd zh0
   obtain ⟨⟨x7_15a, x7_15b⟩, e7_15, zh0⟩ := bnd zh0
   obtain ⟨x7_16, e7_16, zh0⟩ := bnd zh0
   refine WC.wkF (fun _ h => h.pm 2) ?_
   refine WC.wkF (fun _ h => h.pm 1) ?_
   refine WC.drawnH [_, _] (_ :: _ :: C) (fun _ h => h) (by kernel_rfl) ?_
   refine tk 1 rfl (OpV.move rfl) ?_
   refine tk 2 rfl (OpV.move rfl) ?_
   refine tk 4 rfl (OpV.move rfl) ?_
   refine tk 5 rfl (OpV.move rfl) ?_
   refine tk 7 rfl (OpV.move rfl) ?_
   refine tk 10 rfl (OpV.move rfl) ?_
   refine tk 14 rfl (OpV.move rfl) ?_
   refine WAE.all (rs := [0, 3]) (by kernel_rfl) rfl (AllR.cons rfl rfl rfl rfl ?_ (AllR.cons rfl rfl rfl rfl ?_ AllR.nil))
   ·
    refine OpH.light (OpV.loadAll rfl mq1 ag_33) ?_
    refine ⟨[_, _], rfl, ?_⟩
    refine al1 3 rfl ?_
    refine OpH.callX (ec rfl (ec rfl e0)) ca_53 (fun w hs => w_spec_l01Below e7_3 hs (fun w hs => (r0_0 _ (St.tl (F := [_, _, _]) hs)))) ?_
    rintro _ _ ⟨rfl, rfl⟩
    refine ⟨[_, _], rfl, ?_⟩
    refine al1 6 rfl ?_
    refine OpH.callX (ec rfl (ec rfl e0)) ca_53 (fun w hs => w_spec_l01Below e7_6 hs (fun w hs => (r0_0 _ (St.tl (F := [_, _, _]) hs)))) ?_
    rintro _ _ ⟨rfl, rfl⟩
    refine ⟨[_, _], rfl, ?_⟩
    refine al1 8 rfl ?_
    refine OpH.callX (ec rfl (ec rfl e0)) ca_53 (fun w hs => w_spec_l01Below e7_8 hs (fun w hs => (r0_0 _ (St.tl (F := [_, _, _]) hs)))) ?_
    rintro _ _ ⟨rfl, rfl⟩
    refine ⟨[_, _], rfl, ?_⟩
    refine tk 9 rfl (OpV.addR rfl rfl) ?_
    refine al1 11 rfl ?_
    refine OpH.callX (ec rfl (ec rfl e0)) ca_53 (fun w hs => w_spec_l01Below e7_11 hs (fun w hs => (r0_0 _ (St.tl (F := [_, _, _]) hs)))) ?_
    rintro _ _ ⟨rfl, rfl⟩
    refine ⟨[_, _], rfl, ?_⟩
    refine tk 12 rfl (OpV.addR rfl rfl) ?_
    refine tk 13 rfl (OpV.build (evps.cons rfl (evps.cons rfl (evps.cons rfl (evps.cons rfl (evps.nil))))) (bd_141_0_1_2_3 _ _ _ _)) ?_
    refine al1 15 rfl ?_
    refine OpH.callX (ec rfl e0) ca_111 (fun w hs => w_spec_l04Draw e7_15 hs (fun w hs => (r0_0 _ (St.tl (F := [_, _, _]) hs)))) ?_
    rintro _ _ ⟨rfl, rfl⟩
    refine ⟨[_, _], rfl, ?_⟩
    refine al1 16 rfl ?_
    refine OpH.callR (ec rfl (ec rfl (ec rfl e0))) ca_112 (fun w hs => w_spec_FillRect e7_16 (Ow.rd (hs.mem mq3))) ?_
    rintro _ _ ⟨a7_1600, n7_1600, c7_1600, f7_1600, rfl, rfl⟩
    refine ⟨[_, _, _], rfl, ?_⟩
    refine al0 17 rfl ?_
    refine OpH.storeTo (A := [_, _]) [_, _, _] rfl rfl rfl ts_33 rfl rfl rfl ?_
    refine ⟨[_, _, _], rfl, ?_⟩
    refine WAE.rebase (H := []) ?_
    refine WAE.done (by kernel_rfl) ?_ _
    refine En.block_norm (En.next (WC.region ?_))
    refine mv ?_
    refine sp (OpV.subR rfl rfl) ?_
    refine ag ?_
    refine WL.nil ?_
    exact En.backP zb0 zh0 (a7_1600, n7_1600, c7_1600, f7_1600) (sc (sc (sc (sc (sc (sc sn)))))) (fun _ h => ((((h).pm 2).pm 3).pm 3).sub (.cons_cons _ (.cons_cons _ (.cons_cons _ (.cons_cons _ (.cons _ (List.Sublist.refl _)))))))
   ·
    refine OpH.callX (ec rfl (ec rfl e0)) ca_53 (fun w hs => w_spec_l01Below e7_3 hs (fun w hs => (r0_0 _ (St.tl (F := [_, _, _]) hs)))) ?_
    rintro _ _ ⟨rfl, rfl⟩
    refine ⟨[_, _], rfl, ?_⟩
    refine WAE.all (rs := [0, 6]) (by kernel_rfl) rfl (AllR.cons rfl rfl rfl rfl ?_ (AllR.cons rfl rfl rfl rfl ?_ AllR.nil))
    ·
     refine OpH.light (OpV.loadAll rfl mq1 ag_33) ?_
     refine ⟨[_, _], rfl, ?_⟩
     refine al1 6 rfl ?_
     refine OpH.callX (ec rfl (ec rfl e0)) ca_53 (fun w hs => w_spec_l01Below e7_6 hs (fun w hs => (r0_0 _ (St.tl (F := [_, _, _]) hs)))) ?_
     rintro _ _ ⟨rfl, rfl⟩
     refine ⟨[_, _], rfl, ?_⟩
     refine al1 8 rfl ?_
     refine OpH.callX (ec rfl (ec rfl e0)) ca_53 (fun w hs => w_spec_l01Below e7_8 hs (fun w hs => (r0_0 _ (St.tl (F := [_, _, _]) hs)))) ?_
     rintro _ _ ⟨rfl, rfl⟩
     refine ⟨[_, _], rfl, ?_⟩
     refine tk 9 rfl (OpV.addR rfl rfl) ?_
     refine al1 11 rfl ?_
     refine OpH.callX (ec rfl (ec rfl e0)) ca_53 (fun w hs => w_spec_l01Below e7_11 hs (fun w hs => (r0_0 _ (St.tl (F := [_, _, _]) hs)))) ?_
     rintro _ _ ⟨rfl, rfl⟩
     refine ⟨[_, _], rfl, ?_⟩
     refine tk 12 rfl (OpV.addR rfl rfl) ?_
     refine tk 13 rfl (OpV.build (evps.cons rfl (evps.cons rfl (evps.cons rfl (evps.cons rfl (evps.nil))))) (bd_141_0_1_2_3 _ _ _ _)) ?_
     refine al1 15 rfl ?_
     refine OpH.callX (ec rfl e0) ca_111 (fun w hs => w_spec_l04Draw e7_15 hs (fun w hs => (r0_0 _ (St.tl (F := [_, _, _]) hs)))) ?_
     rintro _ _ ⟨rfl, rfl⟩
     refine ⟨[_, _], rfl, ?_⟩
     refine al1 16 rfl ?_
     refine OpH.callR (ec rfl (ec rfl (ec rfl e0))) ca_112 (fun w hs => w_spec_FillRect e7_16 (Ow.rd (hs.mem mq3))) ?_
     rintro _ _ ⟨a7_1600, n7_1600, c7_1600, f7_1600, rfl, rfl⟩
     refine ⟨[_, _, _], rfl, ?_⟩
     refine al0 17 rfl ?_
     refine OpH.storeTo (A := [_, _]) [_, _, _] rfl rfl rfl ts_33 rfl rfl rfl ?_
     refine ⟨[_, _, _], rfl, ?_⟩
     refine WAE.rebase (H := []) ?_
     refine WAE.done (by kernel_rfl) ?_ _
     refine En.block_norm (En.next (WC.region ?_))
     refine mv ?_
     refine sp (OpV.subR rfl rfl) ?_
     refine ag ?_
     refine WL.nil ?_
     exact En.backP zb0 zh0 (a7_1600, n7_1600, c7_1600, f7_1600) (sc (sc (sc (sc (sc (sc sn)))))) (fun _ h => ((((h).pm 2).pm 3).pm 3).sub (.cons_cons _ (.cons_cons _ (.cons_cons _ (.cons_cons _ (.cons _ (List.Sublist.refl _)))))))
    ·
     refine OpH.callX (ec rfl (ec rfl e0)) ca_53 (fun w hs => w_spec_l01Below e7_6 hs (fun w hs => (r0_0 _ (St.tl (F := [_, _, _]) hs)))) ?_
     rintro _ _ ⟨rfl, rfl⟩
     refine ⟨[_, _], rfl, ?_⟩
     refine WAE.all (rs := [0, 8]) (by kernel_rfl) rfl (AllR.cons rfl rfl rfl rfl ?_ (AllR.cons rfl rfl rfl rfl ?_ AllR.nil))
     ·
      refine OpH.light (OpV.loadAll rfl mq1 ag_33) ?_
      refine ⟨[_, _], rfl, ?_⟩
      refine al1 8 rfl ?_
      refine OpH.callX (ec rfl (ec rfl e0)) ca_53 (fun w hs => w_spec_l01Below e7_8 hs (fun w hs => (r0_0 _ (St.tl (F := [_, _, _]) hs)))) ?_
      rintro _ _ ⟨rfl, rfl⟩
      refine ⟨[_, _], rfl, ?_⟩
      refine tk 9 rfl (OpV.addR rfl rfl) ?_
      refine al1 11 rfl ?_
      refine OpH.callX (ec rfl (ec rfl e0)) ca_53 (fun w hs => w_spec_l01Below e7_11 hs (fun w hs => (r0_0 _ (St.tl (F := [_, _, _]) hs)))) ?_
      rintro _ _ ⟨rfl, rfl⟩
      refine ⟨[_, _], rfl, ?_⟩
      refine tk 12 rfl (OpV.addR rfl rfl) ?_
      refine tk 13 rfl (OpV.build (evps.cons rfl (evps.cons rfl (evps.cons rfl (evps.cons rfl (evps.nil))))) (bd_141_0_1_2_3 _ _ _ _)) ?_
      refine al1 15 rfl ?_
      refine OpH.callX (ec rfl e0) ca_111 (fun w hs => w_spec_l04Draw e7_15 hs (fun w hs => (r0_0 _ (St.tl (F := [_, _, _]) hs)))) ?_
      rintro _ _ ⟨rfl, rfl⟩
      refine ⟨[_, _], rfl, ?_⟩
      refine al1 16 rfl ?_
      refine OpH.callR (ec rfl (ec rfl (ec rfl e0))) ca_112 (fun w hs => w_spec_FillRect e7_16 (Ow.rd (hs.mem mq3))) ?_
      rintro _ _ ⟨a7_1600, n7_1600, c7_1600, f7_1600, rfl, rfl⟩
      refine ⟨[_, _, _], rfl, ?_⟩
      refine al0 17 rfl ?_
      refine OpH.storeTo (A := [_, _]) [_, _, _] rfl rfl rfl ts_33 rfl rfl rfl ?_
      refine ⟨[_, _, _], rfl, ?_⟩
      refine WAE.rebase (H := []) ?_
      refine WAE.done (by kernel_rfl) ?_ _
      refine En.block_norm (En.next (WC.region ?_))
      refine mv ?_
      refine sp (OpV.subR rfl rfl) ?_
      refine ag ?_
      refine WL.nil ?_
      exact En.backP zb0 zh0 (a7_1600, n7_1600, c7_1600, f7_1600) (sc (sc (sc (sc (sc (sc sn)))))) (fun _ h => ((((h).pm 2).pm 3).pm 3).sub (.cons_cons _ (.cons_cons _ (.cons_cons _ (.cons_cons _ (.cons _ (List.Sublist.refl _)))))))
     ·
      refine OpH.callX (ec rfl (ec rfl e0)) ca_53 (fun w hs => w_spec_l01Below e7_8 hs (fun w hs => (r0_0 _ (St.tl (F := [_, _, _]) hs)))) ?_
      rintro _ _ ⟨rfl, rfl⟩
      refine ⟨[_, _], rfl, ?_⟩
      refine tk 9 rfl (OpV.addR rfl rfl) ?_
      refine WAE.all (rs := [0, 11]) (by kernel_rfl) rfl (AllR.cons rfl rfl rfl rfl ?_ (AllR.cons rfl rfl rfl rfl ?_ AllR.nil))
      ·
       refine OpH.light (OpV.loadAll rfl mq1 ag_33) ?_
       refine ⟨[_, _], rfl, ?_⟩
       refine al1 11 rfl ?_
       refine OpH.callX (ec rfl (ec rfl e0)) ca_53 (fun w hs => w_spec_l01Below e7_11 hs (fun w hs => (r0_0 _ (St.tl (F := [_, _, _]) hs)))) ?_
       rintro _ _ ⟨rfl, rfl⟩
       refine ⟨[_, _], rfl, ?_⟩
       refine tk 12 rfl (OpV.addR rfl rfl) ?_
       refine tk 13 rfl (OpV.build (evps.cons rfl (evps.cons rfl (evps.cons rfl (evps.cons rfl (evps.nil))))) (bd_141_0_1_2_3 _ _ _ _)) ?_
       refine al1 15 rfl ?_
       refine OpH.callX (ec rfl e0) ca_111 (fun w hs => w_spec_l04Draw e7_15 hs (fun w hs => (r0_0 _ (St.tl (F := [_, _, _]) hs)))) ?_
       rintro _ _ ⟨rfl, rfl⟩
       refine ⟨[_, _], rfl, ?_⟩
       refine al1 16 rfl ?_
       refine OpH.callR (ec rfl (ec rfl (ec rfl e0))) ca_112 (fun w hs => w_spec_FillRect e7_16 (Ow.rd (hs.mem mq3))) ?_
       rintro _ _ ⟨a7_1600, n7_1600, c7_1600, f7_1600, rfl, rfl⟩
       refine ⟨[_, _, _], rfl, ?_⟩
       refine al0 17 rfl ?_
       refine OpH.storeTo (A := [_, _]) [_, _, _] rfl rfl rfl ts_33 rfl rfl rfl ?_
       refine ⟨[_, _, _], rfl, ?_⟩
       refine WAE.rebase (H := []) ?_
       refine WAE.done (by kernel_rfl) ?_ _
       refine En.block_norm (En.next (WC.region ?_))
       refine mv ?_
       refine sp (OpV.subR rfl rfl) ?_
       refine ag ?_
       refine WL.nil ?_
       exact En.backP zb0 zh0 (a7_1600, n7_1600, c7_1600, f7_1600) (sc (sc (sc (sc (sc (sc sn)))))) (fun _ h => ((((h).pm 2).pm 3).pm 3).sub (.cons_cons _ (.cons_cons _ (.cons_cons _ (.cons_cons _ (.cons _ (List.Sublist.refl _)))))))
      ·
       refine OpH.callX (ec rfl (ec rfl e0)) ca_53 (fun w hs => w_spec_l01Below e7_11 hs (fun w hs => (r0_0 _ (St.tl (F := [_, _, _]) hs)))) ?_
       rintro _ _ ⟨rfl, rfl⟩
       refine ⟨[_, _], rfl, ?_⟩
       refine tk 12 rfl (OpV.addR rfl rfl) ?_
       refine tk 13 rfl (OpV.build (evps.cons rfl (evps.cons rfl (evps.cons rfl (evps.cons rfl (evps.nil))))) (bd_141_0_1_2_3 _ _ _ _)) ?_
       refine WAE.all (rs := [0, 15]) (by kernel_rfl) rfl (AllR.cons rfl rfl rfl rfl ?_ (AllR.cons rfl rfl rfl rfl ?_ AllR.nil))
       ·
        refine OpH.light (OpV.loadAll rfl mq1 ag_33) ?_
        refine ⟨[_, _], rfl, ?_⟩
        refine al1 15 rfl ?_
        refine OpH.callX (ec rfl e0) ca_111 (fun w hs => w_spec_l04Draw e7_15 hs (fun w hs => (r0_0 _ (St.tl (F := [_, _, _]) hs)))) ?_
        rintro _ _ ⟨rfl, rfl⟩
        refine ⟨[_, _], rfl, ?_⟩
        refine al1 16 rfl ?_
        refine OpH.callR (ec rfl (ec rfl (ec rfl e0))) ca_112 (fun w hs => w_spec_FillRect e7_16 (Ow.rd (hs.mem mq3))) ?_
        rintro _ _ ⟨a7_1600, n7_1600, c7_1600, f7_1600, rfl, rfl⟩
        refine ⟨[_, _, _], rfl, ?_⟩
        refine al0 17 rfl ?_
        refine OpH.storeTo (A := [_, _]) [_, _, _] rfl rfl rfl ts_33 rfl rfl rfl ?_
        refine ⟨[_, _, _], rfl, ?_⟩
        refine WAE.rebase (H := []) ?_
        refine WAE.done (by kernel_rfl) ?_ _
        refine En.block_norm (En.next (WC.region ?_))
        refine mv ?_
        refine sp (OpV.subR rfl rfl) ?_
        refine ag ?_
        refine WL.nil ?_
        exact En.backP zb0 zh0 (a7_1600, n7_1600, c7_1600, f7_1600) (sc (sc (sc (sc (sc (sc sn)))))) (fun _ h => ((((h).pm 2).pm 3).pm 3).sub (.cons_cons _ (.cons_cons _ (.cons_cons _ (.cons_cons _ (.cons _ (List.Sublist.refl _)))))))
       ·
        refine OpH.callX (ec rfl e0) ca_111 (fun w hs => w_spec_l04Draw e7_15 hs (fun w hs => (r0_0 _ (St.tl (F := [_, _, _]) hs)))) ?_
        rintro _ _ ⟨rfl, rfl⟩
        refine ⟨[_, _], rfl, ?_⟩
        refine al1 0 rfl ?_
        refine OpH.light (OpV.loadAll rfl mq1 ag_33) ?_
        refine ⟨[_, _], rfl, ?_⟩
        refine al1 16 rfl ?_
        refine OpH.callR (ec rfl (ec rfl (ec rfl e0))) ca_112 (fun w hs => w_spec_FillRect e7_16 (Ow.rd (hs.mem mq3))) ?_
        rintro _ _ ⟨a7_1600, n7_1600, c7_1600, f7_1600, rfl, rfl⟩
        refine ⟨[_, _, _], rfl, ?_⟩
        refine al0 17 rfl ?_
        refine OpH.storeTo (A := [_, _]) [_, _, _] rfl rfl rfl ts_33 rfl rfl rfl ?_
        refine ⟨[_, _, _], rfl, ?_⟩
        refine WAE.rebase (H := []) ?_
        refine WAE.done (by kernel_rfl) ?_ _
        refine En.block_norm (En.next (WC.region ?_))
        refine mv ?_
        refine sp (OpV.subR rfl rfl) ?_
        refine ag ?_
        refine WL.nil ?_
        exact En.backP zb0 zh0 (a7_1600, n7_1600, c7_1600, f7_1600) (sc (sc (sc (sc (sc (sc sn)))))) (fun _ h => ((((h).pm 2).pm 3).pm 3).sub (.cons_cons _ (.cons_cons _ (.cons_cons _ (.cons_cons _ (.cons _ (List.Sublist.refl _)))))))
  ·
   intro hc_1
   replace zh0 := ifO_f hc_1 zh0
   refine WC.exit (En.then_exit (En.then_exit ?_))
   have hx := exitP ze0 zh0
   exact En.wk _ _ (sc (sc sn)) (fun _ h => (((h).pm 3).pm 3).pm 3) (zK0_0 ((i_0, i1_0, i2_0, c_0, c1_0), (ai_0, ni_0, ci_0, fi_0)) hx.symm)

theorem w_spec_l10CopySurface {s_p0 : SurfaceT} {r : SurfaceT} {q0_0 : Option Addr} {l0_0 k0_0 : Nat} (h : spec_l10CopySurface s_p0 = some r) {w : World} (r0_0 : Rd tInt w q0_0 l0_0 k0_0 s_p0.Buffer.Data)   :
    Calls Try.prog 108 #[.agg #[.int .i64 s_p0.Id, .int .i64 s_p0.X, .int .i64 s_p0.Y, .int .i64 s_p0.W, .int .i64 s_p0.H, .int .i64 s_p0.Alpha, .int .i64 s_p0.Orient, .bool s_p0.Visible, .int .i64 s_p0.Buffer.W, .int .i64 s_p0.Buffer.H, .slice q0_0 l0_0 k0_0]] w (fun en w' => ∃ rv G, en = .returned rv ∧ (∃ (a0_0 : Option Addr) (n0_0 : Nat) (c0_0 : Nat) (f0_0 : List Nat), rv = .agg #[.int .i64 r.Id, .int .i64 r.X, .int .i64 r.Y, .int .i64 r.W, .int .i64 r.H, .int .i64 r.Alpha, .int .i64 r.Orient, .bool r.Visible, .int .i64 r.Buffer.W, .int .i64 r.Buffer.H, .slice a0_0 n0_0 c0_0] ∧ G = [Chunk.own tInt f0_0 a0_0 n0_0 c0_0 r.Buffer.Data]) ∧ St w G w') := by
 obtain rfl := r0_0.1
 unfold spec_l10CopySurface at h
 refine enter (vs := [_]) Try.func108 rfl rfl rfl rfl ?_
 refine WC.sr ?_
 refine WL.heavy rfl rfl rfl (OpH.box rfl rfl ?_)
 intro b0_0
 refine WL.heavy rfl rfl rfl (OpH.alloc zc_119 ?_)
 intro b0_1
 refine WL.nil (En.next (WC.seq ?_))
 obtain ⟨x1_2, e1_2, h⟩ := bnd h
 refine WC.region ?_
 refine sp (OpV.fieldAddr rfl fo_119_8) ?_
 refine sp (OpV.loadPart rfl mq1 ag_33 rfl rfl) ?_
 refine WL.heavy rfl rfl rfl (OpH.callR (ec rfl e0) ca_156 (fun w hs => w_spec_l05Copy e1_2 (r0_0.ext hs.below)) ?_)
 rintro _ _ ⟨a1_200, n1_200, c1_200, f1_200, rfl, rfl⟩
 refine sp (OpV.fieldAddr rfl fo_119_8) ?_
 refine WL.heavy0 rfl rfl (OpH.storeTo (A := [_, _]) [_, _, _, _, _, _, _, _, _, _, _] rfl rfl rfl ts_33 rfl rfl rfl ?_)
 refine WL.nil (En.next (WC.sr ?_))
 refine sp (OpV.loadAll rfl mq2 ag_119) ?_
 refine WL.heavy0 rfl rfl (OpH.storeTo (A := [_]) [_, _, _, _, _, _, _, _, _, _, _] rfl rfl rfl ts_119 rfl rfl rfl ?_)
 refine WL.nil (En.next (WC.ret ?_))
 refine En.ret1 rfl (Res.cell rfl mq1 ag_119) ?_
 obtain rfl := Option.some.inj h
 intro w' hs
 have hs := (hs).sub (.cons_cons _ (.cons _ (.cons _ (.slnil))))
 exact ⟨_, _, rfl, ⟨a1_200, n1_200, c1_200, f1_200, rfl, rfl⟩, hs⟩

theorem w_spec_l10Copy {s_p0 : SceneT} {r : SceneT} {q0_0 : Option Addr} {l0_0 k0_0 : Nat} (h : spec_l10Copy s_p0 = some r) {w : World} (r0_0 : Rd tSurface w q0_0 l0_0 k0_0 s_p0.Surfaces)   :
    Calls Try.prog 172 #[.agg #[.int .i64 s_p0.W, .int .i64 s_p0.H, .int .i64 s_p0.Back, .slice q0_0 l0_0 k0_0]] w (fun en w' => ∃ rv G, en = .returned rv ∧ (∃ (a0_0 : Option Addr) (n0_0 : Nat) (c0_0 : Nat) (f0_0 : List Nat), rv = .agg #[.int .i64 r.W, .int .i64 r.H, .int .i64 r.Back, .slice a0_0 n0_0 c0_0] ∧ G = [Chunk.own tSurface f0_0 a0_0 n0_0 c0_0 r.Surfaces]) ∧ St w G w') := by
 obtain rfl := r0_0.1
 unfold spec_l10Copy at h
 refine enter (vs := [_]) Try.func172 rfl rfl rfl rfl ?_
 refine WC.sr ?_
 refine WL.heavy rfl rfl rfl (OpH.box rfl rfl ?_)
 intro b0_0
 refine WL.heavy rfl rfl rfl (OpH.alloc zc_53 ?_)
 intro b0_1
 refine WL.nil (En.next (WC.sr ?_))
 refine sp (OpV.fieldAddr rfl fo_53_0) ?_
 refine sp (OpV.loadBox rfl pt_3 mq1 rfl) ?_
 refine sp (OpV.fieldAddr rfl fo_53_1) ?_
 refine sp (OpV.loadBox rfl pt_3 mq1 rfl) ?_
 refine sp (OpV.fieldAddr rfl fo_53_2) ?_
 refine sp (OpV.loadBox rfl pt_3 mq1 rfl) ?_
 refine sp (OpV.build (evps.cons rfl (evps.cons rfl (evps.cons rfl (evps.nil)))) (bd_53_0_1_2 _ _ _)) ?_
 refine WL.heavy rfl rfl rfl (OpH.alloc zc_53 ?_)
 intro b1_7
 refine WL.heavy0 rfl rfl (OpH.storeTo (A := []) [_, _, _, _] rfl rfl rfl ts_53 rfl rfl rfl ?_)
 refine WL.nil (En.next (WC.seq (WC.sr ?_)))
 refine ag ?_
 refine WL.nil (En.next (WC.block ?_))
 obtain ⟨zy0, ezy0, h⟩ := bnd h
 refine WC.cut (X := ((List SurfaceT)) × ((Option Addr) × Nat × Nat × (List Nat))) (.exit 0) (fun x => zy0 = x.1) (fun x => match x with | (out_0e, (aout_0e, nout_0e, cout_0e, fout_0e)) => [(2, .pointer (some ⟨b0_1, 0, .none⟩)), (3, .pointer (some ⟨b1_7, 0, .none⟩))]) (fun x => match x with | (out_0e, (aout_0e, nout_0e, cout_0e, fout_0e)) => [Chunk.box b0_1 53 [.int .i64 0, .int .i64 0, .int .i64 0, .slice .none 0 0], Chunk.box b1_7 53 [.int .i64 s_p0.W, .int .i64 s_p0.H, .int .i64 s_p0.Back, .slice aout_0e nout_0e cout_0e], Chunk.own tSurface fout_0e aout_0e nout_0e cout_0e out_0e]) ?_ ?_
 ·
  rintro ⟨out_0e, ⟨aout_0e, nout_0e, cout_0e, fout_0e⟩⟩ hx
  replace hx : out_0e = zy0 := hx.symm
  subst hx
  show En _ _ _ _ [(2, .pointer (some ⟨b0_1, 0, .none⟩)), (3, .pointer (some ⟨b1_7, 0, .none⟩))] [Chunk.box b0_1 53 [.int .i64 0, .int .i64 0, .int .i64 0, .slice .none 0 0], Chunk.box b1_7 53 [.int .i64 s_p0.W, .int .i64 s_p0.H, .int .i64 s_p0.Back, .slice aout_0e nout_0e cout_0e], Chunk.own tSurface fout_0e aout_0e nout_0e cout_0e out_0e]
  refine En.block_exit (En.next (WC.sr ?_))
  refine sp (OpV.loadAll rfl mq1 ag_53) ?_
  refine WL.heavy0 rfl rfl (OpH.storeTo (A := []) [_, _, _, _] rfl rfl rfl ts_53 rfl rfl rfl ?_)
  refine WL.nil (En.next (WC.ret ?_))
  refine En.ret1 rfl (Res.cell rfl mq0 ag_53) ?_
  obtain rfl := Option.some.inj h
  intro w' hs
  have hs := ((hs).pm 2).sub (.cons_cons _ (.cons _ (.cons _ (.slnil))))
  exact ⟨_, _, rfl, ⟨aout_0e, nout_0e, cout_0e, fout_0e, rfl, rfl⟩, hs⟩
 ·
  intro zK0_0
  refine WC.loopP (G := (Option Addr) × Nat × Nat × (List Nat)) (fun s g => match s, g with | (out_0, k_0), (aout_0, nout_0, cout_0, fout_0) => [(1, .pointer (some ⟨b0_0, 0, .none⟩)), (2, .pointer (some ⟨b0_1, 0, .none⟩)), (3, .pointer (some ⟨b1_7, 0, .none⟩)), (4, .int .i64 k_0)]) (fun s g => match s, g with | (out_0, k_0), (aout_0, nout_0, cout_0, fout_0) => [Chunk.box b0_0 53 [.int .i64 s_p0.W, .int .i64 s_p0.H, .int .i64 s_p0.Back, .slice q0_0 s_p0.Surfaces.length k0_0], Chunk.box b0_1 53 [.int .i64 0, .int .i64 0, .int .i64 0, .slice .none 0 0], Chunk.box b1_7 53 [.int .i64 s_p0.W, .int .i64 s_p0.H, .int .i64 s_p0.Back, .slice aout_0 nout_0 cout_0], Chunk.own tSurface fout_0 aout_0 nout_0 cout_0 out_0]) ([], 0) (.none, 0, 0, []) ezy0 (by exact sc (sc (sc (sc sn)))) (by exact (fun _ h => ((((h).ownNil (A := tSurface)).pm 1).pm 2).pm 3)) ?_
  rintro zm0 ⟨out_0, k_0⟩ ⟨aout_0, nout_0, cout_0, fout_0⟩ zo0 zf0 zb0 ze0
  have zh0 : spec_l10Copy_L0 s_p0 out_0 k_0 = some zo0 := zf0
  unfold spec_l10Copy_L0 at zh0
  show WC _ _ _ _ _ [(1, .pointer (some ⟨b0_0, 0, .none⟩)), (2, .pointer (some ⟨b0_1, 0, .none⟩)), (3, .pointer (some ⟨b1_7, 0, .none⟩)), (4, .int .i64 k_0)] [Chunk.box b0_0 53 [.int .i64 s_p0.W, .int .i64 s_p0.H, .int .i64 s_p0.Back, .slice q0_0 s_p0.Surfaces.length k0_0], Chunk.box b0_1 53 [.int .i64 0, .int .i64 0, .int .i64 0, .slice .none 0 0], Chunk.box b1_7 53 [.int .i64 s_p0.W, .int .i64 s_p0.H, .int .i64 s_p0.Back, .slice aout_0 nout_0 cout_0], Chunk.own tSurface fout_0 aout_0 nout_0 cout_0 out_0]
  refine WC.seq (WC.sr ?_)
  refine mv ?_
  refine sp (OpV.fieldAddr rfl fo_53_3) ?_
  refine sp (OpV.loadBox rfl pt_51 mq0 rfl) ?_
  refine sp (OpV.len rfl si_51 rfl) ?_
  refine sp (OpV.lss rfl rfl) ?_
  refine WL.nil (En.next ?_)
  refine WC.cond rfl ?_ ?_
  ·
   intro hc_1
   replace zh0 := ifO_t hc_1 zh0
   refine WC.skip (En.next (WC.seq (WC.block ?_)))
   obtain ⟨x5_5, e5_5, zh0⟩ := bnd zh0
   obtain ⟨g5_5, o5_5, _, ha5_5, ⟨a5_5_1, c5_5_1, rfl, r5_5_1⟩, hd5_5⟩ := Rd.atIdx r0_0 e5_5
   replace hd5_5 : ∀ (j : Nat) v, ([.int .i64 x5_5.Id, .int .i64 x5_5.X, .int .i64 x5_5.Y, .int .i64 x5_5.W, .int .i64 x5_5.H, .int .i64 x5_5.Alpha, .int .i64 x5_5.Orient, .bool x5_5.Visible, .int .i64 x5_5.Buffer.W, .int .i64 x5_5.Buffer.H, .slice a5_5_1 x5_5.Buffer.Data.length c5_5_1] : List Value)[j]? = some v → w.cell? ⟨g5_5, o5_5 + k_0.toNat * 11 + j, .none⟩ = some v := hd5_5
   obtain ⟨x5_7, e5_7, zh0⟩ := bnd zh0
   obtain ⟨x5_9, e5_9, zh0⟩ := bnd zh0
   refine WC.wkF (fun _ h => h.pm 3) ?_
   refine WC.wkF (fun _ h => h.pm 3) ?_
   refine WC.drawnH [_, _] ([_, _]) (fun _ h => h) (by kernel_rfl) ?_
   refine tk 0 rfl (OpV.fieldAddr rfl fo_53_3) ?_
   refine tk 2 rfl (OpV.fieldAddr rfl fo_53_3) ?_
   refine tk 3 rfl (OpV.loadBox rfl pt_51 mq0 rfl) ?_
   refine tk 4 rfl (OpV.move rfl) ?_
   refine tk 5 rfl (OpV.idxA rfl rfl se_51 ha5_5 ⟨(idx_some e5_5).1, (idx_some e5_5).2.1⟩) ?_
   refine tk 6 rfl (OpV.loadN rfl ag_119 rfl (fun w hs => hs.cellsAt hd5_5)) ?_
   refine WAE.all (rs := [1, 7]) (by kernel_rfl) rfl (AllR.cons rfl rfl rfl rfl ?_ (AllR.cons rfl rfl rfl rfl ?_ AllR.nil))
   ·
    refine OpH.light (OpV.loadBox rfl pt_51 mq0 rfl) ?_
    refine ⟨[_, _], rfl, ?_⟩
    refine al1 7 rfl ?_
    refine OpH.callR (ec rfl e0) ca_108 (fun w hs => w_spec_l10CopySurface e5_7 (r5_5_1.ext hs.below)) ?_
    rintro _ _ ⟨a5_700, n5_700, c5_700, f5_700, rfl, rfl⟩
    refine ⟨[_, _, _], rfl, ?_⟩
    refine al1 8 rfl ?_
    refine OpH.buildSlice (evps.cons rfl (evps.nil)) (bs_51_1_0 _ _ _ _ _ _ _ _ _ _ _ _ _) ?_
    intro b5_8
    refine ⟨[_, _, _, _], rfl, ?_⟩
    refine al1 9 rfl ?_
    refine OpH.wkF (fun _ h => h.pm 1) ?_
    refine OpH.wkF (fun _ h => tSurface_mk x5_7.Id x5_7.X x5_7.Y x5_7.W x5_7.H x5_7.Alpha x5_7.Orient x5_7.Visible x5_7.Buffer h) ?_
    refine OpH.wkF (fun _ h => h.pm 3) ?_
    refine OpH.wkF (fun _ h => h.pm 1) ?_
    refine OpH.push (A := tSurface) rfl rfl rfl mi_51 rfl (by decide) mq0 e5_9 ?_
    intro f5_9 a5_9 c5_9
    refine ⟨[_, _, _], rfl, ?_⟩
    refine tk 10 rfl (OpV.fieldAddr rfl fo_53_3) ?_
    refine al0 11 rfl ?_
    refine OpH.storeTo (A := [_, _]) [_, _, _, _] rfl rfl rfl ts_51 rfl rfl rfl ?_
    refine ⟨[_, _, _], rfl, ?_⟩
    refine WAE.rebase (H := []) ?_
    refine WAE.done (by kernel_rfl) ?_ _
    refine En.block_norm (En.next (WC.region ?_))
    refine mv ?_
    refine sp (OpV.addR rfl rfl) ?_
    refine ag ?_
    refine WL.nil ?_
    exact En.backP zb0 zh0 (a5_9, x5_9.length, c5_9, f5_9) (sc (sc (sc (sc sn)))) (fun _ h => ((((h).pm 2).pm 4).pm 4).sub (.cons_cons _ (.cons_cons _ (.cons_cons _ (.cons_cons _ (.cons _ (.slnil)))))))
   ·
    refine OpH.callR (ec rfl e0) ca_108 (fun w hs => w_spec_l10CopySurface e5_7 (r5_5_1.ext hs.below)) ?_
    rintro _ _ ⟨a5_700, n5_700, c5_700, f5_700, rfl, rfl⟩
    refine ⟨[_, _, _], rfl, ?_⟩
    refine WAE.all (rs := [1, 8]) (by kernel_rfl) rfl (AllR.cons rfl rfl rfl rfl ?_ (AllR.cons rfl rfl rfl rfl ?_ AllR.nil))
    ·
     refine OpH.light (OpV.loadBox rfl pt_51 mq1 rfl) ?_
     refine ⟨[_, _, _], rfl, ?_⟩
     refine al1 8 rfl ?_
     refine OpH.buildSlice (evps.cons rfl (evps.nil)) (bs_51_1_0 _ _ _ _ _ _ _ _ _ _ _ _ _) ?_
     intro b5_8
     refine ⟨[_, _, _, _], rfl, ?_⟩
     refine al1 9 rfl ?_
     refine OpH.wkF (fun _ h => h.pm 1) ?_
     refine OpH.wkF (fun _ h => tSurface_mk x5_7.Id x5_7.X x5_7.Y x5_7.W x5_7.H x5_7.Alpha x5_7.Orient x5_7.Visible x5_7.Buffer h) ?_
     refine OpH.wkF (fun _ h => h.pm 3) ?_
     refine OpH.wkF (fun _ h => h.pm 1) ?_
     refine OpH.push (A := tSurface) rfl rfl rfl mi_51 rfl (by decide) mq0 e5_9 ?_
     intro f5_9 a5_9 c5_9
     refine ⟨[_, _, _], rfl, ?_⟩
     refine tk 10 rfl (OpV.fieldAddr rfl fo_53_3) ?_
     refine al0 11 rfl ?_
     refine OpH.storeTo (A := [_, _]) [_, _, _, _] rfl rfl rfl ts_51 rfl rfl rfl ?_
     refine ⟨[_, _, _], rfl, ?_⟩
     refine WAE.rebase (H := []) ?_
     refine WAE.done (by kernel_rfl) ?_ _
     refine En.block_norm (En.next (WC.region ?_))
     refine mv ?_
     refine sp (OpV.addR rfl rfl) ?_
     refine ag ?_
     refine WL.nil ?_
     exact En.backP zb0 zh0 (a5_9, x5_9.length, c5_9, f5_9) (sc (sc (sc (sc sn)))) (fun _ h => ((((h).pm 2).pm 4).pm 4).sub (.cons_cons _ (.cons_cons _ (.cons_cons _ (.cons_cons _ (.cons _ (.slnil)))))))
    ·
     refine OpH.buildSlice (evps.cons rfl (evps.nil)) (bs_51_1_0 _ _ _ _ _ _ _ _ _ _ _ _ _) ?_
     intro b5_8
     refine ⟨[_, _, _, _], rfl, ?_⟩
     refine al1 1 rfl ?_
     refine OpH.light (OpV.loadBox rfl pt_51 mq2 rfl) ?_
     refine ⟨[_, _, _, _], rfl, ?_⟩
     refine al1 9 rfl ?_
     refine OpH.wkF (fun _ h => h.pm 1) ?_
     refine OpH.wkF (fun _ h => tSurface_mk x5_7.Id x5_7.X x5_7.Y x5_7.W x5_7.H x5_7.Alpha x5_7.Orient x5_7.Visible x5_7.Buffer h) ?_
     refine OpH.wkF (fun _ h => h.pm 3) ?_
     refine OpH.wkF (fun _ h => h.pm 1) ?_
     refine OpH.push (A := tSurface) rfl rfl rfl mi_51 rfl (by decide) mq0 e5_9 ?_
     intro f5_9 a5_9 c5_9
     refine ⟨[_, _, _], rfl, ?_⟩
     refine tk 10 rfl (OpV.fieldAddr rfl fo_53_3) ?_
     refine al0 11 rfl ?_
     refine OpH.storeTo (A := [_, _]) [_, _, _, _] rfl rfl rfl ts_51 rfl rfl rfl ?_
     refine ⟨[_, _, _], rfl, ?_⟩
     refine WAE.rebase (H := []) ?_
     refine WAE.done (by kernel_rfl) ?_ _
     refine En.block_norm (En.next (WC.region ?_))
     refine mv ?_
     refine sp (OpV.addR rfl rfl) ?_
     refine ag ?_
     refine WL.nil ?_
     exact En.backP zb0 zh0 (a5_9, x5_9.length, c5_9, f5_9) (sc (sc (sc (sc sn)))) (fun _ h => ((((h).pm 2).pm 4).pm 4).sub (.cons_cons _ (.cons_cons _ (.cons_cons _ (.cons_cons _ (.cons _ (.slnil)))))))
  ·
   intro hc_1
   replace zh0 := ifO_f hc_1 zh0
   refine WC.exit (En.then_exit (En.then_exit ?_))
   have hx := exitP ze0 zh0
   exact En.wk _ _ (sc (sc sn)) (fun _ h => ((((h).pm 3).pm 3).pm 3).sub (.cons_cons _ (.cons_cons _ (.cons_cons _ (.cons _ (.slnil)))))) (zK0_0 (out_0, (aout_0, nout_0, cout_0, fout_0)) hx.symm)

theorem w_spec_SurfaceIndex {s_p0 : SceneT} {id_p1 : Int} {r : Int} {q0_0 : Option Addr} {l0_0 k0_0 : Nat} (h : spec_SurfaceIndex s_p0 id_p1 = some r) {w : World} (r0_0 : Rd tSurface w q0_0 l0_0 k0_0 s_p0.Surfaces)   :
    Calls Try.prog 141 #[.agg #[.int .i64 s_p0.W, .int .i64 s_p0.H, .int .i64 s_p0.Back, .slice q0_0 l0_0 k0_0], .int .i64 id_p1] w (fun en w' => en = .returned (.int .i64 r) ∧ Ext w w') := by
 obtain rfl := r0_0.1
 unfold spec_SurfaceIndex at h
 refine enter (vs := [_, _]) Try.func141 rfl rfl rfl rfl ?_
 refine WC.sr ?_
 refine WL.heavy rfl rfl rfl (OpH.box rfl rfl ?_)
 intro b0_0
 refine ag ?_
 refine WL.nil (En.next (WC.seq (WC.sr ?_)))
 refine ag ?_
 refine WL.nil (En.next (WC.block ?_))
 obtain ⟨zy0, ezy0, h⟩ := bnd h
 refine WC.cut (X := (Unit) × (Unit)) (.exit 0) (fun x => zy0 = .inl x.1) (fun x => match x with | ((), ()) => []) (fun x => match x with | ((), ()) => []) ?_ ?_
 ·
  rintro ⟨⟨⟩, ⟨⟩⟩ hx
  replace hx : .inl () = zy0 := hx.symm
  subst hx
  replace h := fork_l h
  show En _ _ _ _ [] []
  refine En.block_exit (En.next (WC.sr ?_))
  refine ag ?_
  refine WL.nil (En.next (WC.ret ?_))
  refine En.ret1 rfl (Res.tmp rfl) ?_
  obtain rfl := Option.some.inj h
  intro w' hs
  exact ⟨rfl, hs.below⟩
 ·
  intro zK0_0
  refine WC.loopP (G := Unit) (fun s g => match s, g with | k_0, () => [(1, .int .i64 id_p1), (2, .pointer (some ⟨b0_0, 0, .none⟩)), (5, .int .i64 k_0)]) (fun s g => match s, g with | k_0, () => [Chunk.box b0_0 53 [.int .i64 s_p0.W, .int .i64 s_p0.H, .int .i64 s_p0.Back, .slice q0_0 s_p0.Surfaces.length k0_0]]) 0 () ezy0 (by exact sc (sc (sc sn))) (by exact (fun _ h => h)) ?_
  rintro zm0 k_0 ⟨⟩ zo0 zf0 zb0 ze0
  have zh0 : spec_SurfaceIndex_L0 s_p0 id_p1 k_0 = some zo0 := zf0
  unfold spec_SurfaceIndex_L0 at zh0
  show WC _ _ _ _ _ [(1, .int .i64 id_p1), (2, .pointer (some ⟨b0_0, 0, .none⟩)), (5, .int .i64 k_0)] [Chunk.box b0_0 53 [.int .i64 s_p0.W, .int .i64 s_p0.H, .int .i64 s_p0.Back, .slice q0_0 s_p0.Surfaces.length k0_0]]
  refine WC.seq (WC.sr ?_)
  refine mv ?_
  refine sp (OpV.fieldAddr rfl fo_53_3) ?_
  refine sp (OpV.loadBox rfl pt_51 mq0 rfl) ?_
  refine sp (OpV.len rfl si_51 rfl) ?_
  refine sp (OpV.lss rfl rfl) ?_
  refine WL.nil (En.next ?_)
  refine WC.cond rfl ?_ ?_
  ·
   intro hc_1
   replace zh0 := ifO_t hc_1 zh0
   refine WC.skip (En.next (WC.seq (WC.block (WC.seq ?_))))
   obtain ⟨x4_3, e4_3, zh0⟩ := bnd zh0
   obtain ⟨g4_3, o4_3, _, ha4_3, ⟨a4_3_1, c4_3_1, rfl, r4_3_1⟩, hd4_3⟩ := Rd.atIdx r0_0 e4_3
   replace hd4_3 : ∀ (j : Nat) v, ([.int .i64 x4_3.Id, .int .i64 x4_3.X, .int .i64 x4_3.Y, .int .i64 x4_3.W, .int .i64 x4_3.H, .int .i64 x4_3.Alpha, .int .i64 x4_3.Orient, .bool x4_3.Visible, .int .i64 x4_3.Buffer.W, .int .i64 x4_3.Buffer.H, .slice a4_3_1 x4_3.Buffer.Data.length c4_3_1] : List Value)[j]? = some v → w.cell? ⟨g4_3, o4_3 + k_0.toNat * 11 + j, .none⟩ = some v := hd4_3
   refine WC.region ?_
   refine sp (OpV.fieldAddr rfl fo_53_3) ?_
   refine sp (OpV.loadBox rfl pt_51 mq0 rfl) ?_
   refine mv ?_
   refine sp (OpV.idxA rfl rfl se_51 ha4_3 ⟨(idx_some e4_3).1, (idx_some e4_3).2.1⟩) ?_
   refine sp (OpV.fieldAddr rfl fo_119_0) ?_
   refine sp (OpV.load1 rfl pt_3 (fun w hs => hs.cell (hd4_3 0 _ rfl))) ?_
   refine mv ?_
   refine sp (OpV.eql rfl rfl) ?_
   refine WL.nil (En.next ?_)
   refine WC.cond rfl ?_ ?_
   ·
    intro hc_2
    replace zh0 := ifO_t hc_2 zh0
    refine WC.sr ?_
    refine mv ?_
    refine ag ?_
    refine WL.nil (En.next (WC.ret (En.block_ret (En.then_ret (En.then_ret (En.block_ret (En.then_ret ?_)))))))
    refine En.ret1 rfl (Res.tmp rfl) ?_
    have hx := exitP ze0 zh0
    subst hx
    replace h := fork_r h
    obtain rfl := Option.some.inj h
    intro w' hs
    exact ⟨rfl, hs.below⟩
   ·
    intro hc_2
    replace zh0 := ifO_f hc_2 zh0
    refine WC.skip (En.block_norm (En.next (WC.region ?_)))
    refine mv ?_
    refine sp (OpV.addR rfl rfl) ?_
    refine ag ?_
    refine WL.nil ?_
    exact En.backP zb0 zh0 () (sc (sc (sc sn))) (fun _ h => h)
  ·
   intro hc_1
   replace zh0 := ifO_f hc_1 zh0
   refine WC.exit (En.then_exit (En.then_exit ?_))
   have hx := exitP ze0 zh0
   exact En.wk _ _ sn (fun _ h => (h).sub (.cons _ (.slnil))) (zK0_0 ((), ()) hx.symm)

theorem w_spec_ChannelOf {p_p0 : Int} {k_p1 : Int} {r : Int}  (h : spec_ChannelOf p_p0 k_p1 = some r) {w : World}    :
    Calls Try.prog 173 #[.int .i64 p_p0, .int .i64 k_p1] w (fun en w' => en = .returned (.int .i64 r) ∧ Ext w w') := by
 unfold spec_ChannelOf at h
 refine enter (vs := [_, _]) Try.func173 rfl rfl rfl rfl ?_
 refine WC.sr ?_
 refine ag ?_
 refine WL.nil (En.next (WC.seq (WC.seq ?_)))
 obtain ⟨x1_1, e1_1, h⟩ := bnd h
 obtain ⟨q1_7, e1_7, h⟩ := bnd h
 refine WC.region ?_
 refine mv ?_
 refine sp (OpV.call (ec rfl e0) ca_57 (fun w hs => w_spec_l04Pixel e1_1)) ?_
 refine sp (OpV.not rfl) ?_
 refine mv ?_
 refine Lt.ofWL.orQ 8 12 11 (p := ?pz1) (rest := ?qz1) (B := q1_7) rfl (fun hz => orO_t e1_7 hz) ?Tz1 ?Fz1 ?az1 ?bz1 ?cz1 ?dz1 ?ez1
 case Tz1 =>
  intro hcz1 hkz1
  refine sk ?_
  refine sk ?_
  refine sk ?_
  refine hkz1 _ ?_
  repeat (first | exact Sub.refl _ | refine Sub.skip rfl ?_)
 case Fz1 =>
  intro hcz1 hkz1
  have hqz1 := orO_f e1_7 hcz1
  obtain ⟨x1_5, e1_5, hqz1⟩ := bnd hqz1
  obtain rfl := Option.some.inj hqz1
  refine mv ?_
  refine sp (OpV.call (ec rfl (ec rfl (ec rfl e0))) ca_56 (fun w hs => w_spec_l01In e1_5)) ?_
  refine sp (OpV.not rfl) ?_
  refine hkz1 _ ?_ ?_
  exact rfl
  repeat (first | exact Sub.refl _ | refine Sub.skip rfl ?_)
 case az1 => exact rfl
 case bz1 => exact rfl
 case cz1 => exact rfl
 case dz1 => exact rfl
 refine WL.nil (En.next ?_)
 refine WC.cond rfl ?_ ?_
 ·
  intro hc_1
  replace h := ifO_t hc_1 h
  refine WC.sr ?_
  refine ag ?_
  refine WL.nil (En.next (WC.ret (En.then_ret ?_)))
  refine En.ret1 rfl (Res.tmp rfl) ?_
  obtain rfl := Option.some.inj h
  intro w' hs
  exact ⟨rfl, hs.below⟩
 ·
  intro hc_1
  replace h := ifO_f hc_1 h
  refine WC.skip (En.next (WC.seq ?_))
  obtain ⟨x3_4, e3_4, h⟩ := bnd h
  refine WC.region ?_
  refine mv ?_
  refine mv ?_
  refine sp (OpV.mulR rfl rfl) ?_
  refine sp (OpV.subR rfl rfl) ?_
  refine sp (OpV.shrR rfl rfl e3_4) ?_
  refine sp (OpV.andR rfl rfl) ?_
  refine ag ?_
  refine WL.nil (En.next (WC.ret ?_))
  refine En.ret1 rfl (Res.tmp rfl) ?_
  obtain rfl := Option.some.inj h
  intro w' hs
  exact ⟨rfl, hs.below⟩

theorem w_spec_l10Opaque {p_p0 : Int} {r : Bool}  (h : spec_l10Opaque p_p0 = some r) {w : World}    :
    Calls Try.prog 139 #[.int .i64 p_p0] w (fun en w' => en = .returned (.bool r) ∧ Ext w w') := by
 unfold spec_l10Opaque at h
 refine enter (vs := [_]) Try.func139 rfl rfl rfl rfl ?_
 refine WC.sr ?_
 refine ag ?_
 refine WL.nil (En.next (WC.seq ?_))
 obtain ⟨x1_1, e1_1, h⟩ := bnd h
 obtain ⟨q1_6, e1_6, h⟩ := bnd h
 refine WC.region ?_
 refine mv ?_
 refine sp (OpV.call (ec rfl e0) ca_57 (fun w hs => w_spec_l04Pixel e1_1)) ?_
 refine mv ?_
 refine Lt.ofWL.andQ 5 9 8 (p := ?pz1) (rest := ?qz1) (B := q1_6) rfl (fun hz => andO_f e1_6 hz) ?Tz1 ?Fz1 ?az1 ?bz1 ?cz1 ?dz1 ?ez1
 case Tz1 =>
  intro hcz1 hkz1
  have hqz1 := andO_t e1_6 hcz1
  obtain ⟨x1_4, e1_4, hqz1⟩ := bnd hqz1
  obtain rfl := Option.some.inj hqz1
  refine mv ?_
  refine sp (OpV.call (ec rfl (ec rfl e0)) ca_173 (fun w hs => w_spec_ChannelOf e1_4)) ?_
  refine sp (OpV.eql rfl rfl) ?_
  refine hkz1 _ ?_ ?_
  exact rfl
  repeat (first | exact Sub.refl _ | refine Sub.skip rfl ?_)
 case Fz1 =>
  intro hcz1 hkz1
  refine sk ?_
  refine sk ?_
  refine sk ?_
  refine hkz1 _ ?_
  repeat (first | exact Sub.refl _ | refine Sub.skip rfl ?_)
 case az1 => exact rfl
 case bz1 => exact rfl
 case cz1 => exact rfl
 case dz1 => exact rfl
 refine ag ?_
 refine WL.nil (En.next (WC.ret ?_))
 refine En.ret1 rfl (Res.tmp rfl) ?_
 obtain rfl := Option.some.inj h
 intro w' hs
 exact ⟨rfl, hs.below⟩

theorem w_spec_SurfaceOk {s_p0 : SurfaceT} {r : Bool} {q0_0 : Option Addr} {l0_0 k0_0 : Nat} (h : spec_SurfaceOk s_p0 = some r) {w : World} (r0_0 : Rd tInt w q0_0 l0_0 k0_0 s_p0.Buffer.Data)   :
    Calls Try.prog 140 #[.agg #[.int .i64 s_p0.Id, .int .i64 s_p0.X, .int .i64 s_p0.Y, .int .i64 s_p0.W, .int .i64 s_p0.H, .int .i64 s_p0.Alpha, .int .i64 s_p0.Orient, .bool s_p0.Visible, .int .i64 s_p0.Buffer.W, .int .i64 s_p0.Buffer.H, .slice q0_0 l0_0 k0_0]] w (fun en w' => en = .returned (.bool r) ∧ Ext w w') := by
 obtain rfl := r0_0.1
 unfold spec_SurfaceOk at h
 refine enter (vs := [_]) Try.func140 rfl rfl rfl rfl ?_
 refine WC.sr ?_
 refine WL.heavy rfl rfl rfl (OpH.box rfl rfl ?_)
 intro b0_0
 refine ag ?_
 refine WL.nil (En.next (WC.seq (WC.seq ?_)))
 obtain ⟨x1_2, e1_2, h⟩ := bnd h
 obtain ⟨q1_9, e1_9, h⟩ := bnd h
 obtain ⟨q1_15, e1_15, h⟩ := bnd h
 obtain ⟨q1_21, e1_21, h⟩ := bnd h
 obtain ⟨q1_27, e1_27, h⟩ := bnd h
 obtain ⟨q1_33, e1_33, h⟩ := bnd h
 refine WC.region ?_
 refine sp (OpV.fieldAddr rfl fo_119_0) ?_
 refine sp (OpV.loadBox rfl pt_3 mq0 rfl) ?_
 refine sp (OpV.call (ec rfl (ec rfl (ec rfl e0))) ca_56 (fun w hs => w_spec_l01In e1_2)) ?_
 refine sp (OpV.not rfl) ?_
 refine mv ?_
 refine Lt.ofWL.orQ 7 12 11 (p := ?pz1) (rest := ?qz1) (B := q1_9) rfl (fun hz => orO_t e1_9 hz) ?Tz1 ?Fz1 ?az1 ?bz1 ?cz1 ?dz1 ?ez1
 case Tz1 =>
  intro hcz1 hkz1
  refine sk ?_
  refine sk ?_
  refine sk ?_
  refine sk ?_
  refine hkz1 _ ?_
  repeat (first | exact Sub.refl _ | refine Sub.skip rfl ?_)
 case Fz1 =>
  intro hcz1 hkz1
  have hqz1 := orO_f e1_9 hcz1
  obtain ⟨x1_7, e1_7, hqz1⟩ := bnd hqz1
  obtain rfl := Option.some.inj hqz1
  refine sp (OpV.fieldAddr rfl fo_119_1) ?_
  refine sp (OpV.loadBox rfl pt_3 mq0 rfl) ?_
  refine sp (OpV.call (ec rfl (ec rfl (ec rfl e0))) ca_56 (fun w hs => w_spec_l01In e1_7)) ?_
  refine sp (OpV.not rfl) ?_
  refine hkz1 _ ?_ ?_
  exact rfl
  repeat (first | exact Sub.refl _ | refine Sub.skip rfl ?_)
 case az1 => exact rfl
 case bz1 => exact rfl
 case cz1 => exact rfl
 case dz1 => exact rfl
 refine mv ?_
 refine Lt.ofWL.orQ 13 18 17 (p := ?pz2) (rest := ?qz2) (B := q1_15) rfl (fun hz => orO_t e1_15 hz) ?Tz2 ?Fz2 ?az2 ?bz2 ?cz2 ?dz2 ?ez2
 case Tz2 =>
  intro hcz2 hkz2
  refine sk ?_
  refine sk ?_
  refine sk ?_
  refine sk ?_
  refine hkz2 _ ?_
  repeat (first | exact Sub.refl _ | refine Sub.skip rfl ?_)
 case Fz2 =>
  intro hcz2 hkz2
  have hqz2 := orO_f e1_15 hcz2
  obtain ⟨x1_13, e1_13, hqz2⟩ := bnd hqz2
  obtain rfl := Option.some.inj hqz2
  refine sp (OpV.fieldAddr rfl fo_119_2) ?_
  refine sp (OpV.loadBox rfl pt_3 mq0 rfl) ?_
  refine sp (OpV.call (ec rfl (ec rfl (ec rfl e0))) ca_56 (fun w hs => w_spec_l01In e1_13)) ?_
  refine sp (OpV.not rfl) ?_
  refine hkz2 _ ?_ ?_
  exact rfl
  repeat (first | exact Sub.refl _ | refine Sub.skip rfl ?_)
 case az2 => exact rfl
 case bz2 => exact rfl
 case cz2 => exact rfl
 case dz2 => exact rfl
 refine mv ?_
 refine Lt.ofWL.orQ 19 24 23 (p := ?pz3) (rest := ?qz3) (B := q1_21) rfl (fun hz => orO_t e1_21 hz) ?Tz3 ?Fz3 ?az3 ?bz3 ?cz3 ?dz3 ?ez3
 case Tz3 =>
  intro hcz3 hkz3
  refine sk ?_
  refine sk ?_
  refine sk ?_
  refine sk ?_
  refine hkz3 _ ?_
  repeat (first | exact Sub.refl _ | refine Sub.skip rfl ?_)
 case Fz3 =>
  intro hcz3 hkz3
  have hqz3 := orO_f e1_21 hcz3
  obtain ⟨x1_19, e1_19, hqz3⟩ := bnd hqz3
  obtain rfl := Option.some.inj hqz3
  refine sp (OpV.fieldAddr rfl fo_119_5) ?_
  refine sp (OpV.loadBox rfl pt_3 mq0 rfl) ?_
  refine sp (OpV.call (ec rfl (ec rfl (ec rfl e0))) ca_56 (fun w hs => w_spec_l01In e1_19)) ?_
  refine sp (OpV.not rfl) ?_
  refine hkz3 _ ?_ ?_
  exact rfl
  repeat (first | exact Sub.refl _ | refine Sub.skip rfl ?_)
 case az3 => exact rfl
 case bz3 => exact rfl
 case cz3 => exact rfl
 case dz3 => exact rfl
 refine mv ?_
 refine Lt.ofWL.orQ 25 30 29 (p := ?pz4) (rest := ?qz4) (B := q1_27) rfl (fun hz => orO_t e1_27 hz) ?Tz4 ?Fz4 ?az4 ?bz4 ?cz4 ?dz4 ?ez4
 case Tz4 =>
  intro hcz4 hkz4
  refine sk ?_
  refine sk ?_
  refine sk ?_
  refine sk ?_
  refine hkz4 _ ?_
  repeat (first | exact Sub.refl _ | refine Sub.skip rfl ?_)
 case Fz4 =>
  intro hcz4 hkz4
  have hqz4 := orO_f e1_27 hcz4
  obtain ⟨x1_25, e1_25, hqz4⟩ := bnd hqz4
  obtain rfl := Option.some.inj hqz4
  refine sp (OpV.fieldAddr rfl fo_119_6) ?_
  refine sp (OpV.loadBox rfl pt_3 mq0 rfl) ?_
  refine sp (OpV.call (ec rfl (ec rfl (ec rfl e0))) ca_56 (fun w hs => w_spec_l01In e1_25)) ?_
  refine sp (OpV.not rfl) ?_
  refine hkz4 _ ?_ ?_
  exact rfl
  repeat (first | exact Sub.refl _ | refine Sub.skip rfl ?_)
 case az4 => exact rfl
 case bz4 => exact rfl
 case cz4 => exact rfl
 case dz4 => exact rfl
 refine mv ?_
 refine Lt.ofWL.orQ 31 36 35 (p := ?pz5) (rest := ?qz5) (B := q1_33) rfl (fun hz => orO_t e1_33 hz) ?Tz5 ?Fz5 ?az5 ?bz5 ?cz5 ?dz5 ?ez5
 case Tz5 =>
  intro hcz5 hkz5
  refine sk ?_
  refine sk ?_
  refine sk ?_
  refine sk ?_
  refine hkz5 _ ?_
  repeat (first | exact Sub.refl _ | refine Sub.skip rfl ?_)
 case Fz5 =>
  intro hcz5 hkz5
  have hqz5 := orO_f e1_33 hcz5
  obtain ⟨x1_31, e1_31, hqz5⟩ := bnd hqz5
  obtain rfl := Option.some.inj hqz5
  refine sp (OpV.fieldAddr rfl fo_119_8) ?_
  refine sp (OpV.loadPart rfl mq0 ag_33 rfl rfl) ?_
  refine sp (OpV.call (ec rfl e0) ca_98 (fun w hs => w_spec_ImageOk e1_31 (r0_0.ext hs.below))) ?_
  refine sp (OpV.not rfl) ?_
  refine hkz5 _ ?_ ?_
  exact rfl
  repeat (first | exact Sub.refl _ | refine Sub.skip rfl ?_)
 case az5 => exact rfl
 case bz5 => exact rfl
 case cz5 => exact rfl
 case dz5 => exact rfl
 refine WL.nil (En.next ?_)
 refine WC.cond rfl ?_ ?_
 ·
  intro hc_1
  replace h := ifO_t hc_1 h
  refine WC.sr ?_
  refine ag ?_
  refine WL.nil (En.next (WC.ret (En.then_ret ?_)))
  refine En.ret1 rfl (Res.tmp rfl) ?_
  obtain rfl := Option.some.inj h
  intro w' hs
  exact ⟨rfl, hs.below⟩
 ·
  intro hc_1
  replace h := ifO_f hc_1 h
  refine WC.skip (En.next (WC.seq ?_))
  obtain ⟨q3_17, e3_17, h⟩ := bnd h
  refine WC.region ?_
  refine sp (OpV.fieldAddr rfl fo_119_3) ?_
  refine sp (OpV.loadBox rfl pt_3 mq0 rfl) ?_
  refine sp (OpV.eql rfl rfl) ?_
  refine mv ?_
  refine Lt.ofWL.and 40 44 43 (p := ?pz6) (rest := ?qz6) (B := ?Bz6) rfl ?Tz6 ?Fz6 ?az6 ?bz6 ?cz6 ?dz6 ?ez6
  case Tz6 =>
   intro hcz6 hkz6
   refine sp (OpV.fieldAddr rfl fo_119_4) ?_
   refine sp (OpV.loadBox rfl pt_3 mq0 rfl) ?_
   refine sp (OpV.eql rfl rfl) ?_
   refine hkz6 _ ?_ ?_
   exact rfl
   repeat (first | exact Sub.refl _ | refine Sub.skip rfl ?_)
  case Fz6 =>
   intro hcz6 hkz6
   refine sk ?_
   refine sk ?_
   refine sk ?_
   refine hkz6 _ ?_
   repeat (first | exact Sub.refl _ | refine Sub.skip rfl ?_)
  case az6 => exact rfl
  case bz6 => exact rfl
  case cz6 => exact rfl
  case dz6 => exact rfl
  refine mv ?_
  refine Lt.ofWL.orQ 45 54 53 (p := ?pz7) (rest := ?qz7) (B := q3_17) rfl (fun hz => orO_t e3_17 hz) ?Tz7 ?Fz7 ?az7 ?bz7 ?cz7 ?dz7 ?ez7
  case Tz7 =>
   intro hcz7 hkz7
   refine sk ?_
   refine sk ?_
   refine sk ?_
   refine sk ?_
   refine sk ?_
   refine sk ?_
   refine sk ?_
   refine sk ?_
   refine hkz7 _ ?_
   repeat (first | exact Sub.refl _ | refine Sub.skip rfl ?_)
  case Fz7 =>
   intro hcz7 hkz7
   have hqz7 := orO_f e3_17 hcz7
   obtain ⟨x3_11, e3_11, hqz7⟩ := bnd hqz7
   obtain ⟨q3_16, e3_16, hqz7⟩ := bnd hqz7
   obtain rfl := Option.some.inj hqz7
   refine sp (OpV.fieldAddr rfl fo_119_3) ?_
   refine sp (OpV.loadBox rfl pt_3 mq0 rfl) ?_
   refine sp (OpV.call (ec rfl (ec rfl (ec rfl e0))) ca_56 (fun w hs => w_spec_l01In e3_11)) ?_
   refine mv ?_
   refine Lt.ofWL.andQ 49 53 52 (p := ?pz8) (rest := ?qz8) (B := q3_16) rfl (fun hz => andO_f e3_16 hz) ?Tz8 ?Fz8 ?az8 ?bz8 ?cz8 ?dz8 ?ez8
   case Tz8 =>
    intro hcz8 hkz8
    have hqz8 := andO_t e3_16 hcz8
    obtain ⟨x3_15, e3_15, hqz8⟩ := bnd hqz8
    obtain rfl := Option.some.inj hqz8
    refine sp (OpV.fieldAddr rfl fo_119_4) ?_
    refine sp (OpV.loadBox rfl pt_3 mq0 rfl) ?_
    refine sp (OpV.call (ec rfl (ec rfl (ec rfl e0))) ca_56 (fun w hs => w_spec_l01In e3_15)) ?_
    refine hkz8 _ ?_ ?_
    exact rfl
    repeat (first | exact Sub.refl _ | refine Sub.skip rfl ?_)
   case Fz8 =>
    intro hcz8 hkz8
    refine sk ?_
    refine sk ?_
    refine sk ?_
    refine hkz8 _ ?_
    repeat (first | exact Sub.refl _ | refine Sub.skip rfl ?_)
   case az8 => exact rfl
   case bz8 => exact rfl
   case cz8 => exact rfl
   case dz8 => exact rfl
   refine hkz7 _ ?_ ?_
   exact rfl
   repeat (first | exact Sub.refl _ | refine Sub.skip rfl ?_)
  case az7 => exact rfl
  case bz7 => exact rfl
  case cz7 => exact rfl
  case dz7 => exact rfl
  refine ag ?_
  refine WL.nil (En.next (WC.ret ?_))
  refine En.ret1 rfl (Res.tmp rfl) ?_
  obtain rfl := Option.some.inj h
  intro w' hs
  exact ⟨rfl, hs.below⟩

theorem w_spec_SceneOk {s_p0 : SceneT} {r : Bool} {q0_0 : Option Addr} {l0_0 k0_0 : Nat} (h : spec_SceneOk s_p0 = some r) {w : World} (r0_0 : Rd tSurface w q0_0 l0_0 k0_0 s_p0.Surfaces)   :
    Calls Try.prog 82 #[.agg #[.int .i64 s_p0.W, .int .i64 s_p0.H, .int .i64 s_p0.Back, .slice q0_0 l0_0 k0_0]] w (fun en w' => en = .returned (.bool r) ∧ Ext w w') := by
 obtain rfl := r0_0.1
 unfold spec_SceneOk at h
 refine enter (vs := [_]) Try.func82 rfl rfl rfl rfl ?_
 refine WC.sr ?_
 refine WL.heavy rfl rfl rfl (OpH.box rfl rfl ?_)
 intro b0_0
 refine ag ?_
 refine WL.nil (En.next (WC.seq (WC.seq ?_)))
 obtain ⟨x1_2, e1_2, h⟩ := bnd h
 obtain ⟨q1_9, e1_9, h⟩ := bnd h
 obtain ⟨q1_15, e1_15, h⟩ := bnd h
 refine WC.region ?_
 refine sp (OpV.fieldAddr rfl fo_53_0) ?_
 refine sp (OpV.loadBox rfl pt_3 mq0 rfl) ?_
 refine sp (OpV.call (ec rfl (ec rfl (ec rfl e0))) ca_56 (fun w hs => w_spec_l01In e1_2)) ?_
 refine sp (OpV.not rfl) ?_
 refine mv ?_
 refine Lt.ofWL.orQ 8 13 12 (p := ?pz1) (rest := ?qz1) (B := q1_9) rfl (fun hz => orO_t e1_9 hz) ?Tz1 ?Fz1 ?az1 ?bz1 ?cz1 ?dz1 ?ez1
 case Tz1 =>
  intro hcz1 hkz1
  refine sk ?_
  refine sk ?_
  refine sk ?_
  refine sk ?_
  refine hkz1 _ ?_
  repeat (first | exact Sub.refl _ | refine Sub.skip rfl ?_)
 case Fz1 =>
  intro hcz1 hkz1
  have hqz1 := orO_f e1_9 hcz1
  obtain ⟨x1_7, e1_7, hqz1⟩ := bnd hqz1
  obtain rfl := Option.some.inj hqz1
  refine sp (OpV.fieldAddr rfl fo_53_1) ?_
  refine sp (OpV.loadBox rfl pt_3 mq0 rfl) ?_
  refine sp (OpV.call (ec rfl (ec rfl (ec rfl e0))) ca_56 (fun w hs => w_spec_l01In e1_7)) ?_
  refine sp (OpV.not rfl) ?_
  refine hkz1 _ ?_ ?_
  exact rfl
  repeat (first | exact Sub.refl _ | refine Sub.skip rfl ?_)
 case az1 => exact rfl
 case bz1 => exact rfl
 case cz1 => exact rfl
 case dz1 => exact rfl
 refine mv ?_
 refine Lt.ofWL.orQ 14 19 18 (p := ?pz2) (rest := ?qz2) (B := q1_15) rfl (fun hz => orO_t e1_15 hz) ?Tz2 ?Fz2 ?az2 ?bz2 ?cz2 ?dz2 ?ez2
 case Tz2 =>
  intro hcz2 hkz2
  refine sk ?_
  refine sk ?_
  refine sk ?_
  refine sk ?_
  refine hkz2 _ ?_
  repeat (first | exact Sub.refl _ | refine Sub.skip rfl ?_)
 case Fz2 =>
  intro hcz2 hkz2
  have hqz2 := orO_f e1_15 hcz2
  obtain ⟨x1_13, e1_13, hqz2⟩ := bnd hqz2
  obtain rfl := Option.some.inj hqz2
  refine sp (OpV.fieldAddr rfl fo_53_2) ?_
  refine sp (OpV.loadBox rfl pt_3 mq0 rfl) ?_
  refine sp (OpV.call (ec rfl e0) ca_139 (fun w hs => w_spec_l10Opaque e1_13)) ?_
  refine sp (OpV.not rfl) ?_
  refine hkz2 _ ?_ ?_
  exact rfl
  repeat (first | exact Sub.refl _ | refine Sub.skip rfl ?_)
 case az2 => exact rfl
 case bz2 => exact rfl
 case cz2 => exact rfl
 case dz2 => exact rfl
 refine mv ?_
 refine Lt.ofWL.or 20 25 24 (p := ?pz3) (rest := ?qz3) (B := ?Bz3) rfl ?Tz3 ?Fz3 ?az3 ?bz3 ?cz3 ?dz3 ?ez3
 case Tz3 =>
  intro hcz3 hkz3
  refine sk ?_
  refine sk ?_
  refine sk ?_
  refine sk ?_
  refine hkz3 _ ?_
  repeat (first | exact Sub.refl _ | refine Sub.skip rfl ?_)
 case Fz3 =>
  intro hcz3 hkz3
  refine sp (OpV.fieldAddr rfl fo_53_3) ?_
  refine sp (OpV.loadBox rfl pt_51 mq0 rfl) ?_
  refine sp (OpV.len rfl si_51 rfl) ?_
  refine sp (OpV.gtr rfl rfl) ?_
  refine hkz3 _ ?_ ?_
  exact rfl
  repeat (first | exact Sub.refl _ | refine Sub.skip rfl ?_)
 case az3 => exact rfl
 case bz3 => exact rfl
 case cz3 => exact rfl
 case dz3 => exact rfl
 refine WL.nil (En.next ?_)
 refine WC.cond rfl ?_ ?_
 ·
  intro hc_1
  replace h := ifO_t hc_1 h
  refine WC.sr ?_
  refine ag ?_
  refine WL.nil (En.next (WC.ret (En.then_ret ?_)))
  refine En.ret1 rfl (Res.tmp rfl) ?_
  obtain rfl := Option.some.inj h
  intro w' hs
  exact ⟨rfl, hs.below⟩
 ·
  intro hc_1
  replace h := ifO_f hc_1 h
  refine WC.skip (En.next (WC.seq (WC.sr ?_)))
  refine ag ?_
  refine WL.nil (En.next (WC.block ?_))
  obtain ⟨zy0, ezy0, h⟩ := bnd h
  refine WC.cut (X := (Unit) × (Unit)) (.exit 0) (fun x => zy0 = .inl x.1) (fun x => match x with | ((), ()) => []) (fun x => match x with | ((), ()) => []) ?_ ?_
  ·
   rintro ⟨⟨⟩, ⟨⟩⟩ hx
   replace hx : .inl () = zy0 := hx.symm
   subst hx
   replace h := fork_l h
   show En _ _ _ _ [] []
   refine En.block_exit (En.next (WC.sr ?_))
   refine ag ?_
   refine WL.nil (En.next (WC.ret ?_))
   refine En.ret1 rfl (Res.tmp rfl) ?_
   obtain rfl := Option.some.inj h
   intro w' hs
   exact ⟨rfl, hs.below⟩
  ·
   intro zK0_0
   refine WC.loopP (G := Unit) (fun s g => match s, g with | k_0, () => [(1, .pointer (some ⟨b0_0, 0, .none⟩)), (3, .int .i64 k_0)]) (fun s g => match s, g with | k_0, () => [Chunk.box b0_0 53 [.int .i64 s_p0.W, .int .i64 s_p0.H, .int .i64 s_p0.Back, .slice q0_0 s_p0.Surfaces.length k0_0]]) 0 () ezy0 (by exact sc (sc sn)) (by exact (fun _ h => h)) ?_
   rintro zm0 k_0 ⟨⟩ zo0 zf0 zb0 ze0
   have zh0 : spec_SceneOk_L0 s_p0 k_0 = some zo0 := zf0
   unfold spec_SceneOk_L0 at zh0
   show WC _ _ _ _ _ [(1, .pointer (some ⟨b0_0, 0, .none⟩)), (3, .int .i64 k_0)] [Chunk.box b0_0 53 [.int .i64 s_p0.W, .int .i64 s_p0.H, .int .i64 s_p0.Back, .slice q0_0 s_p0.Surfaces.length k0_0]]
   refine WC.seq (WC.sr ?_)
   refine mv ?_
   refine sp (OpV.fieldAddr rfl fo_53_3) ?_
   refine sp (OpV.loadBox rfl pt_51 mq0 rfl) ?_
   refine sp (OpV.len rfl si_51 rfl) ?_
   refine sp (OpV.lss rfl rfl) ?_
   refine WL.nil (En.next ?_)
   refine WC.cond rfl ?_ ?_
   ·
    intro hc_2
    replace zh0 := ifO_t hc_2 zh0
    refine WC.skip (En.next (WC.seq (WC.block (WC.seq ?_))))
    obtain ⟨x6_3, e6_3, zh0⟩ := bnd zh0
    obtain ⟨g6_3, o6_3, _, ha6_3, ⟨a6_3_1, c6_3_1, rfl, r6_3_1⟩, hd6_3⟩ := Rd.atIdx r0_0 e6_3
    replace hd6_3 : ∀ (j : Nat) v, ([.int .i64 x6_3.Id, .int .i64 x6_3.X, .int .i64 x6_3.Y, .int .i64 x6_3.W, .int .i64 x6_3.H, .int .i64 x6_3.Alpha, .int .i64 x6_3.Orient, .bool x6_3.Visible, .int .i64 x6_3.Buffer.W, .int .i64 x6_3.Buffer.H, .slice a6_3_1 x6_3.Buffer.Data.length c6_3_1] : List Value)[j]? = some v → w.cell? ⟨g6_3, o6_3 + k_0.toNat * 11 + j, .none⟩ = some v := hd6_3
    obtain ⟨x6_5, e6_5, zh0⟩ := bnd zh0
    obtain ⟨q6_18, e6_18, zh0⟩ := bnd zh0
    refine WC.drawn [(1, ?r6q3v1), (3, ?r6q3v3), (51, ?r6q3v51)] (by kernel_rfl) (by kernel_rfl) ?dH6q3 ?dK6q3
    case dH6q3 =>
     intro W hW hk
     refine hW.sp (OpV.fieldAddr rfl fo_53_3) ?_
     refine hW.sp (OpV.loadBox rfl pt_51 mq0 rfl) ?_
     refine hW.mv ?_
     refine hW.sp (OpV.idxA rfl rfl se_51 ha6_3 ⟨(idx_some e6_3).1, (idx_some e6_3).2.1⟩) ?_
     refine hW.sp (OpV.loadN rfl ag_119 rfl (fun w hs => hs.cellsAt hd6_3)) ?_
     refine hW.sp (OpV.call (ec rfl e0) ca_140 (fun w hs => w_spec_SurfaceOk e6_5 (r6_3_1.ext hs.below))) ?_
     refine hW.sp (OpV.not rfl) ?_
     refine hW.mv ?_
     refine hW.orQ 40 51 50 (p := ?pz4) (rest := ?qz4) (B := q6_18) rfl (fun hz => orO_t e6_18 hz) ?Tz4 ?Fz4 ?az4 ?bz4 ?cz4 ?dz4 ?ez4
     case Tz4 =>
      intro hcz4 hkz4
      refine hW.sk ?_
      refine hW.sk ?_
      refine hW.sk ?_
      refine hW.sk ?_
      refine hW.sk ?_
      refine hW.sk ?_
      refine hW.sk ?_
      refine hW.sk ?_
      refine hW.sk ?_
      refine hW.sk ?_
      refine hkz4 _ ?_
      repeat (first | exact Sub.refl _ | refine Sub.skip rfl ?_)
     case Fz4 =>
      intro hcz4 hkz4
      have hqz4 := orO_f e6_18 hcz4
      obtain ⟨x6_12, e6_12, hqz4⟩ := bnd hqz4
      obtain ⟨g6_12, o6_12, _, ha6_12, ⟨a6_12_1, c6_12_1, rfl, r6_12_1⟩, hd6_12⟩ := Rd.atIdx r0_0 e6_12
      replace hd6_12 : ∀ (j : Nat) v, ([.int .i64 x6_12.Id, .int .i64 x6_12.X, .int .i64 x6_12.Y, .int .i64 x6_12.W, .int .i64 x6_12.H, .int .i64 x6_12.Alpha, .int .i64 x6_12.Orient, .bool x6_12.Visible, .int .i64 x6_12.Buffer.W, .int .i64 x6_12.Buffer.H, .slice a6_12_1 x6_12.Buffer.Data.length c6_12_1] : List Value)[j]? = some v → w.cell? ⟨g6_12, o6_12 + k_0.toNat * 11 + j, .none⟩ = some v := hd6_12
      obtain ⟨x6_15, e6_15, hqz4⟩ := bnd hqz4
      obtain rfl := Option.some.inj hqz4
      refine hW.sp (OpV.loadAll rfl mq0 ag_53) ?_
      refine hW.sp (OpV.fieldAddr rfl fo_53_3) ?_
      refine hW.sp (OpV.loadBox rfl pt_51 mq0 rfl) ?_
      refine hW.mv ?_
      refine hW.sp (OpV.idxA rfl rfl se_51 ha6_12 ⟨(idx_some e6_12).1, (idx_some e6_12).2.1⟩) ?_
      refine hW.sp (OpV.fieldAddr rfl fo_119_0) ?_
      refine hW.sp (OpV.load1 rfl pt_3 (fun w hs => hs.cell (hd6_12 0 _ rfl))) ?_
      refine hW.sp (OpV.call (ec rfl (ec rfl e0)) ca_141 (fun w hs => w_spec_SurfaceIndex e6_15 (r0_0.ext hs.below))) ?_
      refine hW.mv ?_
      refine hW.sp (OpV.neq rfl rfl) ?_
      refine hkz4 _ ?_ ?_
      exact rfl
      repeat (first | exact Sub.refl _ | refine Sub.skip rfl ?_)
     case az4 => exact rfl
     case bz4 => exact rfl
     case cz4 => exact rfl
     case dz4 => exact rfl
     refine hk _ ?_
     refine Sub.cons ?_ (Sub.cons ?_ (Sub.cons ?_ sn))
     all_goals exact rfl
    refine En.next ?_
    refine WC.cond rfl ?_ ?_
    ·
     intro hc_3
     replace zh0 := ifO_t hc_3 zh0
     refine WC.sr ?_
     refine ag ?_
     refine WL.nil (En.next (WC.ret (En.block_ret (En.then_ret (En.then_ret (En.block_ret (En.then_ret ?_)))))))
     refine En.ret1 rfl (Res.tmp rfl) ?_
     have hx := exitP ze0 zh0
     subst hx
     replace h := fork_r h
     obtain rfl := Option.some.inj h
     intro w' hs
     exact ⟨rfl, hs.below⟩
    ·
     intro hc_3
     replace zh0 := ifO_f hc_3 zh0
     refine WC.skip (En.block_norm (En.next (WC.region ?_)))
     refine mv ?_
     refine sp (OpV.addR rfl rfl) ?_
     refine ag ?_
     refine WL.nil ?_
     exact En.backP zb0 zh0 () (sc (sc sn)) (fun _ h => h)
   ·
    intro hc_2
    replace zh0 := ifO_f hc_2 zh0
    refine WC.exit (En.then_exit (En.then_exit ?_))
    have hx := exitP ze0 zh0
    exact En.wk _ _ sn (fun _ h => (h).sub (.cons _ (.slnil))) (zK0_0 ((), ()) hx.symm)

theorem w_spec_DoEdit {a_p0 : SceneT} {a_p1 : EditT} {r : SceneT × Bool} {q0_0 : Option Addr} {l0_0 k0_0 : Nat} {q1_0 : Option Addr} {l1_0 k1_0 : Nat} (h : spec_DoEdit a_p0 a_p1 = some r) {w : World} (r0_0 : Rd tSurface w q0_0 l0_0 k0_0 a_p0.Surfaces) (r1_0 : Rd tInt w q1_0 l1_0 k1_0 a_p1.Buffer.Data)   :
    Calls Try.prog 134 #[.agg #[.int .i64 a_p0.W, .int .i64 a_p0.H, .int .i64 a_p0.Back, .slice q0_0 l0_0 k0_0], .agg #[.int .i64 a_p1.Kind, .int .i64 a_p1.Id, .int .i64 a_p1.A, .int .i64 a_p1.B, .int .i64 a_p1.Buffer.W, .int .i64 a_p1.Buffer.H, .slice q1_0 l1_0 k1_0]] w (fun en w' => ∃ rv G, en = .returned rv ∧ (∃ (a0_0 : Option Addr) (n0_0 : Nat) (c0_0 : Nat) (f0_0 : List Nat), rv = .tuple #[.agg #[.int .i64 r.1.W, .int .i64 r.1.H, .int .i64 r.1.Back, .slice a0_0 n0_0 c0_0], .bool r.2] ∧ G = [Chunk.lie tSurface f0_0 a0_0 n0_0 c0_0 r.1.Surfaces]) ∧ St w G w') := by
 obtain rfl := r0_0.1
 obtain rfl := r1_0.1
 unfold spec_DoEdit at h
 refine enter (vs := [_, _]) Try.func134 rfl rfl rfl rfl ?_
 refine WC.wkF (fun _ h => St.vault0 h) ?_
 refine WC.sr ?_
 refine WL.heavy rfl rfl rfl (OpH.box rfl rfl ?_)
 intro b0_0
 refine WL.heavy rfl rfl rfl (OpH.box rfl rfl ?_)
 intro b0_1
 refine WL.heavy rfl rfl rfl (OpH.alloc zc_53 ?_)
 intro b0_2
 refine ag ?_
 refine WL.nil (En.next (WC.seq ?_))
 obtain ⟨x1_1, e1_1, h⟩ := bnd h
 refine WC.region ?_
 refine sp (OpV.loadAll rfl mq2 ag_53) ?_
 refine WL.heavy rfl rfl rfl (OpH.callR (ec rfl e0) ca_172 (fun w hs => w_spec_l10Copy e1_1 (r0_0.ext hs.below)) ?_)
 rintro _ _ ⟨a1_100, n1_100, c1_100, f1_100, rfl, rfl⟩
 refine WL.wkF (fun _ h => h.pm 4) ?_
 refine WL.wkF (fun _ h => h.pm 1) ?_
 refine WL.exF (fun w h => St.vaultRow (F := []) h) ?_
 rintro ⟨W1_1r0, G1_1r0, f1_1r0v⟩ hu1_1r0
 show WL _ _ _ _ _ _ _ [Chunk.own (Ty.al tSurface W1_1r0 G1_1r0) f1_1r0v a1_100 n1_100 c1_100 x1_1.Surfaces, Chunk.vault G1_1r0 W1_1r0, Chunk.box b0_2 53 [.int .i64 0, .int .i64 0, .int .i64 0, .slice .none 0 0], Chunk.box b0_1 158 [.int .i64 a_p1.Kind, .int .i64 a_p1.Id, .int .i64 a_p1.A, .int .i64 a_p1.B, .int .i64 a_p1.Buffer.W, .int .i64 a_p1.Buffer.H, .slice q1_0 a_p1.Buffer.Data.length k1_0], Chunk.box b0_0 53 [.int .i64 a_p0.W, .int .i64 a_p0.H, .int .i64 a_p0.Back, .slice q0_0 a_p0.Surfaces.length k0_0]]
 refine WL.heavy rfl rfl rfl (OpH.alloc zc_53 ?_)
 intro b1_2
 refine WL.heavy0 rfl rfl (OpH.storeTo (A := []) [_, _, _, _] rfl rfl rfl ts_53 rfl rfl rfl ?_)
 refine WL.nil (En.next (WC.seq ?_))
 obtain ⟨x2_3, e2_3, h⟩ := bnd h
 refine WC.region ?_
 refine sp (OpV.loadAll rfl mq5 ag_53) ?_
 refine sp (OpV.fieldAddr rfl fo_158_1) ?_
 refine sp (OpV.loadBox rfl pt_3 mq4 rfl) ?_
 refine sp (OpV.call (ec rfl (ec rfl e0)) ca_141 (fun w hs => w_spec_SurfaceIndex e2_3 (r0_0.ext hs.below))) ?_
 refine ag ?_
 refine WL.nil (En.next (WC.seq (WC.seq ?_)))
 obtain ⟨x3_1, e3_1, h⟩ := bnd h
 obtain ⟨q3_8, e3_8, h⟩ := bnd h
 refine WC.region ?_
 refine sp (OpV.loadAll rfl mq5 ag_53) ?_
 refine sp (OpV.call (ec rfl e0) ca_82 (fun w hs => w_spec_SceneOk e3_1 (r0_0.ext hs.below))) ?_
 refine sp (OpV.not rfl) ?_
 refine mv ?_
 refine Lt.ofWL.orQ 19 24 23 (p := ?pz1) (rest := ?qz1) (B := q3_8) rfl (fun hz => orO_t e3_8 hz) ?Tz1 ?Fz1 ?az1 ?bz1 ?cz1 ?dz1 ?ez1
 case Tz1 =>
  intro hcz1 hkz1
  refine sk ?_
  refine sk ?_
  refine sk ?_
  refine sk ?_
  refine hkz1 _ ?_
  repeat (first | exact Sub.refl _ | refine Sub.skip rfl ?_)
 case Fz1 =>
  intro hcz1 hkz1
  have hqz1 := orO_f e3_8 hcz1
  obtain ⟨x3_6, e3_6, hqz1⟩ := bnd hqz1
  obtain rfl := Option.some.inj hqz1
  refine sp (OpV.fieldAddr rfl fo_158_0) ?_
  refine sp (OpV.loadBox rfl pt_3 mq4 rfl) ?_
  refine sp (OpV.call (ec rfl (ec rfl (ec rfl e0))) ca_56 (fun w hs => w_spec_l01In e3_6)) ?_
  refine sp (OpV.not rfl) ?_
  refine hkz1 _ ?_ ?_
  exact rfl
  repeat (first | exact Sub.refl _ | refine Sub.skip rfl ?_)
 case az1 => exact rfl
 case bz1 => exact rfl
 case cz1 => exact rfl
 case dz1 => exact rfl
 refine mv ?_
 refine Lt.ofWL.or 25 38 37 (p := ?pz2) (rest := ?qz2) (B := ?Bz2) rfl ?Tz2 ?Fz2 ?az2 ?bz2 ?cz2 ?dz2 ?ez2
 case Tz2 =>
  intro hcz2 hkz2
  refine sk ?_
  refine sk ?_
  refine sk ?_
  refine sk ?_
  refine sk ?_
  refine sk ?_
  refine sk ?_
  refine sk ?_
  refine sk ?_
  refine sk ?_
  refine sk ?_
  refine sk ?_
  refine hkz2 _ ?_
  repeat (first | exact Sub.refl _ | refine Sub.skip rfl ?_)
 case Fz2 =>
  intro hcz2 hkz2
  refine mv ?_
  refine sp (OpV.lss rfl rfl) ?_
  refine mv ?_
  refine Lt.ofWL.and 28 32 31 (p := ?pz3) (rest := ?qz3) (B := ?Bz3) rfl ?Tz3 ?Fz3 ?az3 ?bz3 ?cz3 ?dz3 ?ez3
  case Tz3 =>
   intro hcz3 hkz3
   refine sp (OpV.fieldAddr rfl fo_158_0) ?_
   refine sp (OpV.loadBox rfl pt_3 mq4 rfl) ?_
   refine sp (OpV.neq rfl rfl) ?_
   refine hkz3 _ ?_ ?_
   exact rfl
   repeat (first | exact Sub.refl _ | refine Sub.skip rfl ?_)
  case Fz3 =>
   intro hcz3 hkz3
   refine sk ?_
   refine sk ?_
   refine sk ?_
   refine hkz3 _ ?_
   repeat (first | exact Sub.refl _ | refine Sub.skip rfl ?_)
  case az3 => exact rfl
  case bz3 => exact rfl
  case cz3 => exact rfl
  case dz3 => exact rfl
  refine mv ?_
  refine Lt.ofWL.and 33 37 36 (p := ?pz4) (rest := ?qz4) (B := ?Bz4) rfl ?Tz4 ?Fz4 ?az4 ?bz4 ?cz4 ?dz4 ?ez4
  case Tz4 =>
   intro hcz4 hkz4
   refine sp (OpV.fieldAddr rfl fo_158_0) ?_
   refine sp (OpV.loadBox rfl pt_3 mq4 rfl) ?_
   refine sp (OpV.neq rfl rfl) ?_
   refine hkz4 _ ?_ ?_
   exact rfl
   repeat (first | exact Sub.refl _ | refine Sub.skip rfl ?_)
  case Fz4 =>
   intro hcz4 hkz4
   refine sk ?_
   refine sk ?_
   refine sk ?_
   refine hkz4 _ ?_
   repeat (first | exact Sub.refl _ | refine Sub.skip rfl ?_)
  case az4 => exact rfl
  case bz4 => exact rfl
  case cz4 => exact rfl
  case dz4 => exact rfl
  refine hkz2 _ ?_ ?_
  exact rfl
  repeat (first | exact Sub.refl _ | refine Sub.skip rfl ?_)
 case az2 => exact rfl
 case bz2 => exact rfl
 case cz2 => exact rfl
 case dz2 => exact rfl
 refine WL.nil (En.next ?_)
 refine WC.cond rfl ?_ ?_
 ·
  intro hc_1
  replace h := ifO_t hc_1 h
  refine WC.sr ?_
  refine sp (OpV.loadAll rfl mq0 ag_53) ?_
  refine WL.heavy0 rfl rfl (OpH.storeTo (A := [_, _, _]) [_, _, _, _] rfl rfl rfl ts_53 rfl rfl rfl ?_)
  refine ag ?_
  refine WL.nil (En.next (WC.ret (En.then_ret ?_)))
  refine En.ret2 rfl (Res.cell rfl mq3 ag_53) (Res.tmp rfl) ?_
  obtain rfl := Option.some.inj h
  intro w' hs
  have hs := (((hs).pm 2).pm 2).sub (.cons_cons _ (.cons_cons _ (.cons _ (.cons _ (.cons _ (.cons _ (.slnil)))))))
  have hs := St.alLie (F := []) hs
  exact ⟨_, _, rfl, ⟨a1_100, n1_100, c1_100, (f1_1r0v ++ G1_1r0), rfl, rfl⟩, hs⟩
 ·
  intro hc_1
  replace h := ifO_f hc_1 h
  refine WC.skip (En.next (WC.sr ?_))
  refine sp (OpV.build (evps.nil) bd_53_) ?_
  refine WL.heavy rfl rfl rfl (OpH.alloc zc_53 ?_)
  intro b5_1
  refine WL.heavy0 rfl rfl (OpH.storeTo (A := []) [_, _, _, _] rfl rfl rfl ts_53 rfl rfl rfl ?_)
  refine WL.nil (En.next (WC.seq (WC.sr ?_)))
  refine ag ?_
  refine WL.nil (En.next (WC.block ?_))
  obtain ⟨zy0, ezy0, h⟩ := bnd h
  refine WC.cut (X := ((List SurfaceT)) × ((List Nat) × (Option Addr) × Nat × Nat × (List Nat))) (.exit 0) (fun x => zy0 = x.1) (fun x => match x with | (x_0e, (fx_0e, ax_0e, nx_0e, cx_0e, fx1_0e)) => [(2, .pointer (some ⟨b0_0, 0, .none⟩)), (3, .pointer (some ⟨b0_1, 0, .none⟩)), (4, .pointer (some ⟨b0_2, 0, .none⟩)), (6, .pointer (some ⟨b1_2, 0, .none⟩)), (7, .int .i64 x2_3), (8, .pointer (some ⟨b5_1, 0, .none⟩))]) (fun x => match x with | (x_0e, (fx_0e, ax_0e, nx_0e, cx_0e, fx1_0e)) => [Chunk.box b0_0 53 [.int .i64 a_p0.W, .int .i64 a_p0.H, .int .i64 a_p0.Back, .slice q0_0 a_p0.Surfaces.length k0_0], Chunk.box b0_1 158 [.int .i64 a_p1.Kind, .int .i64 a_p1.Id, .int .i64 a_p1.A, .int .i64 a_p1.B, .int .i64 a_p1.Buffer.W, .int .i64 a_p1.Buffer.H, .slice q1_0 a_p1.Buffer.Data.length k1_0], Chunk.box b0_2 53 [.int .i64 0, .int .i64 0, .int .i64 0, .slice .none 0 0], Chunk.box b1_2 53 [.int .i64 x1_1.W, .int .i64 x1_1.H, .int .i64 x1_1.Back, .slice a1_100 n1_100 c1_100], Chunk.own (Ty.al tSurface W1_1r0 G1_1r0) fx_0e a1_100 n1_100 c1_100 x1_1.Surfaces, Chunk.box b5_1 53 [.int .i64 0, .int .i64 0, .int .i64 0, .slice ax_0e nx_0e cx_0e], Chunk.own (Ty.al tSurface W1_1r0 G1_1r0) fx1_0e ax_0e nx_0e cx_0e x_0e, Chunk.vault G1_1r0 W1_1r0]) ?_ ?_
  ·
   rintro ⟨x_0e, ⟨fx_0e, ax_0e, nx_0e, cx_0e, fx1_0e⟩⟩ hx
   replace hx : x_0e = zy0 := hx.symm
   subst hx
   show En _ _ _ _ [(2, .pointer (some ⟨b0_0, 0, .none⟩)), (3, .pointer (some ⟨b0_1, 0, .none⟩)), (4, .pointer (some ⟨b0_2, 0, .none⟩)), (6, .pointer (some ⟨b1_2, 0, .none⟩)), (7, .int .i64 x2_3), (8, .pointer (some ⟨b5_1, 0, .none⟩))] [Chunk.box b0_0 53 [.int .i64 a_p0.W, .int .i64 a_p0.H, .int .i64 a_p0.Back, .slice q0_0 a_p0.Surfaces.length k0_0], Chunk.box b0_1 158 [.int .i64 a_p1.Kind, .int .i64 a_p1.Id, .int .i64 a_p1.A, .int .i64 a_p1.B, .int .i64 a_p1.Buffer.W, .int .i64 a_p1.Buffer.H, .slice q1_0 a_p1.Buffer.Data.length k1_0], Chunk.box b0_2 53 [.int .i64 0, .int .i64 0, .int .i64 0, .slice .none 0 0], Chunk.box b1_2 53 [.int .i64 x1_1.W, .int .i64 x1_1.H, .int .i64 x1_1.Back, .slice a1_100 n1_100 c1_100], Chunk.own (Ty.al tSurface W1_1r0 G1_1r0) fx_0e a1_100 n1_100 c1_100 x1_1.Surfaces, Chunk.box b5_1 53 [.int .i64 0, .int .i64 0, .int .i64 0, .slice ax_0e nx_0e cx_0e], Chunk.own (Ty.al tSurface W1_1r0 G1_1r0) fx1_0e ax_0e nx_0e cx_0e x_0e, Chunk.vault G1_1r0 W1_1r0]
   refine En.block_exit (En.next (WC.seq ?_))
   obtain ⟨zy1, ej1, h⟩ := bnd h
   refine WC.cut (X := (Int × (List SurfaceT)) × ((Option Addr) × Nat × Nat × (List Nat) × World × (List Nat))) .normal (fun x => zy1 = x.1) (fun x => match x with | ((x_1j, x1_1j), (ax_1j, nx_1j, cx_1j, fx_1j, W_1j, G_1j)) => [(2, .pointer (some ⟨b0_0, 0, .none⟩)), (4, .pointer (some ⟨b0_2, 0, .none⟩)), (6, .pointer (some ⟨b1_2, 0, .none⟩))]) (fun x => match x with | ((x_1j, x1_1j), (ax_1j, nx_1j, cx_1j, fx_1j, W_1j, G_1j)) => [Chunk.box b0_0 53 [.int .i64 a_p0.W, .int .i64 a_p0.H, .int .i64 a_p0.Back, .slice q0_0 a_p0.Surfaces.length k0_0], Chunk.box b0_2 53 [.int .i64 0, .int .i64 0, .int .i64 0, .slice .none 0 0], Chunk.box b1_2 53 [.int .i64 x1_1.W, .int .i64 x1_1.H, .int .i64 x_1j, .slice ax_1j nx_1j cx_1j], Chunk.own (Ty.al tSurface W_1j G_1j) fx_1j ax_1j nx_1j cx_1j x1_1j, Chunk.vault G_1j W_1j]) ?_ ?_
   ·
    rintro ⟨⟨x_1j, x1_1j⟩, ⟨ax_1j, nx_1j, cx_1j, fx_1j, W_1j, G_1j⟩⟩ hx
    replace hx : (x_1j, x1_1j) = zy1 := hx.symm
    subst hx
    show En _ _ _ _ [(2, .pointer (some ⟨b0_0, 0, .none⟩)), (4, .pointer (some ⟨b0_2, 0, .none⟩)), (6, .pointer (some ⟨b1_2, 0, .none⟩))] [Chunk.box b0_0 53 [.int .i64 a_p0.W, .int .i64 a_p0.H, .int .i64 a_p0.Back, .slice q0_0 a_p0.Surfaces.length k0_0], Chunk.box b0_2 53 [.int .i64 0, .int .i64 0, .int .i64 0, .slice .none 0 0], Chunk.box b1_2 53 [.int .i64 x1_1.W, .int .i64 x1_1.H, .int .i64 x_1j, .slice ax_1j nx_1j cx_1j], Chunk.own (Ty.al tSurface W_1j G_1j) fx_1j ax_1j nx_1j cx_1j x1_1j, Chunk.vault G_1j W_1j]
    refine En.next (WC.seq (WC.seq ?_))
    obtain ⟨x35_1, e35_1, h⟩ := bnd h
    refine WC.region ?_
    refine sp (OpV.loadAll rfl mq2 ag_53) ?_
    refine sp (OpV.call (ec rfl e0) ca_82 (fun w hs => w_spec_SceneOk e35_1 (Rd.al (Ow.rd (hs.mem mq3)) (hs.mem mq4)))) ?_
    refine sp (OpV.not rfl) ?_
    refine WL.nil (En.next ?_)
    refine WC.cond rfl ?_ ?_
    ·
     intro hc_2
     replace h := ifO_t hc_2 h
     refine WC.seq ?_
     obtain ⟨x36_1, e36_1, h⟩ := bnd h
     refine WC.region ?_
     refine sp (OpV.loadAll rfl mq0 ag_53) ?_
     refine WL.heavy rfl rfl rfl (OpH.callR (ec rfl e0) ca_172 (fun w hs => w_spec_l10Copy e36_1 (r0_0.ext hs.below)) ?_)
     rintro _ _ ⟨a36_100, n36_100, c36_100, f36_100, rfl, rfl⟩
     refine WL.wkF (fun _ h => h.pm 5) ?_
     refine WL.wkF (fun _ h => h.pm 1) ?_
     refine WL.exF (fun w h => St.vaultRow (F := []) h) ?_
     rintro ⟨W36_1r0, G36_1r0, f36_1r0v⟩ hu36_1r0
     show WL _ _ _ _ _ _ _ [Chunk.own (Ty.al tSurface W36_1r0 G36_1r0) f36_1r0v a36_100 n36_100 c36_100 x36_1.Surfaces, Chunk.vault G36_1r0 W36_1r0, Chunk.box b0_0 53 [.int .i64 a_p0.W, .int .i64 a_p0.H, .int .i64 a_p0.Back, .slice q0_0 a_p0.Surfaces.length k0_0], Chunk.box b0_2 53 [.int .i64 0, .int .i64 0, .int .i64 0, .slice .none 0 0], Chunk.box b1_2 53 [.int .i64 x1_1.W, .int .i64 x1_1.H, .int .i64 x_1j, .slice ax_1j nx_1j cx_1j], Chunk.own (Ty.al tSurface W_1j G_1j) fx_1j ax_1j nx_1j cx_1j x1_1j]
     refine WL.wkF (fun _ h => St.alUp (F := [_, _, _, _, _]) hu36_1r0 h) ?_
     refine WL.heavy0 rfl rfl (OpH.storeTo (A := [_, _, _]) [_, _, _, _] rfl rfl rfl ts_53 rfl rfl rfl ?_)
     refine ag ?_
     refine WL.nil (En.next (WC.ret (En.then_ret ?_)))
     refine En.ret2 rfl (Res.cell rfl mq3 ag_53) (Res.tmp rfl) ?_
     obtain rfl := Option.some.inj h
     intro w' hs
     have hs := (hs).sub (.cons_cons _ (.cons_cons _ (.cons _ (.cons _ (.cons _ (.cons _ (.slnil)))))))
     have hs := St.alLie (F := []) hs
     exact ⟨_, _, rfl, ⟨a36_100, n36_100, c36_100, (f36_1r0v ++ G36_1r0), rfl, rfl⟩, hs⟩
    ·
     intro hc_2
     replace h := ifO_f hc_2 h
     refine WC.skip (En.next (WC.seq ?_))
     obtain ⟨x37_1, e37_1, h⟩ := bnd h
     refine WC.region ?_
     refine sp (OpV.loadAll rfl mq2 ag_53) ?_
     refine WL.heavy rfl rfl rfl (OpH.callR (ec rfl e0) ca_172 (fun w hs => w_spec_l10Copy e37_1 (Rd.al (Ow.rd (hs.mem mq3)) (hs.mem mq4))) ?_)
     rintro _ _ ⟨a37_100, n37_100, c37_100, f37_100, rfl, rfl⟩
     refine WL.wkF (fun _ h => h.pm 5) ?_
     refine WL.wkF (fun _ h => h.pm 1) ?_
     refine WL.exF (fun w h => St.vaultRow (F := []) h) ?_
     rintro ⟨W37_1r0, G37_1r0, f37_1r0v⟩ hu37_1r0
     show WL _ _ _ _ _ _ _ [Chunk.own (Ty.al tSurface W37_1r0 G37_1r0) f37_1r0v a37_100 n37_100 c37_100 x37_1.Surfaces, Chunk.vault G37_1r0 W37_1r0, Chunk.box b0_0 53 [.int .i64 a_p0.W, .int .i64 a_p0.H, .int .i64 a_p0.Back, .slice q0_0 a_p0.Surfaces.length k0_0], Chunk.box b0_2 53 [.int .i64 0, .int .i64 0, .int .i64 0, .slice .none 0 0], Chunk.box b1_2 53 [.int .i64 x1_1.W, .int .i64 x1_1.H, .int .i64 x_1j, .slice ax_1j nx_1j cx_1j], Chunk.own (Ty.al tSurface W_1j G_1j) fx_1j ax_1j nx_1j cx_1j x1_1j]
     refine WL.wkF (fun _ h => St.alUp (F := [_, _, _, _, _]) hu37_1r0 h) ?_
     refine WL.heavy0 rfl rfl (OpH.storeTo (A := [_, _, _]) [_, _, _, _] rfl rfl rfl ts_53 rfl rfl rfl ?_)
     refine ag ?_
     refine WL.nil (En.next (WC.ret ?_))
     refine En.ret2 rfl (Res.cell rfl mq3 ag_53) (Res.tmp rfl) ?_
     obtain rfl := Option.some.inj h
     intro w' hs
     have hs := (hs).sub (.cons_cons _ (.cons_cons _ (.cons _ (.cons _ (.cons _ (.cons _ (.slnil)))))))
     have hs := St.alLie (F := []) hs
     exact ⟨_, _, rfl, ⟨a37_100, n37_100, c37_100, (f37_1r0v ++ G37_1r0), rfl, rfl⟩, hs⟩
   ·
    intro zK1
    refine WC.sr ?_
    refine sp (OpV.fieldAddr rfl fo_158_0) ?_
    refine sp (OpV.loadBox rfl pt_3 mq1 rfl) ?_
    refine WL.nil (En.next (WC.block (WC.sr ?_)))
    refine sp (OpV.eql rfl rfl) ?_
    refine ag ?_
    refine WL.nil (En.next ?_)
    refine WC.cond rfl ?_ ?_
    ·
     intro hc_3
     replace ej1 := ifO_t hc_3 ej1
     obtain ⟨x14_10, e14_10, ej1⟩ := bnd ej1
     obtain ⟨x14_13, e14_13, ej1⟩ := bnd ej1
     refine WC.wkF (fun _ h => h.pm 7) ?_
     refine WC.wkF (fun _ h => h.pm 7) ?_
     refine WC.wkF (fun _ h => h.pm 6) ?_
     refine WC.wkF (fun _ h => h.pm 6) ?_
     refine WC.drawnH [_, _, _, _] ([_, _, _, _]) (fun _ h => h) (by kernel_rfl) ?_
     refine tk 0 rfl (OpV.fieldAddr rfl fo_53_3) ?_
     refine tk 2 rfl (OpV.fieldAddr rfl fo_158_1) ?_
     refine tk 3 rfl (OpV.loadBox rfl pt_3 mq1 rfl) ?_
     refine tk 4 rfl (OpV.fieldAddr rfl fo_158_2) ?_
     refine tk 5 rfl (OpV.loadBox rfl pt_3 mq1 rfl) ?_
     refine tk 6 rfl (OpV.fieldAddr rfl fo_158_3) ?_
     refine tk 7 rfl (OpV.loadBox rfl pt_3 mq1 rfl) ?_
     refine tk 8 rfl (OpV.fieldAddr rfl fo_158_4) ?_
     refine tk 9 rfl (OpV.loadPart rfl mq1 ag_33 rfl rfl) ?_
     refine WAE.all (rs := [1, 10]) (by kernel_rfl) rfl (AllR.cons rfl rfl rfl rfl ?_ (AllR.cons rfl rfl rfl rfl ?_ AllR.nil))
     ·
      refine OpH.light (OpV.loadBox rfl pt_51 mq0 rfl) ?_
      refine ⟨[_, _, _, _], rfl, ?_⟩
      refine al1 10 rfl ?_
      refine OpH.callR (ec rfl e0) ca_156 (fun w hs => w_spec_l05Copy e14_10 (r1_0.ext hs.below)) ?_
      rintro _ _ ⟨a14_1000, n14_1000, c14_1000, f14_1000, rfl, rfl⟩
      refine ⟨[_, _, _, _, _], rfl, ?_⟩
      refine tk 11 rfl (OpV.build (evps.cons rfl (evps.cons rfl (evps.cons rfl (evps.cons rfl (evps.cons rfl (evps.cons rfl (evps.nil))))))) (bd_119_0_1_2_5_7_8 _ _ _ _ _ _ _ _ _ _)) ?_
      refine al1 12 rfl ?_
      refine OpH.buildSlice (evps.cons rfl (evps.nil)) (bs_51_1_0 _ _ _ _ _ _ _ _ _ _ _ _ _) ?_
      intro b14_12
      refine ⟨[_, _, _, _, _, _], rfl, ?_⟩
      refine al1 13 rfl ?_
      refine OpH.wkF (fun _ h => h.pm 5) ?_
      refine OpH.wkF (fun _ h => h.pm 2) ?_
      refine OpH.exF (fun w h => St.vaultPut (F := []) h) ?_
      rintro ⟨W14_13v10, G14_13v10⟩ ⟨hu14_13v10, hv14_13v10⟩
      show OpH _ _ [Chunk.vault G14_13v10 W14_13v10, Chunk.box b14_12 119 [.int .i64 a_p1.Id, .int .i64 a_p1.A, .int .i64 a_p1.B, .int .i64 0, .int .i64 0, .int .i64 255, .int .i64 0, .bool true, .int .i64 x14_10.W, .int .i64 x14_10.H, .slice a14_1000 n14_1000 c14_1000], Chunk.box b1_2 53 [.int .i64 x1_1.W, .int .i64 x1_1.H, .int .i64 x1_1.Back, .slice a1_100 n1_100 c1_100], Chunk.own (Ty.al tSurface W1_1r0 G1_1r0) fx_0e a1_100 n1_100 c1_100 x1_1.Surfaces, Chunk.own (Ty.al tSurface W1_1r0 G1_1r0) fx1_0e ax_0e nx_0e cx_0e x_0e, Chunk.box b0_0 53 [.int .i64 a_p0.W, .int .i64 a_p0.H, .int .i64 a_p0.Back, .slice q0_0 a_p0.Surfaces.length k0_0], Chunk.box b0_1 158 [.int .i64 a_p1.Kind, .int .i64 a_p1.Id, .int .i64 a_p1.A, .int .i64 a_p1.B, .int .i64 a_p1.Buffer.W, .int .i64 a_p1.Buffer.H, .slice q1_0 a_p1.Buffer.Data.length k1_0], Chunk.box b0_2 53 [.int .i64 0, .int .i64 0, .int .i64 0, .slice .none 0 0], Chunk.box b5_1 53 [.int .i64 0, .int .i64 0, .int .i64 0, .slice ax_0e nx_0e cx_0e]] _ _ _
      refine OpH.wkF (fun _ h => St.alUp (F := [_, _, _]) hu14_13v10 h) ?_
      refine OpH.wkF (fun _ h => St.alUp (F := [_, _, _, _]) hu14_13v10 h) ?_
      refine OpH.wkF (fun _ h => St.elFree (A := Ty.al tSurface W14_13v10 G14_13v10) (tSurface_mkAl a_p1.Id a_p1.A a_p1.B 0 0 255 0 true x14_10 hv14_13v10) h) ?_
      refine OpH.wkF (fun _ h => h.pm 4) ?_
      refine OpH.wkF (fun _ h => h.pm 1) ?_
      refine OpH.push (A := (Ty.al tSurface W14_13v10 G14_13v10)) rfl rfl rfl mi_51 rfl (by decide) mq1 e14_13 ?_
      intro f14_13 a14_13 c14_13
      refine ⟨[_, _, _, _, _], rfl, ?_⟩
      refine tk 14 rfl (OpV.fieldAddr rfl fo_53_3) ?_
      refine al0 15 rfl ?_
      refine OpH.storeTo (A := [_, _, _]) [_, _, _, _] rfl rfl rfl ts_51 rfl rfl rfl ?_
      refine ⟨[_, _, _, _, _], rfl, ?_⟩
      refine WAE.rebase (H := []) ?_
      refine WAE.done (by kernel_rfl) ?_ _
      refine En.block_norm ?_
      exact En.wk _ _ (sc (sc (sc sn))) (fun _ h => ((((((h).pm 1).pm 1).pm 3).pm 7).pm 6).sub (.cons_cons _ (.cons_cons _ (.cons_cons _ (.cons_cons _ (.cons_cons _ (.cons _ (.cons _ (.cons _ (.cons _ (.slnil))))))))))) (zK1 ((x1_1.Back, x14_13), (a14_13, x14_13.length, c14_13, f14_13, W14_13v10, G14_13v10)) (Option.some.inj ej1).symm)
     ·
      refine OpH.callR (ec rfl e0) ca_156 (fun w hs => w_spec_l05Copy e14_10 (r1_0.ext hs.below)) ?_
      rintro _ _ ⟨a14_1000, n14_1000, c14_1000, f14_1000, rfl, rfl⟩
      refine ⟨[_, _, _, _, _], rfl, ?_⟩
      refine tk 11 rfl (OpV.build (evps.cons rfl (evps.cons rfl (evps.cons rfl (evps.cons rfl (evps.cons rfl (evps.cons rfl (evps.nil))))))) (bd_119_0_1_2_5_7_8 _ _ _ _ _ _ _ _ _ _)) ?_
      refine WAE.all (rs := [1, 12]) (by kernel_rfl) rfl (AllR.cons rfl rfl rfl rfl ?_ (AllR.cons rfl rfl rfl rfl ?_ AllR.nil))
      ·
       refine OpH.light (OpV.loadBox rfl pt_51 mq1 rfl) ?_
       refine ⟨[_, _, _, _, _], rfl, ?_⟩
       refine al1 12 rfl ?_
       refine OpH.buildSlice (evps.cons rfl (evps.nil)) (bs_51_1_0 _ _ _ _ _ _ _ _ _ _ _ _ _) ?_
       intro b14_12
       refine ⟨[_, _, _, _, _, _], rfl, ?_⟩
       refine al1 13 rfl ?_
       refine OpH.wkF (fun _ h => h.pm 5) ?_
       refine OpH.wkF (fun _ h => h.pm 2) ?_
       refine OpH.exF (fun w h => St.vaultPut (F := []) h) ?_
       rintro ⟨W14_13v10, G14_13v10⟩ ⟨hu14_13v10, hv14_13v10⟩
       show OpH _ _ [Chunk.vault G14_13v10 W14_13v10, Chunk.box b14_12 119 [.int .i64 a_p1.Id, .int .i64 a_p1.A, .int .i64 a_p1.B, .int .i64 0, .int .i64 0, .int .i64 255, .int .i64 0, .bool true, .int .i64 x14_10.W, .int .i64 x14_10.H, .slice a14_1000 n14_1000 c14_1000], Chunk.box b1_2 53 [.int .i64 x1_1.W, .int .i64 x1_1.H, .int .i64 x1_1.Back, .slice a1_100 n1_100 c1_100], Chunk.own (Ty.al tSurface W1_1r0 G1_1r0) fx_0e a1_100 n1_100 c1_100 x1_1.Surfaces, Chunk.own (Ty.al tSurface W1_1r0 G1_1r0) fx1_0e ax_0e nx_0e cx_0e x_0e, Chunk.box b0_0 53 [.int .i64 a_p0.W, .int .i64 a_p0.H, .int .i64 a_p0.Back, .slice q0_0 a_p0.Surfaces.length k0_0], Chunk.box b0_1 158 [.int .i64 a_p1.Kind, .int .i64 a_p1.Id, .int .i64 a_p1.A, .int .i64 a_p1.B, .int .i64 a_p1.Buffer.W, .int .i64 a_p1.Buffer.H, .slice q1_0 a_p1.Buffer.Data.length k1_0], Chunk.box b0_2 53 [.int .i64 0, .int .i64 0, .int .i64 0, .slice .none 0 0], Chunk.box b5_1 53 [.int .i64 0, .int .i64 0, .int .i64 0, .slice ax_0e nx_0e cx_0e]] _ _ _
       refine OpH.wkF (fun _ h => St.alUp (F := [_, _, _]) hu14_13v10 h) ?_
       refine OpH.wkF (fun _ h => St.alUp (F := [_, _, _, _]) hu14_13v10 h) ?_
       refine OpH.wkF (fun _ h => St.elFree (A := Ty.al tSurface W14_13v10 G14_13v10) (tSurface_mkAl a_p1.Id a_p1.A a_p1.B 0 0 255 0 true x14_10 hv14_13v10) h) ?_
       refine OpH.wkF (fun _ h => h.pm 4) ?_
       refine OpH.wkF (fun _ h => h.pm 1) ?_
       refine OpH.push (A := (Ty.al tSurface W14_13v10 G14_13v10)) rfl rfl rfl mi_51 rfl (by decide) mq1 e14_13 ?_
       intro f14_13 a14_13 c14_13
       refine ⟨[_, _, _, _, _], rfl, ?_⟩
       refine tk 14 rfl (OpV.fieldAddr rfl fo_53_3) ?_
       refine al0 15 rfl ?_
       refine OpH.storeTo (A := [_, _, _]) [_, _, _, _] rfl rfl rfl ts_51 rfl rfl rfl ?_
       refine ⟨[_, _, _, _, _], rfl, ?_⟩
       refine WAE.rebase (H := []) ?_
       refine WAE.done (by kernel_rfl) ?_ _
       refine En.block_norm ?_
       exact En.wk _ _ (sc (sc (sc sn))) (fun _ h => ((((((h).pm 1).pm 1).pm 3).pm 7).pm 6).sub (.cons_cons _ (.cons_cons _ (.cons_cons _ (.cons_cons _ (.cons_cons _ (.cons _ (.cons _ (.cons _ (.cons _ (.slnil))))))))))) (zK1 ((x1_1.Back, x14_13), (a14_13, x14_13.length, c14_13, f14_13, W14_13v10, G14_13v10)) (Option.some.inj ej1).symm)
      ·
       refine OpH.buildSlice (evps.cons rfl (evps.nil)) (bs_51_1_0 _ _ _ _ _ _ _ _ _ _ _ _ _) ?_
       intro b14_12
       refine ⟨[_, _, _, _, _, _], rfl, ?_⟩
       refine al1 1 rfl ?_
       refine OpH.light (OpV.loadBox rfl pt_51 mq2 rfl) ?_
       refine ⟨[_, _, _, _, _, _], rfl, ?_⟩
       refine al1 13 rfl ?_
       refine OpH.wkF (fun _ h => h.pm 5) ?_
       refine OpH.wkF (fun _ h => h.pm 2) ?_
       refine OpH.exF (fun w h => St.vaultPut (F := []) h) ?_
       rintro ⟨W14_13v10, G14_13v10⟩ ⟨hu14_13v10, hv14_13v10⟩
       show OpH _ _ [Chunk.vault G14_13v10 W14_13v10, Chunk.box b14_12 119 [.int .i64 a_p1.Id, .int .i64 a_p1.A, .int .i64 a_p1.B, .int .i64 0, .int .i64 0, .int .i64 255, .int .i64 0, .bool true, .int .i64 x14_10.W, .int .i64 x14_10.H, .slice a14_1000 n14_1000 c14_1000], Chunk.box b1_2 53 [.int .i64 x1_1.W, .int .i64 x1_1.H, .int .i64 x1_1.Back, .slice a1_100 n1_100 c1_100], Chunk.own (Ty.al tSurface W1_1r0 G1_1r0) fx_0e a1_100 n1_100 c1_100 x1_1.Surfaces, Chunk.own (Ty.al tSurface W1_1r0 G1_1r0) fx1_0e ax_0e nx_0e cx_0e x_0e, Chunk.box b0_0 53 [.int .i64 a_p0.W, .int .i64 a_p0.H, .int .i64 a_p0.Back, .slice q0_0 a_p0.Surfaces.length k0_0], Chunk.box b0_1 158 [.int .i64 a_p1.Kind, .int .i64 a_p1.Id, .int .i64 a_p1.A, .int .i64 a_p1.B, .int .i64 a_p1.Buffer.W, .int .i64 a_p1.Buffer.H, .slice q1_0 a_p1.Buffer.Data.length k1_0], Chunk.box b0_2 53 [.int .i64 0, .int .i64 0, .int .i64 0, .slice .none 0 0], Chunk.box b5_1 53 [.int .i64 0, .int .i64 0, .int .i64 0, .slice ax_0e nx_0e cx_0e]] _ _ _
       refine OpH.wkF (fun _ h => St.alUp (F := [_, _, _]) hu14_13v10 h) ?_
       refine OpH.wkF (fun _ h => St.alUp (F := [_, _, _, _]) hu14_13v10 h) ?_
       refine OpH.wkF (fun _ h => St.elFree (A := Ty.al tSurface W14_13v10 G14_13v10) (tSurface_mkAl a_p1.Id a_p1.A a_p1.B 0 0 255 0 true x14_10 hv14_13v10) h) ?_
       refine OpH.wkF (fun _ h => h.pm 4) ?_
       refine OpH.wkF (fun _ h => h.pm 1) ?_
       refine OpH.push (A := (Ty.al tSurface W14_13v10 G14_13v10)) rfl rfl rfl mi_51 rfl (by decide) mq1 e14_13 ?_
       intro f14_13 a14_13 c14_13
       refine ⟨[_, _, _, _, _], rfl, ?_⟩
       refine tk 14 rfl (OpV.fieldAddr rfl fo_53_3) ?_
       refine al0 15 rfl ?_
       refine OpH.storeTo (A := [_, _, _]) [_, _, _, _] rfl rfl rfl ts_51 rfl rfl rfl ?_
       refine ⟨[_, _, _, _, _], rfl, ?_⟩
       refine WAE.rebase (H := []) ?_
       refine WAE.done (by kernel_rfl) ?_ _
       refine En.block_norm ?_
       exact En.wk _ _ (sc (sc (sc sn))) (fun _ h => ((((((h).pm 1).pm 1).pm 3).pm 7).pm 6).sub (.cons_cons _ (.cons_cons _ (.cons_cons _ (.cons_cons _ (.cons_cons _ (.cons _ (.cons _ (.cons _ (.cons _ (.slnil))))))))))) (zK1 ((x1_1.Back, x14_13), (a14_13, x14_13.length, c14_13, f14_13, W14_13v10, G14_13v10)) (Option.some.inj ej1).symm)
    ·
     intro hc_3
     replace ej1 := ifO_f hc_3 ej1
     refine WC.sr ?_
     refine sp (OpV.eql rfl rfl) ?_
     refine ag ?_
     refine WL.nil (En.next ?_)
     refine WC.cond rfl ?_ ?_
     ·
      intro hc_4
      replace ej1 := ifO_t hc_4 ej1
      refine WC.region ?_
      refine sp (OpV.fieldAddr rfl fo_53_3) ?_
      refine sp (OpV.loadBox rfl pt_51 mq5 rfl) ?_
      refine sp (OpV.fieldAddr rfl fo_53_3) ?_
      refine WL.heavy0 rfl rfl (OpH.storeTo (A := [_, _, _]) [_, _, _, _] rfl rfl rfl ts_51 rfl rfl rfl ?_)
      refine WL.nil (En.block_norm ?_)
      exact En.wk _ _ (sc (sc (sc sn))) (fun _ h => ((((((h).pm 7).pm 7).pm 5).pm 5).pm 4).sub (.cons_cons _ (.cons_cons _ (.cons_cons _ (.cons_cons _ (.cons_cons _ (.cons _ (.cons _ (.cons _ (.slnil)))))))))) (zK1 ((x1_1.Back, x_0e), (ax_0e, nx_0e, cx_0e, fx1_0e, W1_1r0, G1_1r0)) (Option.some.inj ej1).symm)
     ·
      intro hc_4
      replace ej1 := ifO_f hc_4 ej1
      refine WC.sr ?_
      refine sp (OpV.eql rfl rfl) ?_
      refine ag ?_
      refine WL.nil (En.next ?_)
      refine WC.cond rfl ?_ ?_
      ·
       intro hc_5
       replace ej1 := ifO_t hc_5 ej1
       refine WC.seq ?_
       refine WC.inh fun hin18 => ?_
       obtain ⟨x18_5, e18_5, ej1⟩ := bnd ej1
       obtain ⟨g18_5, o18_5, ha18_5⟩ := ownAddr hin18 mq4 e18_5
       have hn18_5 := ownLen hin18 mq4
       obtain ⟨x18_7, e18_7, ej1⟩ := bnd ej1
       refine WC.region ?_
       refine sp (OpV.fieldAddr rfl fo_53_3) ?_
       refine sp (OpV.loadBox rfl pt_51 mq3 rfl) ?_
       refine mv ?_
       refine sp (OpV.fieldAddr rfl fo_158_2) ?_
       refine sp (OpV.loadBox rfl pt_3 mq1 rfl) ?_
       refine sp (OpV.idxA rfl rfl se_51 ha18_5 ⟨(idx_some e18_5).1, by rw [hn18_5]; exact (idx_some e18_5).2.1⟩) ?_
       refine sp (OpV.fieldAddr rfl fo_119_1) ?_
       refine WL.heavy0 rfl rfl (OpH.setFld (F := [_, _, _, _]) (A := (Ty.al tSurface W1_1r0 G1_1r0)) (off := 1) (i := x2_3) (v' := (SurfaceT.mk x18_5.Id a_p1.A x18_5.Y x18_5.W x18_5.H x18_5.Alpha x18_5.Orient x18_5.Visible x18_5.Buffer)) ha18_5 rfl rfl rfl ts_3 rfl rfl e18_5 (fun _ _ _ ⟨hq, fq, hfq, _, _, _, hp, he, h0⟩ => ⟨hq, fq, hfq, _, _, _, hp, by rw [he]; rfl, h0⟩) e18_7 ?_)
       refine WL.nil (En.next ?_)
       refine WC.inh fun hin19 => ?_
       obtain ⟨x19_5, e19_5, ej1⟩ := bnd ej1
       obtain ⟨g19_5, o19_5, ha19_5⟩ := ownAddr hin19 mq4 e19_5
       have hn19_5 := ownLen hin19 mq4
       obtain ⟨x19_7, e19_7, ej1⟩ := bnd ej1
       refine WC.region ?_
       refine sp (OpV.fieldAddr rfl fo_53_3) ?_
       refine sp (OpV.loadBox rfl pt_51 mq3 rfl) ?_
       refine mv ?_
       refine sp (OpV.fieldAddr rfl fo_158_3) ?_
       refine sp (OpV.loadBox rfl pt_3 mq1 rfl) ?_
       refine sp (OpV.idxA rfl rfl se_51 ha19_5 ⟨(idx_some e19_5).1, by rw [hn19_5]; exact (idx_some e19_5).2.1⟩) ?_
       refine sp (OpV.fieldAddr rfl fo_119_2) ?_
       refine WL.heavy0 rfl rfl (OpH.setFld (F := [_, _, _, _]) (A := (Ty.al tSurface W1_1r0 G1_1r0)) (off := 2) (i := x2_3) (v' := (SurfaceT.mk x19_5.Id x19_5.X a_p1.B x19_5.W x19_5.H x19_5.Alpha x19_5.Orient x19_5.Visible x19_5.Buffer)) ha19_5 rfl rfl rfl ts_3 rfl rfl e19_5 (fun _ _ _ ⟨hq, fq, hfq, _, _, _, hp, he, h0⟩ => ⟨hq, fq, hfq, _, _, _, hp, by rw [he]; rfl, h0⟩) e19_7 ?_)
       refine WL.nil (En.block_norm ?_)
       exact En.wk _ _ (sc (sc (sc sn))) (fun _ h => ((((((h).pm 7).pm 5).pm 5).pm 5).pm 4).sub (.cons_cons _ (.cons_cons _ (.cons_cons _ (.cons_cons _ (.cons_cons _ (.cons _ (.cons _ (.cons _ (.slnil)))))))))) (zK1 ((x1_1.Back, x19_7), (a1_100, n1_100, c1_100, fx_0e, W1_1r0, G1_1r0)) (Option.some.inj ej1).symm)
      ·
       intro hc_5
       replace ej1 := ifO_f hc_5 ej1
       refine WC.sr ?_
       refine sp (OpV.eql rfl rfl) ?_
       refine ag ?_
       refine WL.nil (En.next ?_)
       refine WC.cond rfl ?_ ?_
       ·
        intro hc_6
        replace ej1 := ifO_t hc_6 ej1
        refine WC.exF (fun w h => St.alOpen (F := [_, _, _, _]) h) ?_
        rintro cq21_0 hq21_0
        show WC _ _ _ _ _ _ [Chunk.box b0_0 53 [.int .i64 a_p0.W, .int .i64 a_p0.H, .int .i64 a_p0.Back, .slice q0_0 a_p0.Surfaces.length k0_0], Chunk.box b0_1 158 [.int .i64 a_p1.Kind, .int .i64 a_p1.Id, .int .i64 a_p1.A, .int .i64 a_p1.B, .int .i64 a_p1.Buffer.W, .int .i64 a_p1.Buffer.H, .slice q1_0 a_p1.Buffer.Data.length k1_0], Chunk.box b0_2 53 [.int .i64 0, .int .i64 0, .int .i64 0, .slice .none 0 0], Chunk.box b1_2 53 [.int .i64 x1_1.W, .int .i64 x1_1.H, .int .i64 x1_1.Back, .slice a1_100 n1_100 c1_100], Chunk.row tSurface.T tSurface.k a1_100 x1_1.Surfaces.length c1_100 cq21_0.flatten, Chunk.box b5_1 53 [.int .i64 0, .int .i64 0, .int .i64 0, .slice ax_0e nx_0e cx_0e], Chunk.own (Ty.al tSurface W1_1r0 G1_1r0) fx1_0e ax_0e nx_0e cx_0e x_0e, Chunk.vault G1_1r0 W1_1r0]
        refine WC.inh fun hin21 => ?_
        obtain ⟨x21_5, e21_5, ej1⟩ := bnd ej1
        obtain ⟨g21_5, o21_5, ha21_5⟩ := rowAddr hin21 mq4 (idx_pos e21_5)
        obtain ⟨cs21_5, hcs21_5, hr21_5⟩ := hq21_0.2.2.2 _ _ (idx_some e21_5).2.2
        obtain ⟨a21_5_1, c21_5_1, rfl, hv21_5_1⟩ := tSurface_al hr21_5
        obtain ⟨x21_8, e21_8, ej1⟩ := bnd ej1
        refine WC.wkF (fun _ h => h.pm 6) ?_
        refine WC.wkF (fun _ h => h.pm 4) ?_
        refine WC.drawnH [_, _] ([_, _, _, _, _, _]) (fun _ h => h) (by kernel_rfl) ?_
        refine tk 0 rfl (OpV.fieldAddr rfl fo_53_3) ?_
        refine tk 1 rfl (OpV.loadBox rfl pt_51 mq4 rfl) ?_
        refine tk 2 rfl (OpV.fieldAddr rfl fo_53_3) ?_
        refine tk 4 rfl (OpV.move rfl) ?_
        refine al1 3 rfl ?_
        refine OpH.light (OpV.loadBox rfl pt_51 mq0 rfl) ?_
        refine ⟨[_, _], rfl, ?_⟩
        refine tk 5 rfl (OpV.idxA rfl rfl se_51 ha21_5 ⟨(idx_some e21_5).1, by rw [hq21_0.1]; exact (idx_some e21_5).2.1⟩) ?_
        refine tk 6 rfl (OpV.loadN (l := [.int .i64 x21_5.Id, .int .i64 x21_5.X, .int .i64 x21_5.Y, .int .i64 x21_5.W, .int .i64 x21_5.H, .int .i64 x21_5.Alpha, .int .i64 x21_5.Orient, .bool x21_5.Visible, .int .i64 x21_5.Buffer.W, .int .i64 x21_5.Buffer.H, .slice a21_5_1 x21_5.Buffer.Data.length c21_5_1]) rfl ag_119 rfl (fun w hs j v hj => by rw [Addr.add_lit]; exact focCell (hs.mem mq3) hq21_0.2.1 hcs21_5 ha21_5 hj)) ?_
        refine al1 7 rfl ?_
        refine OpH.buildSlice (evps.cons rfl (evps.nil)) (bs_51_1_0 _ _ _ _ _ _ _ _ _ _ _ _ _) ?_
        intro b21_7
        refine ⟨[_, _, _], rfl, ?_⟩
        refine al1 8 rfl ?_
        refine OpH.wkF (fun _ h => St.elFree (A := Ty.al tSurface W1_1r0 G1_1r0) (tSurface_mkAl x21_5.Id x21_5.X x21_5.Y x21_5.W x21_5.H x21_5.Alpha x21_5.Orient x21_5.Visible x21_5.Buffer hv21_5_1) h) ?_
        refine OpH.wkF (fun _ h => h.pm 3) ?_
        refine OpH.wkF (fun _ h => h.pm 1) ?_
        refine OpH.push (A := (Ty.al tSurface W1_1r0 G1_1r0)) rfl rfl rfl mi_51 rfl (by decide) mq0 e21_8 ?_
        intro f21_8 a21_8 c21_8
        refine ⟨[_, _, _], rfl, ?_⟩
        refine tk 9 rfl (OpV.fieldAddr rfl fo_53_3) ?_
        refine al0 10 rfl ?_
        refine OpH.storeTo (A := [_, _]) [_, _, _, _] rfl rfl rfl ts_51 rfl rfl rfl ?_
        refine ⟨[_, _, _], rfl, ?_⟩
        refine WAE.rebase (H := []) ?_
        refine WAE.done (by kernel_rfl) ?_ _
        refine En.exF (fun w h => St.alClose (hp := hq21_0) (F := [_, _, _, _, _, _]) h) ?_
        rintro fz21_0 _
        refine En.block_norm ?_
        exact En.wk _ _ (sc (sc (sc sn))) (fun _ h => ((((((h).pm 8).pm 1).pm 3).pm 6).pm 5).sub (.cons_cons _ (.cons_cons _ (.cons_cons _ (.cons_cons _ (.cons_cons _ (.cons _ (.cons _ (.cons _ (.cons _ (.slnil))))))))))) (zK1 ((x1_1.Back, x21_8), (a21_8, x21_8.length, c21_8, f21_8, W1_1r0, G1_1r0)) (Option.some.inj ej1).symm)
       ·
        intro hc_6
        replace ej1 := ifO_f hc_6 ej1
        refine WC.sr ?_
        refine sp (OpV.eql rfl rfl) ?_
        refine ag ?_
        refine WL.nil (En.next ?_)
        refine WC.cond rfl ?_ ?_
        ·
         intro hc_7
         replace ej1 := ifO_t hc_7 ej1
         refine WC.exF (fun w h => St.alOpen (F := [_, _, _, _]) h) ?_
         rintro cq23_0 hq23_0
         show WC _ _ _ _ _ _ [Chunk.box b0_0 53 [.int .i64 a_p0.W, .int .i64 a_p0.H, .int .i64 a_p0.Back, .slice q0_0 a_p0.Surfaces.length k0_0], Chunk.box b0_1 158 [.int .i64 a_p1.Kind, .int .i64 a_p1.Id, .int .i64 a_p1.A, .int .i64 a_p1.B, .int .i64 a_p1.Buffer.W, .int .i64 a_p1.Buffer.H, .slice q1_0 a_p1.Buffer.Data.length k1_0], Chunk.box b0_2 53 [.int .i64 0, .int .i64 0, .int .i64 0, .slice .none 0 0], Chunk.box b1_2 53 [.int .i64 x1_1.W, .int .i64 x1_1.H, .int .i64 x1_1.Back, .slice a1_100 n1_100 c1_100], Chunk.row tSurface.T tSurface.k a1_100 x1_1.Surfaces.length c1_100 cq23_0.flatten, Chunk.box b5_1 53 [.int .i64 0, .int .i64 0, .int .i64 0, .slice ax_0e nx_0e cx_0e], Chunk.own (Ty.al tSurface W1_1r0 G1_1r0) fx1_0e ax_0e nx_0e cx_0e x_0e, Chunk.vault G1_1r0 W1_1r0]
         refine WC.inh fun hin23 => ?_
         obtain ⟨x23_3, e23_3, ej1⟩ := bnd ej1
         obtain ⟨g23_3, o23_3, ha23_3⟩ := rowAddr hin23 mq4 (idx_pos e23_3)
         obtain ⟨cs23_3, hcs23_3, hr23_3⟩ := hq23_0.2.2.2 _ _ (idx_some e23_3).2.2
         obtain ⟨a23_3_1, c23_3_1, rfl, hv23_3_1⟩ := tSurface_al hr23_3
         obtain ⟨x23_8, e23_8, ej1⟩ := bnd ej1
         refine WC.wkF (fun _ h => h.pm 3) ?_
         refine WC.drawnH [_] ([_, _, _, _, _, _, _]) (fun _ h => h) (by kernel_rfl) ?_
         refine tk 0 rfl (OpV.fieldAddr rfl fo_53_3) ?_
         refine tk 2 rfl (OpV.move rfl) ?_
         refine tk 6 rfl (OpV.fieldAddr rfl fo_53_3) ?_
         refine tk 7 rfl (OpV.loadBox rfl pt_51 mq4 rfl) ?_
         refine al1 1 rfl ?_
         refine OpH.light (OpV.loadBox rfl pt_51 mq0 rfl) ?_
         refine ⟨[_], rfl, ?_⟩
         refine tk 3 rfl (OpV.idxA rfl rfl se_51 ha23_3 ⟨(idx_some e23_3).1, by rw [hq23_0.1]; exact (idx_some e23_3).2.1⟩) ?_
         refine tk 4 rfl (OpV.loadN (l := [.int .i64 x23_3.Id, .int .i64 x23_3.X, .int .i64 x23_3.Y, .int .i64 x23_3.W, .int .i64 x23_3.H, .int .i64 x23_3.Alpha, .int .i64 x23_3.Orient, .bool x23_3.Visible, .int .i64 x23_3.Buffer.W, .int .i64 x23_3.Buffer.H, .slice a23_3_1 x23_3.Buffer.Data.length c23_3_1]) rfl ag_119 rfl (fun w hs j v hj => by rw [Addr.add_lit]; exact focCell (hs.mem mq3) hq23_0.2.1 hcs23_3 ha23_3 hj)) ?_
         refine al1 5 rfl ?_
         refine OpH.wkF (fun _ h => h.innNil (A := (Ty.al tSurface W1_1r0 G1_1r0))) ?_
         refine OpH.wkF (fun _ h => St.elFree (A := Ty.al tSurface W1_1r0 G1_1r0) (tSurface_mkAl x23_3.Id x23_3.X x23_3.Y x23_3.W x23_3.H x23_3.Alpha x23_3.Orient x23_3.Visible x23_3.Buffer hv23_3_1) h) ?_
         refine OpH.wkF (fun _ h => h.innSnoc) ?_
         refine OpH.litN (A := (Ty.al tSurface W1_1r0 G1_1r0)) (evps.cons rfl (evps.nil)) (bs_51_1_0 _ _ _ _ _ _ _ _ _ _ _ _ _) rfl rfl (Nat.le_of_ble_eq_true rfl) ?_
         intro b23_5 f23_5
         refine ⟨[_, _], rfl, ?_⟩
         refine al1 8 rfl ?_
         refine OpH.appA (F := []) (A := tSurface) rfl rfl rfl mi_51 rfl (by decide) (fun w hs => (Ow.rd (hs.mem mq7))) e23_8 ?_
         intro f23_8 a23_8 c23_8
         refine ⟨[_, _], rfl, ?_⟩
         refine tk 9 rfl (OpV.fieldAddr rfl fo_53_3) ?_
         refine al0 10 rfl ?_
         refine OpH.storeTo (A := [_]) [_, _, _, _] rfl rfl rfl ts_51 rfl rfl rfl ?_
         refine ⟨[_, _], rfl, ?_⟩
         refine WAE.rebase (H := []) ?_
         refine WAE.done (by kernel_rfl) ?_ _
         refine En.exF (fun w h => St.alClose (hp := hq23_0) (F := [_, _, _, _, _]) h) ?_
         rintro fz23_0 _
         show En _ _ _ _ _ [Chunk.own (Ty.al tSurface W1_1r0 G1_1r0) f23_8 a23_8 x23_8.length c23_8 x23_8, Chunk.box b1_2 53 [.int .i64 x1_1.W, .int .i64 x1_1.H, .int .i64 x1_1.Back, .slice a23_8 x23_8.length c23_8], Chunk.box b0_0 53 [.int .i64 a_p0.W, .int .i64 a_p0.H, .int .i64 a_p0.Back, .slice q0_0 a_p0.Surfaces.length k0_0], Chunk.box b0_1 158 [.int .i64 a_p1.Kind, .int .i64 a_p1.Id, .int .i64 a_p1.A, .int .i64 a_p1.B, .int .i64 a_p1.Buffer.W, .int .i64 a_p1.Buffer.H, .slice q1_0 a_p1.Buffer.Data.length k1_0], Chunk.box b0_2 53 [.int .i64 0, .int .i64 0, .int .i64 0, .slice .none 0 0], Chunk.own (Ty.al tSurface W1_1r0 G1_1r0) fz23_0 a1_100 n1_100 c1_100 x1_1.Surfaces, Chunk.box b5_1 53 [.int .i64 0, .int .i64 0, .int .i64 0, .slice ax_0e nx_0e cx_0e], Chunk.own (Ty.al tSurface W1_1r0 G1_1r0) fx1_0e ax_0e nx_0e cx_0e x_0e, Chunk.vault G1_1r0 W1_1r0]
         refine En.block_norm ?_
         exact En.wk _ _ (sc (sc (sc sn))) (fun _ h => ((((((h).pm 8).pm 1).pm 2).pm 5).pm 4).sub (.cons_cons _ (.cons_cons _ (.cons_cons _ (.cons_cons _ (.cons_cons _ (.cons _ (.cons _ (.cons _ (.cons _ (.slnil))))))))))) (zK1 ((x1_1.Back, x23_8), (a23_8, x23_8.length, c23_8, f23_8, W1_1r0, G1_1r0)) (Option.some.inj ej1).symm)
        ·
         intro hc_7
         replace ej1 := ifO_f hc_7 ej1
         refine WC.sr ?_
         refine sp (OpV.eql rfl rfl) ?_
         refine ag ?_
         refine WL.nil (En.next ?_)
         refine WC.cond rfl ?_ ?_
         ·
          intro hc_8
          replace ej1 := ifO_t hc_8 ej1
          refine WC.inh fun hin25 => ?_
          obtain ⟨x25_5, e25_5, ej1⟩ := bnd ej1
          obtain ⟨x25_6, e25_6, ej1⟩ := bnd ej1
          obtain ⟨g25_6, o25_6, ha25_6⟩ := ownAddr hin25 mq4 e25_6
          have hn25_6 := ownLen hin25 mq4
          obtain ⟨x25_8, e25_8, ej1⟩ := bnd ej1
          refine WC.wkF (fun _ h => h.pm 7) ?_
          refine WC.wkF (fun _ h => h.pm 7) ?_
          refine WC.wkF (fun _ h => h.pm 6) ?_
          refine WC.drawnH [_, _, _] ([_, _, _, _, _]) (fun _ h => h) (by kernel_rfl) ?_
          refine tk 0 rfl (OpV.fieldAddr rfl fo_53_3) ?_
          refine tk 1 rfl (OpV.loadBox rfl pt_51 mq3 rfl) ?_
          refine tk 2 rfl (OpV.move rfl) ?_
          refine tk 3 rfl (OpV.fieldAddr rfl fo_158_4) ?_
          refine tk 4 rfl (OpV.loadPart rfl mq1 ag_33 rfl rfl) ?_
          refine al1 5 rfl ?_
          refine OpH.callR (ec rfl e0) ca_156 (fun w hs => w_spec_l05Copy e25_5 (r1_0.ext hs.below)) ?_
          rintro _ _ ⟨a25_500, n25_500, c25_500, f25_500, rfl, rfl⟩
          refine ⟨[_, _, _, _], rfl, ?_⟩
          refine tk 6 rfl (OpV.idxA rfl rfl se_51 ha25_6 ⟨(idx_some e25_6).1, by rw [hn25_6]; exact (idx_some e25_6).2.1⟩) ?_
          refine tk 7 rfl (OpV.fieldAddr rfl fo_119_8) ?_
          refine al0 8 rfl ?_
          refine OpH.wkF (fun _ h => h.pm 3) ?_
          refine OpH.wkF (fun _ h => h.pm 1) ?_
          refine OpH.exF (fun w h => St.vaultPut (F := []) h) ?_
          rintro ⟨W25_8, G25_8⟩ ⟨hu25_8, hv25_8⟩
          show OpH _ _ [Chunk.vault G25_8 W25_8, Chunk.own (Ty.al tSurface W1_1r0 G1_1r0) fx_0e a1_100 n1_100 c1_100 x1_1.Surfaces, Chunk.own (Ty.al tSurface W1_1r0 G1_1r0) fx1_0e ax_0e nx_0e cx_0e x_0e, Chunk.box b0_0 53 [.int .i64 a_p0.W, .int .i64 a_p0.H, .int .i64 a_p0.Back, .slice q0_0 a_p0.Surfaces.length k0_0], Chunk.box b0_1 158 [.int .i64 a_p1.Kind, .int .i64 a_p1.Id, .int .i64 a_p1.A, .int .i64 a_p1.B, .int .i64 a_p1.Buffer.W, .int .i64 a_p1.Buffer.H, .slice q1_0 a_p1.Buffer.Data.length k1_0], Chunk.box b0_2 53 [.int .i64 0, .int .i64 0, .int .i64 0, .slice .none 0 0], Chunk.box b1_2 53 [.int .i64 x1_1.W, .int .i64 x1_1.H, .int .i64 x1_1.Back, .slice a1_100 n1_100 c1_100], Chunk.box b5_1 53 [.int .i64 0, .int .i64 0, .int .i64 0, .slice ax_0e nx_0e cx_0e]] _ _ _
          refine OpH.wkF (fun _ h => St.alUp (F := [_]) hu25_8 h) ?_
          refine OpH.wkF (fun _ h => St.alUp (F := [_, _]) hu25_8 h) ?_
          refine OpH.setFld (F := [_]) (A := (Ty.al tSurface W25_8 G25_8)) (off := 8) (i := x2_3) (v' := (SurfaceT.mk x25_6.Id x25_6.X x25_6.Y x25_6.W x25_6.H x25_6.Alpha x25_6.Orient x25_6.Visible x25_5)) ha25_6 rfl rfl rfl ts_33 rfl rfl e25_6 (fun _ _ _ ⟨hq, fq, hfq, _, _, _, hp, he, h0⟩ => let ⟨f2, hf2, o2⟩ := hv25_8; ⟨hq, f2, hf2, a25_500, c25_500, f2, rfl, by rw [he]; exact congrArg (fun k => ([.int .i64 x25_6.Id, .int .i64 x25_6.X, .int .i64 x25_6.Y, .int .i64 x25_6.W, .int .i64 x25_6.H, .int .i64 x25_6.Alpha, .int .i64 x25_6.Orient, .bool x25_6.Visible, .int .i64 x25_5.W, .int .i64 x25_5.H, .slice a25_500 k c25_500] : List Value)) (Vl.len hv25_8), by rw [Vl.len hv25_8] at o2; exact o2⟩) e25_8 ?_
          refine ⟨[_, _, _], rfl, ?_⟩
          refine WAE.rebase (H := []) ?_
          refine WAE.done (by kernel_rfl) ?_ _
          refine En.block_norm ?_
          exact En.wk _ _ (sc (sc (sc sn))) (fun _ h => (((((h).pm 1).pm 6).pm 6).pm 5).sub (.cons_cons _ (.cons_cons _ (.cons_cons _ (.cons_cons _ (.cons_cons _ (.cons _ (.cons _ (.cons _ (.slnil)))))))))) (zK1 ((x1_1.Back, x25_8), (a1_100, n1_100, c1_100, fx_0e, W25_8, G25_8)) (Option.some.inj ej1).symm)
         ·
          intro hc_8
          replace ej1 := ifO_f hc_8 ej1
          refine WC.sr ?_
          refine sp (OpV.eql rfl rfl) ?_
          refine ag ?_
          refine WL.nil (En.next ?_)
          refine WC.cond rfl ?_ ?_
          ·
           intro hc_9
           replace ej1 := ifO_t hc_9 ej1
           refine WC.inh fun hin27 => ?_
           obtain ⟨x27_5, e27_5, ej1⟩ := bnd ej1
           obtain ⟨g27_5, o27_5, ha27_5⟩ := ownAddr hin27 mq4 e27_5
           have hn27_5 := ownLen hin27 mq4
           obtain ⟨x27_7, e27_7, ej1⟩ := bnd ej1
           refine WC.region ?_
           refine sp (OpV.fieldAddr rfl fo_53_3) ?_
           refine sp (OpV.loadBox rfl pt_51 mq3 rfl) ?_
           refine mv ?_
           refine sp (OpV.fieldAddr rfl fo_158_2) ?_
           refine sp (OpV.loadBox rfl pt_3 mq1 rfl) ?_
           refine sp (OpV.idxA rfl rfl se_51 ha27_5 ⟨(idx_some e27_5).1, by rw [hn27_5]; exact (idx_some e27_5).2.1⟩) ?_
           refine sp (OpV.fieldAddr rfl fo_119_5) ?_
           refine WL.heavy0 rfl rfl (OpH.setFld (F := [_, _, _, _]) (A := (Ty.al tSurface W1_1r0 G1_1r0)) (off := 5) (i := x2_3) (v' := (SurfaceT.mk x27_5.Id x27_5.X x27_5.Y x27_5.W x27_5.H a_p1.A x27_5.Orient x27_5.Visible x27_5.Buffer)) ha27_5 rfl rfl rfl ts_3 rfl rfl e27_5 (fun _ _ _ ⟨hq, fq, hfq, _, _, _, hp, he, h0⟩ => ⟨hq, fq, hfq, _, _, _, hp, by rw [he]; rfl, h0⟩) e27_7 ?_)
           refine WL.nil (En.block_norm ?_)
           exact En.wk _ _ (sc (sc (sc sn))) (fun _ h => ((((((h).pm 7).pm 5).pm 5).pm 5).pm 4).sub (.cons_cons _ (.cons_cons _ (.cons_cons _ (.cons_cons _ (.cons_cons _ (.cons _ (.cons _ (.cons _ (.slnil)))))))))) (zK1 ((x1_1.Back, x27_7), (a1_100, n1_100, c1_100, fx_0e, W1_1r0, G1_1r0)) (Option.some.inj ej1).symm)
          ·
           intro hc_9
           replace ej1 := ifO_f hc_9 ej1
           refine WC.sr ?_
           refine sp (OpV.eql rfl rfl) ?_
           refine ag ?_
           refine WL.nil (En.next ?_)
           refine WC.cond rfl ?_ ?_
           ·
            intro hc_10
            replace ej1 := ifO_t hc_10 ej1
            refine WC.inh fun hin29 => ?_
            obtain ⟨x29_5, e29_5, ej1⟩ := bnd ej1
            obtain ⟨g29_5, o29_5, ha29_5⟩ := ownAddr hin29 mq4 e29_5
            have hn29_5 := ownLen hin29 mq4
            obtain ⟨x29_7, e29_7, ej1⟩ := bnd ej1
            refine WC.region ?_
            refine sp (OpV.fieldAddr rfl fo_53_3) ?_
            refine sp (OpV.loadBox rfl pt_51 mq3 rfl) ?_
            refine mv ?_
            refine sp (OpV.fieldAddr rfl fo_158_2) ?_
            refine sp (OpV.loadBox rfl pt_3 mq1 rfl) ?_
            refine sp (OpV.idxA rfl rfl se_51 ha29_5 ⟨(idx_some e29_5).1, by rw [hn29_5]; exact (idx_some e29_5).2.1⟩) ?_
            refine sp (OpV.fieldAddr rfl fo_119_6) ?_
            refine WL.heavy0 rfl rfl (OpH.setFld (F := [_, _, _, _]) (A := (Ty.al tSurface W1_1r0 G1_1r0)) (off := 6) (i := x2_3) (v' := (SurfaceT.mk x29_5.Id x29_5.X x29_5.Y x29_5.W x29_5.H x29_5.Alpha a_p1.A x29_5.Visible x29_5.Buffer)) ha29_5 rfl rfl rfl ts_3 rfl rfl e29_5 (fun _ _ _ ⟨hq, fq, hfq, _, _, _, hp, he, h0⟩ => ⟨hq, fq, hfq, _, _, _, hp, by rw [he]; rfl, h0⟩) e29_7 ?_)
            refine WL.nil (En.block_norm ?_)
            exact En.wk _ _ (sc (sc (sc sn))) (fun _ h => ((((((h).pm 7).pm 5).pm 5).pm 5).pm 4).sub (.cons_cons _ (.cons_cons _ (.cons_cons _ (.cons_cons _ (.cons_cons _ (.cons _ (.cons _ (.cons _ (.slnil)))))))))) (zK1 ((x1_1.Back, x29_7), (a1_100, n1_100, c1_100, fx_0e, W1_1r0, G1_1r0)) (Option.some.inj ej1).symm)
           ·
            intro hc_10
            replace ej1 := ifO_f hc_10 ej1
            refine WC.sr ?_
            refine sp (OpV.eql rfl rfl) ?_
            refine ag ?_
            refine WL.nil (En.next ?_)
            refine WC.cond rfl ?_ ?_
            ·
             intro hc_11
             replace ej1 := ifO_t hc_11 ej1
             refine WC.seq ?_
             refine WC.inh fun hin31 => ?_
             obtain ⟨x31_5, e31_5, ej1⟩ := bnd ej1
             obtain ⟨g31_5, o31_5, ha31_5⟩ := ownAddr hin31 mq4 e31_5
             have hn31_5 := ownLen hin31 mq4
             obtain ⟨x31_7, e31_7, ej1⟩ := bnd ej1
             refine WC.region ?_
             refine sp (OpV.fieldAddr rfl fo_53_3) ?_
             refine sp (OpV.loadBox rfl pt_51 mq3 rfl) ?_
             refine mv ?_
             refine sp (OpV.fieldAddr rfl fo_158_2) ?_
             refine sp (OpV.loadBox rfl pt_3 mq1 rfl) ?_
             refine sp (OpV.idxA rfl rfl se_51 ha31_5 ⟨(idx_some e31_5).1, by rw [hn31_5]; exact (idx_some e31_5).2.1⟩) ?_
             refine sp (OpV.fieldAddr rfl fo_119_3) ?_
             refine WL.heavy0 rfl rfl (OpH.setFld (F := [_, _, _, _]) (A := (Ty.al tSurface W1_1r0 G1_1r0)) (off := 3) (i := x2_3) (v' := (SurfaceT.mk x31_5.Id x31_5.X x31_5.Y a_p1.A x31_5.H x31_5.Alpha x31_5.Orient x31_5.Visible x31_5.Buffer)) ha31_5 rfl rfl rfl ts_3 rfl rfl e31_5 (fun _ _ _ ⟨hq, fq, hfq, _, _, _, hp, he, h0⟩ => ⟨hq, fq, hfq, _, _, _, hp, by rw [he]; rfl, h0⟩) e31_7 ?_)
             refine WL.nil (En.next ?_)
             refine WC.inh fun hin32 => ?_
             obtain ⟨x32_5, e32_5, ej1⟩ := bnd ej1
             obtain ⟨g32_5, o32_5, ha32_5⟩ := ownAddr hin32 mq4 e32_5
             have hn32_5 := ownLen hin32 mq4
             obtain ⟨x32_7, e32_7, ej1⟩ := bnd ej1
             refine WC.region ?_
             refine sp (OpV.fieldAddr rfl fo_53_3) ?_
             refine sp (OpV.loadBox rfl pt_51 mq3 rfl) ?_
             refine mv ?_
             refine sp (OpV.fieldAddr rfl fo_158_3) ?_
             refine sp (OpV.loadBox rfl pt_3 mq1 rfl) ?_
             refine sp (OpV.idxA rfl rfl se_51 ha32_5 ⟨(idx_some e32_5).1, by rw [hn32_5]; exact (idx_some e32_5).2.1⟩) ?_
             refine sp (OpV.fieldAddr rfl fo_119_4) ?_
             refine WL.heavy0 rfl rfl (OpH.setFld (F := [_, _, _, _]) (A := (Ty.al tSurface W1_1r0 G1_1r0)) (off := 4) (i := x2_3) (v' := (SurfaceT.mk x32_5.Id x32_5.X x32_5.Y x32_5.W a_p1.B x32_5.Alpha x32_5.Orient x32_5.Visible x32_5.Buffer)) ha32_5 rfl rfl rfl ts_3 rfl rfl e32_5 (fun _ _ _ ⟨hq, fq, hfq, _, _, _, hp, he, h0⟩ => ⟨hq, fq, hfq, _, _, _, hp, by rw [he]; rfl, h0⟩) e32_7 ?_)
             refine WL.nil (En.block_norm ?_)
             exact En.wk _ _ (sc (sc (sc sn))) (fun _ h => ((((((h).pm 7).pm 5).pm 5).pm 5).pm 4).sub (.cons_cons _ (.cons_cons _ (.cons_cons _ (.cons_cons _ (.cons_cons _ (.cons _ (.cons _ (.cons _ (.slnil)))))))))) (zK1 ((x1_1.Back, x32_7), (a1_100, n1_100, c1_100, fx_0e, W1_1r0, G1_1r0)) (Option.some.inj ej1).symm)
            ·
             intro hc_11
             replace ej1 := ifO_f hc_11 ej1
             refine WC.sr ?_
             refine sp (OpV.eql rfl rfl) ?_
             refine ag ?_
             refine WL.nil (En.next ?_)
             refine WC.cond rfl ?_ ?_
             ·
              intro hc_12
              replace ej1 := ifO_t hc_12 ej1
              refine WC.inh fun hin34 => ?_
              obtain ⟨x34_6, e34_6, ej1⟩ := bnd ej1
              obtain ⟨g34_6, o34_6, ha34_6⟩ := ownAddr hin34 mq4 e34_6
              have hn34_6 := ownLen hin34 mq4
              obtain ⟨x34_8, e34_8, ej1⟩ := bnd ej1
              refine WC.region ?_
              refine sp (OpV.fieldAddr rfl fo_53_3) ?_
              refine sp (OpV.loadBox rfl pt_51 mq3 rfl) ?_
              refine mv ?_
              refine sp (OpV.fieldAddr rfl fo_158_2) ?_
              refine sp (OpV.loadBox rfl pt_3 mq1 rfl) ?_
              refine sp (OpV.eql rfl rfl) ?_
              refine sp (OpV.idxA rfl rfl se_51 ha34_6 ⟨(idx_some e34_6).1, by rw [hn34_6]; exact (idx_some e34_6).2.1⟩) ?_
              refine sp (OpV.fieldAddr rfl fo_119_7) ?_
              refine WL.heavy0 rfl rfl (OpH.setFld (F := [_, _, _, _]) (A := (Ty.al tSurface W1_1r0 G1_1r0)) (off := 7) (i := x2_3) (v' := (SurfaceT.mk x34_6.Id x34_6.X x34_6.Y x34_6.W x34_6.H x34_6.Alpha x34_6.Orient (decide (a_p1.A = 1)) x34_6.Buffer)) ha34_6 rfl rfl rfl ts_4 rfl rfl e34_6 (fun _ _ _ ⟨hq, fq, hfq, _, _, _, hp, he, h0⟩ => ⟨hq, fq, hfq, _, _, _, hp, by rw [he]; rfl, h0⟩) e34_8 ?_)
              refine WL.nil (En.block_norm ?_)
              exact En.wk _ _ (sc (sc (sc sn))) (fun _ h => ((((((h).pm 7).pm 5).pm 5).pm 5).pm 4).sub (.cons_cons _ (.cons_cons _ (.cons_cons _ (.cons_cons _ (.cons_cons _ (.cons _ (.cons _ (.cons _ (.slnil)))))))))) (zK1 ((x1_1.Back, x34_8), (a1_100, n1_100, c1_100, fx_0e, W1_1r0, G1_1r0)) (Option.some.inj ej1).symm)
             ·
              intro hc_12
              replace ej1 := ifO_f hc_12 ej1
              refine WC.region ?_
              refine sp (OpV.fieldAddr rfl fo_158_2) ?_
              refine sp (OpV.loadBox rfl pt_3 mq1 rfl) ?_
              refine sp (OpV.fieldAddr rfl fo_53_2) ?_
              refine WL.heavy0 rfl rfl (OpH.storeTo (A := [_, _, _]) [_, _, _, _] rfl rfl rfl ts_3 rfl rfl rfl ?_)
              refine WL.nil (En.block_norm ?_)
              exact En.wk _ _ (sc (sc (sc sn))) (fun _ h => ((((((h).pm 7).pm 5).pm 5).pm 5).pm 4).sub (.cons_cons _ (.cons_cons _ (.cons_cons _ (.cons_cons _ (.cons_cons _ (.cons _ (.cons _ (.cons _ (.slnil)))))))))) (zK1 ((a_p1.A, x1_1.Surfaces), (a1_100, n1_100, c1_100, fx_0e, W1_1r0, G1_1r0)) (Option.some.inj ej1).symm)
  ·
   intro zK0_0
   refine WC.loopP (G := (List Nat) × (Option Addr) × Nat × Nat × (List Nat)) (fun s g => match s, g with | (x_0, v_0), (fx_0, ax_0, nx_0, cx_0, fx1_0) => [(2, .pointer (some ⟨b0_0, 0, .none⟩)), (3, .pointer (some ⟨b0_1, 0, .none⟩)), (4, .pointer (some ⟨b0_2, 0, .none⟩)), (6, .pointer (some ⟨b1_2, 0, .none⟩)), (7, .int .i64 x2_3), (8, .pointer (some ⟨b5_1, 0, .none⟩)), (9, .int .i64 v_0)]) (fun s g => match s, g with | (x_0, v_0), (fx_0, ax_0, nx_0, cx_0, fx1_0) => [Chunk.box b0_0 53 [.int .i64 a_p0.W, .int .i64 a_p0.H, .int .i64 a_p0.Back, .slice q0_0 a_p0.Surfaces.length k0_0], Chunk.box b0_1 158 [.int .i64 a_p1.Kind, .int .i64 a_p1.Id, .int .i64 a_p1.A, .int .i64 a_p1.B, .int .i64 a_p1.Buffer.W, .int .i64 a_p1.Buffer.H, .slice q1_0 a_p1.Buffer.Data.length k1_0], Chunk.box b0_2 53 [.int .i64 0, .int .i64 0, .int .i64 0, .slice .none 0 0], Chunk.box b1_2 53 [.int .i64 x1_1.W, .int .i64 x1_1.H, .int .i64 x1_1.Back, .slice a1_100 n1_100 c1_100], Chunk.own (Ty.al tSurface W1_1r0 G1_1r0) fx_0 a1_100 n1_100 c1_100 x1_1.Surfaces, Chunk.box b5_1 53 [.int .i64 0, .int .i64 0, .int .i64 0, .slice ax_0 nx_0 cx_0], Chunk.own (Ty.al tSurface W1_1r0 G1_1r0) fx1_0 ax_0 nx_0 cx_0 x_0, Chunk.vault G1_1r0 W1_1r0]) ([], 0) (f1_1r0v, .none, 0, 0, []) ezy0 (by exact sc (sc (sc (sc (sc (sc (sc sn))))))) (by exact (fun _ h => (((((((((h).ownNil (A := (Ty.al tSurface W1_1r0 G1_1r0))).pm 4).pm 1).pm 2).pm 4).pm 4).pm 5).pm 6).pm 7)) ?_
   rintro zm0 ⟨x_0, v_0⟩ ⟨fx_0, ax_0, nx_0, cx_0, fx1_0⟩ zo0 zf0 zb0 ze0
   have zh0 : spec_DoEdit_L0 x1_1 x2_3 x_0 v_0 = some zo0 := zf0
   unfold spec_DoEdit_L0 at zh0
   show WC _ _ _ _ _ [(2, .pointer (some ⟨b0_0, 0, .none⟩)), (3, .pointer (some ⟨b0_1, 0, .none⟩)), (4, .pointer (some ⟨b0_2, 0, .none⟩)), (6, .pointer (some ⟨b1_2, 0, .none⟩)), (7, .int .i64 x2_3), (8, .pointer (some ⟨b5_1, 0, .none⟩)), (9, .int .i64 v_0)] [Chunk.box b0_0 53 [.int .i64 a_p0.W, .int .i64 a_p0.H, .int .i64 a_p0.Back, .slice q0_0 a_p0.Surfaces.length k0_0], Chunk.box b0_1 158 [.int .i64 a_p1.Kind, .int .i64 a_p1.Id, .int .i64 a_p1.A, .int .i64 a_p1.B, .int .i64 a_p1.Buffer.W, .int .i64 a_p1.Buffer.H, .slice q1_0 a_p1.Buffer.Data.length k1_0], Chunk.box b0_2 53 [.int .i64 0, .int .i64 0, .int .i64 0, .slice .none 0 0], Chunk.box b1_2 53 [.int .i64 x1_1.W, .int .i64 x1_1.H, .int .i64 x1_1.Back, .slice a1_100 n1_100 c1_100], Chunk.own (Ty.al tSurface W1_1r0 G1_1r0) fx_0 a1_100 n1_100 c1_100 x1_1.Surfaces, Chunk.box b5_1 53 [.int .i64 0, .int .i64 0, .int .i64 0, .slice ax_0 nx_0 cx_0], Chunk.own (Ty.al tSurface W1_1r0 G1_1r0) fx1_0 ax_0 nx_0 cx_0 x_0, Chunk.vault G1_1r0 W1_1r0]
   refine WC.seq (WC.sr ?_)
   refine mv ?_
   refine sp (OpV.fieldAddr rfl fo_53_3) ?_
   refine sp (OpV.loadBox rfl pt_51 mq3 rfl) ?_
   refine sp (OpV.inhF fun hin => OpV.lenO (xs := x1_1.Surfaces) rfl si_51 rfl (ownLen hin mq4)) ?_
   refine sp (OpV.lss rfl rfl) ?_
   refine mv ?_
   refine Lt.ofWL.and 46 49 48 (p := ?pz5) (rest := ?qz5) (B := ?Bz5) rfl ?Tz5 ?Fz5 ?az5 ?bz5 ?cz5 ?dz5 ?ez5
   case Tz5 =>
    intro hcz5 hkz5
    refine mv ?_
    refine sp (OpV.geq rfl rfl) ?_
    refine hkz5 _ ?_ ?_
    exact rfl
    repeat (first | exact Sub.refl _ | refine Sub.skip rfl ?_)
   case Fz5 =>
    intro hcz5 hkz5
    refine sk ?_
    refine sk ?_
    refine hkz5 _ ?_
    repeat (first | exact Sub.refl _ | refine Sub.skip rfl ?_)
   case az5 => exact rfl
   case bz5 => exact rfl
   case cz5 => exact rfl
   case dz5 => exact rfl
   refine WL.nil (En.next ?_)
   refine WC.cond rfl ?_ ?_
   ·
    intro hc_13
    replace zh0 := ifO_t hc_13 zh0
    refine WC.skip (En.next (WC.seq ?_))
    obtain ⟨zy2, ej2, zh0⟩ := bnd zh0
    refine WC.cut (X := ((List SurfaceT)) × ((List Nat) × (Option Addr) × Nat × Nat × (List Nat))) .normal (fun x => zy2 = x.1) (fun x => match x with | (x_2j, (fx_2j, ax_2j, nx_2j, cx_2j, fx1_2j)) => [(2, .pointer (some ⟨b0_0, 0, .none⟩)), (3, .pointer (some ⟨b0_1, 0, .none⟩)), (4, .pointer (some ⟨b0_2, 0, .none⟩)), (6, .pointer (some ⟨b1_2, 0, .none⟩)), (7, .int .i64 x2_3), (8, .pointer (some ⟨b5_1, 0, .none⟩)), (9, .int .i64 v_0)]) (fun x => match x with | (x_2j, (fx_2j, ax_2j, nx_2j, cx_2j, fx1_2j)) => [Chunk.box b0_0 53 [.int .i64 a_p0.W, .int .i64 a_p0.H, .int .i64 a_p0.Back, .slice q0_0 a_p0.Surfaces.length k0_0], Chunk.box b0_1 158 [.int .i64 a_p1.Kind, .int .i64 a_p1.Id, .int .i64 a_p1.A, .int .i64 a_p1.B, .int .i64 a_p1.Buffer.W, .int .i64 a_p1.Buffer.H, .slice q1_0 a_p1.Buffer.Data.length k1_0], Chunk.box b0_2 53 [.int .i64 0, .int .i64 0, .int .i64 0, .slice .none 0 0], Chunk.box b1_2 53 [.int .i64 x1_1.W, .int .i64 x1_1.H, .int .i64 x1_1.Back, .slice a1_100 n1_100 c1_100], Chunk.own (Ty.al tSurface W1_1r0 G1_1r0) fx_2j a1_100 n1_100 c1_100 x1_1.Surfaces, Chunk.box b5_1 53 [.int .i64 0, .int .i64 0, .int .i64 0, .slice ax_2j nx_2j cx_2j], Chunk.own (Ty.al tSurface W1_1r0 G1_1r0) fx1_2j ax_2j nx_2j cx_2j x_2j, Chunk.vault G1_1r0 W1_1r0]) ?_ ?_
    ·
     rintro ⟨x_2j, ⟨fx_2j, ax_2j, nx_2j, cx_2j, fx1_2j⟩⟩ hx
     replace hx : x_2j = zy2 := hx.symm
     subst hx
     show En _ _ _ _ [(2, .pointer (some ⟨b0_0, 0, .none⟩)), (3, .pointer (some ⟨b0_1, 0, .none⟩)), (4, .pointer (some ⟨b0_2, 0, .none⟩)), (6, .pointer (some ⟨b1_2, 0, .none⟩)), (7, .int .i64 x2_3), (8, .pointer (some ⟨b5_1, 0, .none⟩)), (9, .int .i64 v_0)] [Chunk.box b0_0 53 [.int .i64 a_p0.W, .int .i64 a_p0.H, .int .i64 a_p0.Back, .slice q0_0 a_p0.Surfaces.length k0_0], Chunk.box b0_1 158 [.int .i64 a_p1.Kind, .int .i64 a_p1.Id, .int .i64 a_p1.A, .int .i64 a_p1.B, .int .i64 a_p1.Buffer.W, .int .i64 a_p1.Buffer.H, .slice q1_0 a_p1.Buffer.Data.length k1_0], Chunk.box b0_2 53 [.int .i64 0, .int .i64 0, .int .i64 0, .slice .none 0 0], Chunk.box b1_2 53 [.int .i64 x1_1.W, .int .i64 x1_1.H, .int .i64 x1_1.Back, .slice a1_100 n1_100 c1_100], Chunk.own (Ty.al tSurface W1_1r0 G1_1r0) fx_2j a1_100 n1_100 c1_100 x1_1.Surfaces, Chunk.box b5_1 53 [.int .i64 0, .int .i64 0, .int .i64 0, .slice ax_2j nx_2j cx_2j], Chunk.own (Ty.al tSurface W1_1r0 G1_1r0) fx1_2j ax_2j nx_2j cx_2j x_2j, Chunk.vault G1_1r0 W1_1r0]
     refine En.next (WC.region ?_)
     refine mv ?_
     refine sp (OpV.addR rfl rfl) ?_
     refine ag ?_
     refine WL.nil ?_
     exact En.backP zb0 zh0 (fx_2j, ax_2j, nx_2j, cx_2j, fx1_2j) (sc (sc (sc (sc (sc (sc (sc sn))))))) (fun _ h => h)
    ·
     intro zK2
     refine WC.block (WC.sr ?_)
     refine mv ?_
     refine mv ?_
     refine sp (OpV.neq rfl rfl) ?_
     refine WL.nil (En.next ?_)
     refine WC.cond rfl ?_ ?_
     ·
      intro hc_14
      replace ej2 := ifO_t hc_14 ej2
      refine WC.exF (fun w h => St.alOpen (F := [_, _, _, _]) h) ?_
      rintro cq10_0 hq10_0
      show WC _ _ _ _ _ _ [Chunk.box b0_0 53 [.int .i64 a_p0.W, .int .i64 a_p0.H, .int .i64 a_p0.Back, .slice q0_0 a_p0.Surfaces.length k0_0], Chunk.box b0_1 158 [.int .i64 a_p1.Kind, .int .i64 a_p1.Id, .int .i64 a_p1.A, .int .i64 a_p1.B, .int .i64 a_p1.Buffer.W, .int .i64 a_p1.Buffer.H, .slice q1_0 a_p1.Buffer.Data.length k1_0], Chunk.box b0_2 53 [.int .i64 0, .int .i64 0, .int .i64 0, .slice .none 0 0], Chunk.box b1_2 53 [.int .i64 x1_1.W, .int .i64 x1_1.H, .int .i64 x1_1.Back, .slice a1_100 n1_100 c1_100], Chunk.row tSurface.T tSurface.k a1_100 x1_1.Surfaces.length c1_100 cq10_0.flatten, Chunk.box b5_1 53 [.int .i64 0, .int .i64 0, .int .i64 0, .slice ax_0 nx_0 cx_0], Chunk.own (Ty.al tSurface W1_1r0 G1_1r0) fx1_0 ax_0 nx_0 cx_0 x_0, Chunk.vault G1_1r0 W1_1r0]
      refine WC.inh fun hin10 => ?_
      obtain ⟨x10_5, e10_5, ej2⟩ := bnd ej2
      obtain ⟨g10_5, o10_5, ha10_5⟩ := rowAddr hin10 mq4 (idx_pos e10_5)
      obtain ⟨cs10_5, hcs10_5, hr10_5⟩ := hq10_0.2.2.2 _ _ (idx_some e10_5).2.2
      obtain ⟨a10_5_1, c10_5_1, rfl, hv10_5_1⟩ := tSurface_al hr10_5
      obtain ⟨x10_8, e10_8, ej2⟩ := bnd ej2
      refine WC.wkF (fun _ h => h.pm 6) ?_
      refine WC.wkF (fun _ h => h.pm 6) ?_
      refine WC.drawnH [_, _] ([_, _, _, _, _, _]) (fun _ h => h) (by kernel_rfl) ?_
      refine tk 0 rfl (OpV.fieldAddr rfl fo_53_3) ?_
      refine tk 2 rfl (OpV.fieldAddr rfl fo_53_3) ?_
      refine tk 3 rfl (OpV.loadBox rfl pt_51 mq3 rfl) ?_
      refine tk 4 rfl (OpV.move rfl) ?_
      refine tk 5 rfl (OpV.idxA rfl rfl se_51 ha10_5 ⟨(idx_some e10_5).1, by rw [hq10_0.1]; exact (idx_some e10_5).2.1⟩) ?_
      refine tk 6 rfl (OpV.loadN (l := [.int .i64 x10_5.Id, .int .i64 x10_5.X, .int .i64 x10_5.Y, .int .i64 x10_5.W, .int .i64 x10_5.H, .int .i64 x10_5.Alpha, .int .i64 x10_5.Orient, .bool x10_5.Visible, .int .i64 x10_5.Buffer.W, .int .i64 x10_5.Buffer.H, .slice a10_5_1 x10_5.Buffer.Data.length c10_5_1]) rfl ag_119 rfl (fun w hs j v hj => by rw [Addr.add_lit]; exact focCell (hs.mem mq4) hq10_0.2.1 hcs10_5 ha10_5 hj)) ?_
      refine WAE.all (rs := [1, 7]) (by kernel_rfl) rfl (AllR.cons rfl rfl rfl rfl ?_ (AllR.cons rfl rfl rfl rfl ?_ AllR.nil))
      ·
       refine OpH.light (OpV.loadBox rfl pt_51 mq0 rfl) ?_
       refine ⟨[_, _], rfl, ?_⟩
       refine al1 7 rfl ?_
       refine OpH.buildSlice (evps.cons rfl (evps.nil)) (bs_51_1_0 _ _ _ _ _ _ _ _ _ _ _ _ _) ?_
       intro b10_7
       refine ⟨[_, _, _], rfl, ?_⟩
       refine al1 8 rfl ?_
       refine OpH.wkF (fun _ h => St.elFree (A := Ty.al tSurface W1_1r0 G1_1r0) (tSurface_mkAl x10_5.Id x10_5.X x10_5.Y x10_5.W x10_5.H x10_5.Alpha x10_5.Orient x10_5.Visible x10_5.Buffer hv10_5_1) h) ?_
       refine OpH.wkF (fun _ h => h.pm 3) ?_
       refine OpH.wkF (fun _ h => h.pm 1) ?_
       refine OpH.push (A := (Ty.al tSurface W1_1r0 G1_1r0)) rfl rfl rfl mi_51 rfl (by decide) mq0 e10_8 ?_
       intro f10_8 a10_8 c10_8
       refine ⟨[_, _, _], rfl, ?_⟩
       refine tk 9 rfl (OpV.fieldAddr rfl fo_53_3) ?_
       refine al0 10 rfl ?_
       refine OpH.storeTo (A := [_, _]) [_, _, _, _] rfl rfl rfl ts_51 rfl rfl rfl ?_
       refine ⟨[_, _, _], rfl, ?_⟩
       refine WAE.rebase (H := []) ?_
       refine WAE.done (by kernel_rfl) ?_ _
       refine En.exF (fun w h => St.alClose (hp := hq10_0) (F := [_, _, _, _, _, _, _]) h) ?_
       rintro fz10_0 _
       show En _ _ _ _ _ [Chunk.own (Ty.al tSurface W1_1r0 G1_1r0) f10_8 a10_8 x10_8.length c10_8 x10_8, Chunk.box b10_7 119 [.int .i64 x10_5.Id, .int .i64 x10_5.X, .int .i64 x10_5.Y, .int .i64 x10_5.W, .int .i64 x10_5.H, .int .i64 x10_5.Alpha, .int .i64 x10_5.Orient, .bool x10_5.Visible, .int .i64 x10_5.Buffer.W, .int .i64 x10_5.Buffer.H, .slice a10_5_1 x10_5.Buffer.Data.length c10_5_1], Chunk.box b5_1 53 [.int .i64 0, .int .i64 0, .int .i64 0, .slice a10_8 x10_8.length c10_8], Chunk.box b0_0 53 [.int .i64 a_p0.W, .int .i64 a_p0.H, .int .i64 a_p0.Back, .slice q0_0 a_p0.Surfaces.length k0_0], Chunk.box b0_1 158 [.int .i64 a_p1.Kind, .int .i64 a_p1.Id, .int .i64 a_p1.A, .int .i64 a_p1.B, .int .i64 a_p1.Buffer.W, .int .i64 a_p1.Buffer.H, .slice q1_0 a_p1.Buffer.Data.length k1_0], Chunk.box b0_2 53 [.int .i64 0, .int .i64 0, .int .i64 0, .slice .none 0 0], Chunk.box b1_2 53 [.int .i64 x1_1.W, .int .i64 x1_1.H, .int .i64 x1_1.Back, .slice a1_100 n1_100 c1_100], Chunk.own (Ty.al tSurface W1_1r0 G1_1r0) fz10_0 a1_100 n1_100 c1_100 x1_1.Surfaces, Chunk.vault G1_1r0 W1_1r0]
       refine En.block_norm ?_
       exact En.wk _ _ (sc (sc (sc (sc (sc (sc (sc sn))))))) (fun _ h => (((((((((h).pm 8).pm 1).pm 3).pm 8).pm 8).pm 8).pm 8).pm 8).sub (.cons_cons _ (.cons_cons _ (.cons_cons _ (.cons_cons _ (.cons_cons _ (.cons_cons _ (.cons_cons _ (.cons_cons _ (.cons _ (.slnil))))))))))) (zK2 (x10_8, (fz10_0, a10_8, x10_8.length, c10_8, f10_8)) (Option.some.inj ej2).symm)
      ·
       refine OpH.buildSlice (evps.cons rfl (evps.nil)) (bs_51_1_0 _ _ _ _ _ _ _ _ _ _ _ _ _) ?_
       intro b10_7
       refine ⟨[_, _, _], rfl, ?_⟩
       refine al1 1 rfl ?_
       refine OpH.light (OpV.loadBox rfl pt_51 mq1 rfl) ?_
       refine ⟨[_, _, _], rfl, ?_⟩
       refine al1 8 rfl ?_
       refine OpH.wkF (fun _ h => St.elFree (A := Ty.al tSurface W1_1r0 G1_1r0) (tSurface_mkAl x10_5.Id x10_5.X x10_5.Y x10_5.W x10_5.H x10_5.Alpha x10_5.Orient x10_5.Visible x10_5.Buffer hv10_5_1) h) ?_
       refine OpH.wkF (fun _ h => h.pm 3) ?_
       refine OpH.wkF (fun _ h => h.pm 1) ?_
       refine OpH.push (A := (Ty.al tSurface W1_1r0 G1_1r0)) rfl rfl rfl mi_51 rfl (by decide) mq0 e10_8 ?_
       intro f10_8 a10_8 c10_8
       refine ⟨[_, _, _], rfl, ?_⟩
       refine tk 9 rfl (OpV.fieldAddr rfl fo_53_3) ?_
       refine al0 10 rfl ?_
       refine OpH.storeTo (A := [_, _]) [_, _, _, _] rfl rfl rfl ts_51 rfl rfl rfl ?_
       refine ⟨[_, _, _], rfl, ?_⟩
       refine WAE.rebase (H := []) ?_
       refine WAE.done (by kernel_rfl) ?_ _
       refine En.exF (fun w h => St.alClose (hp := hq10_0) (F := [_, _, _, _, _, _, _]) h) ?_
       rintro fz10_0 _
       show En _ _ _ _ _ [Chunk.own (Ty.al tSurface W1_1r0 G1_1r0) f10_8 a10_8 x10_8.length c10_8 x10_8, Chunk.box b10_7 119 [.int .i64 x10_5.Id, .int .i64 x10_5.X, .int .i64 x10_5.Y, .int .i64 x10_5.W, .int .i64 x10_5.H, .int .i64 x10_5.Alpha, .int .i64 x10_5.Orient, .bool x10_5.Visible, .int .i64 x10_5.Buffer.W, .int .i64 x10_5.Buffer.H, .slice a10_5_1 x10_5.Buffer.Data.length c10_5_1], Chunk.box b5_1 53 [.int .i64 0, .int .i64 0, .int .i64 0, .slice a10_8 x10_8.length c10_8], Chunk.box b0_0 53 [.int .i64 a_p0.W, .int .i64 a_p0.H, .int .i64 a_p0.Back, .slice q0_0 a_p0.Surfaces.length k0_0], Chunk.box b0_1 158 [.int .i64 a_p1.Kind, .int .i64 a_p1.Id, .int .i64 a_p1.A, .int .i64 a_p1.B, .int .i64 a_p1.Buffer.W, .int .i64 a_p1.Buffer.H, .slice q1_0 a_p1.Buffer.Data.length k1_0], Chunk.box b0_2 53 [.int .i64 0, .int .i64 0, .int .i64 0, .slice .none 0 0], Chunk.box b1_2 53 [.int .i64 x1_1.W, .int .i64 x1_1.H, .int .i64 x1_1.Back, .slice a1_100 n1_100 c1_100], Chunk.own (Ty.al tSurface W1_1r0 G1_1r0) fz10_0 a1_100 n1_100 c1_100 x1_1.Surfaces, Chunk.vault G1_1r0 W1_1r0]
       refine En.block_norm ?_
       exact En.wk _ _ (sc (sc (sc (sc (sc (sc (sc sn))))))) (fun _ h => (((((((((h).pm 8).pm 1).pm 3).pm 8).pm 8).pm 8).pm 8).pm 8).sub (.cons_cons _ (.cons_cons _ (.cons_cons _ (.cons_cons _ (.cons_cons _ (.cons_cons _ (.cons_cons _ (.cons_cons _ (.cons _ (.slnil))))))))))) (zK2 (x10_8, (fz10_0, a10_8, x10_8.length, c10_8, f10_8)) (Option.some.inj ej2).symm)
     ·
      intro hc_14
      replace ej2 := ifO_f hc_14 ej2
      refine WC.skip (En.block_norm ?_)
      exact En.wk _ _ (sc (sc (sc (sc (sc (sc (sc sn))))))) (fun _ h => h) (zK2 (x_0, (fx_0, ax_0, nx_0, cx_0, fx1_0)) (Option.some.inj ej2).symm)
   ·
    intro hc_13
    replace zh0 := ifO_f hc_13 zh0
    refine WC.exit (En.then_exit (En.then_exit ?_))
    have hx := exitP ze0 zh0
    exact En.wk _ _ (sc (sc (sc (sc (sc (sc sn)))))) (fun _ h => h) (zK0_0 (x_0, (fx_0, ax_0, nx_0, cx_0, fx1_0)) hx.symm)

theorem w_spec_l01Once {c_p0 : L01CurT} {n_p1 : Int} {r : Bool × L01CurT} {b0 : Nat} {q0_0 : Option Addr} {l0_0 k0_0 : Nat} (h : spec_l01Once c_p0 n_p1 = some r) {w0 w : World} {C : List Chunk} (hs0 : St w0 (Chunk.box b0 137 [.slice q0_0 l0_0 k0_0, .int .i64 c_p0.i, .int .i64 c_p0.h] :: C) w) (r0_0 : ∀ w, St w0 C w → Rd tU8 w q0_0 l0_0 k0_0 c_p0.b) :
    Calls Try.prog 114 #[.pointer (some ⟨b0, 0, .none⟩), .int .i64 n_p1] w (fun en w' => ∃ rv G, en = .returned rv ∧ (rv = .bool r.1 ∧ G = Chunk.box b0 137 [.slice q0_0 l0_0 k0_0, .int .i64 r.2.i, .int .i64 r.2.h] :: C) ∧ St w0 G w') := by
 obtain rfl := (r0_0 _ (St.tl (F := [_]) hs0)).1
 unfold spec_l01Once at h
 refine enterF hs0 (vs := [_, _]) Try.func114 rfl rfl rfl rfl ?_
 refine WC.sr ?_
 refine ag ?_
 refine WL.nil (En.next (WC.seq ?_))
 obtain ⟨⟨x1_2a, x1_2b⟩, e1_2, h⟩ := bnd h
 refine WC.region ?_
 refine mv ?_
 refine mv ?_
 refine WL.heavy rfl rfl rfl (OpH.callX (ec rfl (ec rfl e0)) ca_53 (fun w hs => w_spec_l01Below e1_2 hs (fun w hs => (r0_0 _ (St.tl (F := []) hs)))) ?_)
 rintro _ _ ⟨rfl, rfl⟩
 refine sp (OpV.eql rfl rfl) ?_
 refine ag ?_
 refine WL.nil (En.next (WC.ret ?_))
 refine En.ret1 rfl (Res.tmp rfl) ?_
 obtain rfl := Option.some.inj h
 intro w' hs
 have hs := hs
 exact ⟨_, _, rfl, ⟨rfl, rfl⟩, hs⟩

theorem w_spec_l10Edit {a_p0 : L01CurT} {r : EditT × L01CurT} {b0 : Nat} {q0_0 : Option Addr} {l0_0 k0_0 : Nat} (h : spec_l10Edit a_p0 = some r) {w0 w : World} {C : List Chunk} (hs0 : St w0 (Chunk.box b0 137 [.slice q0_0 l0_0 k0_0, .int .i64 a_p0.i, .int .i64 a_p0.h] :: C) w) (r0_0 : ∀ w, St w0 C w → Rd tU8 w q0_0 l0_0 k0_0 a_p0.b) :
    Calls Try.prog 135 #[.pointer (some ⟨b0, 0, .none⟩)] w (fun en w' => ∃ rv G, en = .returned rv ∧ (∃ (a0_0 : Option Addr) (n0_0 : Nat) (c0_0 : Nat) (f0_0 : List Nat), rv = .agg #[.int .i64 r.1.Kind, .int .i64 r.1.Id, .int .i64 r.1.A, .int .i64 r.1.B, .int .i64 r.1.Buffer.W, .int .i64 r.1.Buffer.H, .slice a0_0 n0_0 c0_0] ∧ G = Chunk.own tInt f0_0 a0_0 n0_0 c0_0 r.1.Buffer.Data :: Chunk.box b0 137 [.slice q0_0 l0_0 k0_0, .int .i64 r.2.i, .int .i64 r.2.h] :: C) ∧ St w0 G w') := by
 obtain rfl := (r0_0 _ (St.tl (F := [_]) hs0)).1
 unfold spec_l10Edit at h
 refine enterF hs0 (vs := [_]) Try.func135 rfl rfl rfl rfl ?_
 refine WC.sr ?_
 refine WL.heavy rfl rfl rfl (OpH.alloc zc_158 ?_)
 intro b0_0
 refine WL.nil (En.next (WC.seq ?_))
 obtain ⟨⟨x1_1a, x1_1b⟩, e1_1, h⟩ := bnd h
 obtain ⟨⟨x1_3a, x1_3b⟩, e1_3, h⟩ := bnd h
 refine WC.region ?_
 refine mv ?_
 refine WL.wkF (fun _ h => h.pm 1) ?_
 refine WL.heavy rfl rfl rfl (OpH.callX (ec rfl (ec rfl e0)) ca_53 (fun w hs => w_spec_l01Below e1_1 hs (fun w hs => (r0_0 _ (St.tl (F := [_]) hs)))) ?_)
 rintro _ _ ⟨rfl, rfl⟩
 refine mv ?_
 refine WL.heavy rfl rfl rfl (OpH.callX (ec rfl (ec rfl e0)) ca_53 (fun w hs => w_spec_l01Below e1_3 hs (fun w hs => (r0_0 _ (St.tl (F := [_]) hs)))) ?_)
 rintro _ _ ⟨rfl, rfl⟩
 refine sp (OpV.addR rfl rfl) ?_
 refine sp (OpV.build (evps.cons rfl (evps.cons rfl (evps.nil))) (bd_158_0_1 _ _)) ?_
 refine WL.heavy rfl rfl rfl (OpH.alloc zc_158 ?_)
 intro b1_6
 refine WL.heavy0 rfl rfl (OpH.storeTo (A := []) [_, _, _, _, _, _, _] rfl rfl rfl ts_158 rfl rfl rfl ?_)
 refine WL.nil (En.next (WC.seq (WC.sr ?_)))
 refine sp (OpV.fieldAddr rfl fo_158_0) ?_
 refine sp (OpV.loadBox rfl pt_3 mq0 rfl) ?_
 refine WL.nil (En.next (WC.block (WC.seq (WC.sr ?_))))
 refine sp (OpV.eql rfl rfl) ?_
 refine ag ?_
 refine WL.nil (En.next ?_)
 refine WC.cond rfl ?_ ?_
 ·
  intro hc_1
  replace h := ifO_t hc_1 h
  refine WC.skip (En.next ?_)
  refine WC.cond rfl ?_ ?_
  ·
   intro hc_2
   replace h := ifO_t hc_2 h
   refine WC.seq ?_
   obtain ⟨⟨x5_1a, x5_1b⟩, e5_1, h⟩ := bnd h
   refine WC.region ?_
   refine mv ?_
   refine WL.wkF (fun _ h => h.pm 1) ?_
   refine WL.heavy rfl rfl rfl (OpH.callX (ec rfl (ec rfl e0)) ca_53 (fun w hs => w_spec_l01Below e5_1 hs (fun w hs => (r0_0 _ (St.tl (F := [_, _]) hs)))) ?_)
   rintro _ _ ⟨rfl, rfl⟩
   refine sp (OpV.subR rfl rfl) ?_
   refine sp (OpV.fieldAddr rfl fo_158_2) ?_
   refine WL.heavy0 rfl rfl (OpH.storeTo (A := [_]) [_, _, _, _, _, _, _] rfl rfl rfl ts_3 rfl rfl rfl ?_)
   refine WL.nil (En.next (WC.seq ?_))
   obtain ⟨⟨x6_1a, x6_1b⟩, e6_1, h⟩ := bnd h
   refine WC.region ?_
   refine mv ?_
   refine WL.heavy rfl rfl rfl (OpH.callX (ec rfl (ec rfl e0)) ca_53 (fun w hs => w_spec_l01Below e6_1 hs (fun w hs => (r0_0 _ (St.tl (F := [_, _]) hs)))) ?_)
   rintro _ _ ⟨rfl, rfl⟩
   refine sp (OpV.subR rfl rfl) ?_
   refine sp (OpV.fieldAddr rfl fo_158_3) ?_
   refine WL.heavy0 rfl rfl (OpH.storeTo (A := [_]) [_, _, _, _, _, _, _] rfl rfl rfl ts_3 rfl rfl rfl ?_)
   refine WL.nil (En.next ?_)
   obtain ⟨⟨x7_1a, x7_1b⟩, e7_1, h⟩ := bnd h
   refine WC.region ?_
   refine mv ?_
   refine WL.heavy rfl rfl rfl (OpH.callX (ec rfl (ec rfl e0)) ca_115 (fun w hs => w_spec_l05Image e7_1 hs (fun w hs => (r0_0 _ (St.tl (F := [_, _]) hs)))) ?_)
   rintro _ _ ⟨a7_100, n7_100, c7_100, f7_100, rfl, rfl⟩
   refine sp (OpV.fieldAddr rfl fo_158_4) ?_
   refine WL.heavy0 rfl rfl (OpH.storeTo (A := [_, _]) [_, _, _, _, _, _, _] rfl rfl rfl ts_33 rfl rfl rfl ?_)
   refine WL.nil (En.block_norm (En.next (WC.sr ?_)))
   refine sp (OpV.loadAll rfl mq2 ag_158) ?_
   refine WL.heavy0 rfl rfl (OpH.storeTo (A := [_, _, _]) [_, _, _, _, _, _, _] rfl rfl rfl ts_158 rfl rfl rfl ?_)
   refine WL.nil (En.next (WC.ret ?_))
   refine En.ret1 rfl (Res.cell rfl mq3 ag_158) ?_
   obtain rfl := Option.some.inj h
   intro w' hs
   have hs := (hs).sub (.cons_cons _ (.cons_cons _ (.cons _ (.cons _ (List.Sublist.refl _)))))
   exact ⟨_, _, rfl, ⟨a7_100, n7_100, c7_100, f7_100, rfl, rfl⟩, hs⟩
  ·
   intro hc_2
   replace h := ifO_f hc_2 h
   refine WC.sr ?_
   refine sp (OpV.eql rfl rfl) ?_
   refine ag ?_
   refine WL.nil (En.next ?_)
   refine WC.cond rfl ?_ ?_
   ·
    intro hc_3
    replace h := ifO_t hc_3 h
    refine WC.seq ?_
    obtain ⟨⟨x9_1a, x9_1b⟩, e9_1, h⟩ := bnd h
    refine WC.region ?_
    refine mv ?_
    refine WL.wkF (fun _ h => h.pm 1) ?_
    refine WL.heavy rfl rfl rfl (OpH.callX (ec rfl (ec rfl e0)) ca_53 (fun w hs => w_spec_l01Below e9_1 hs (fun w hs => (r0_0 _ (St.tl (F := [_, _]) hs)))) ?_)
    rintro _ _ ⟨rfl, rfl⟩
    refine sp (OpV.subR rfl rfl) ?_
    refine sp (OpV.fieldAddr rfl fo_158_2) ?_
    refine WL.heavy0 rfl rfl (OpH.storeTo (A := [_]) [_, _, _, _, _, _, _] rfl rfl rfl ts_3 rfl rfl rfl ?_)
    refine WL.nil (En.next ?_)
    obtain ⟨⟨x10_1a, x10_1b⟩, e10_1, h⟩ := bnd h
    refine WC.region ?_
    refine mv ?_
    refine WL.heavy rfl rfl rfl (OpH.callX (ec rfl (ec rfl e0)) ca_53 (fun w hs => w_spec_l01Below e10_1 hs (fun w hs => (r0_0 _ (St.tl (F := [_, _]) hs)))) ?_)
    rintro _ _ ⟨rfl, rfl⟩
    refine sp (OpV.subR rfl rfl) ?_
    refine sp (OpV.fieldAddr rfl fo_158_3) ?_
    refine WL.heavy0 rfl rfl (OpH.storeTo (A := [_]) [_, _, _, _, _, _, _] rfl rfl rfl ts_3 rfl rfl rfl ?_)
    refine WL.nil (En.block_norm (En.next (WC.sr ?_)))
    refine sp (OpV.loadAll rfl mq1 ag_158) ?_
    refine WL.heavy0 rfl rfl (OpH.storeTo (A := [_, _]) [_, _, _, _, _, _, _] rfl rfl rfl ts_158 rfl rfl rfl ?_)
    refine WL.nil (En.next (WC.ret ?_))
    refine En.ret1 rfl (Res.cell rfl mq2 ag_158) ?_
    obtain rfl := Option.some.inj h
    intro w' hs
    have hs := ((hs).ownNil (A := tInt)).sub (.cons_cons _ (.cons_cons _ (.cons _ (.cons _ (List.Sublist.refl _)))))
    exact ⟨_, _, rfl, ⟨.none, 0, 0, [], rfl, rfl⟩, hs⟩
   ·
    intro hc_3
    replace h := ifO_f hc_3 h
    refine WC.sr ?_
    refine sp (OpV.eql rfl rfl) ?_
    refine ag ?_
    refine WL.nil (En.next ?_)
    refine WC.cond rfl ?_ ?_
    ·
     intro hc_4
     replace h := ifO_t hc_4 h
     obtain ⟨⟨x12_2a, x12_2b⟩, e12_2, h⟩ := bnd h
     refine WC.region ?_
     refine mv ?_
     refine WL.heavy rfl rfl rfl (OpH.litF (A := tInt) (xs := [255, 128, 0]) tInt_flat (evps.cons rfl (evps.cons rfl (evps.cons rfl (evps.nil)))) (bs_28_3_0_1_2 _ _ _) rfl rfl (Nat.le_of_ble_eq_true rfl) ?_)
     intro b12_1
     refine WL.wkF (fun _ h => h.pm 2) ?_
     refine WL.heavy rfl rfl rfl (OpH.callX (ec rfl (ec rfl e0)) ca_116 (fun w hs => w_spec_l01PickInt e12_2 hs (fun w hs => (r0_0 _ (St.tl (F := [_, _, _]) hs))) (fun w hs => (Ow.rd (hs.mem mq0)))) ?_)
     rintro _ _ ⟨rfl, rfl⟩
     refine sp (OpV.fieldAddr rfl fo_158_2) ?_
     refine WL.heavy0 rfl rfl (OpH.storeTo (A := [_, _]) [_, _, _, _, _, _, _] rfl rfl rfl ts_3 rfl rfl rfl ?_)
     refine WL.nil (En.block_norm (En.next (WC.sr ?_)))
     refine sp (OpV.loadAll rfl mq2 ag_158) ?_
     refine WL.heavy0 rfl rfl (OpH.storeTo (A := [_, _, _]) [_, _, _, _, _, _, _] rfl rfl rfl ts_158 rfl rfl rfl ?_)
     refine WL.nil (En.next (WC.ret ?_))
     refine En.ret1 rfl (Res.cell rfl mq3 ag_158) ?_
     obtain rfl := Option.some.inj h
     intro w' hs
     have hs := ((hs).ownNil (A := tInt)).sub (.cons_cons _ (.cons_cons _ (.cons _ (.cons _ (.cons _ (List.Sublist.refl _))))))
     exact ⟨_, _, rfl, ⟨.none, 0, 0, [], rfl, rfl⟩, hs⟩
    ·
     intro hc_4
     replace h := ifO_f hc_4 h
     refine WC.sr ?_
     refine sp (OpV.eql rfl rfl) ?_
     refine ag ?_
     refine WL.nil (En.next ?_)
     refine WC.cond rfl ?_ ?_
     ·
      intro hc_5
      replace h := ifO_t hc_5 h
      obtain ⟨⟨x14_1a, x14_1b⟩, e14_1, h⟩ := bnd h
      refine WC.region ?_
      refine mv ?_
      refine WL.wkF (fun _ h => h.pm 1) ?_
      refine WL.heavy rfl rfl rfl (OpH.callX (ec rfl (ec rfl e0)) ca_53 (fun w hs => w_spec_l01Below e14_1 hs (fun w hs => (r0_0 _ (St.tl (F := [_, _]) hs)))) ?_)
      rintro _ _ ⟨rfl, rfl⟩
      refine sp (OpV.fieldAddr rfl fo_158_2) ?_
      refine WL.heavy0 rfl rfl (OpH.storeTo (A := [_]) [_, _, _, _, _, _, _] rfl rfl rfl ts_3 rfl rfl rfl ?_)
      refine WL.nil (En.block_norm (En.next (WC.sr ?_)))
      refine sp (OpV.loadAll rfl mq1 ag_158) ?_
      refine WL.heavy0 rfl rfl (OpH.storeTo (A := [_, _]) [_, _, _, _, _, _, _] rfl rfl rfl ts_158 rfl rfl rfl ?_)
      refine WL.nil (En.next (WC.ret ?_))
      refine En.ret1 rfl (Res.cell rfl mq2 ag_158) ?_
      obtain rfl := Option.some.inj h
      intro w' hs
      have hs := ((hs).ownNil (A := tInt)).sub (.cons_cons _ (.cons_cons _ (.cons _ (.cons _ (List.Sublist.refl _)))))
      exact ⟨_, _, rfl, ⟨.none, 0, 0, [], rfl, rfl⟩, hs⟩
     ·
      intro hc_5
      replace h := ifO_f hc_5 h
      refine WC.sr ?_
      refine sp (OpV.eql rfl rfl) ?_
      refine ag ?_
      refine WL.nil (En.next ?_)
      refine WC.cond rfl ?_ ?_
      ·
       intro hc_6
       replace h := ifO_t hc_6 h
       refine WC.seq ?_
       obtain ⟨⟨x16_1a, x16_1b⟩, e16_1, h⟩ := bnd h
       refine WC.region ?_
       refine mv ?_
       refine WL.wkF (fun _ h => h.pm 1) ?_
       refine WL.heavy rfl rfl rfl (OpH.callX (ec rfl (ec rfl e0)) ca_114 (fun w hs => w_spec_l01Once e16_1 hs (fun w hs => (r0_0 _ (St.tl (F := [_, _]) hs)))) ?_)
       rintro _ _ ⟨rfl, rfl⟩
       refine WL.nil (En.next ?_)
       refine WC.cond rfl ?_ ?_
       ·
        intro hc_7
        replace h := ifO_t hc_7 h
        refine WC.seq ?_
        obtain ⟨⟨x17_1a, x17_1b⟩, e17_1, h⟩ := bnd h
        refine WC.region ?_
        refine mv ?_
        refine WL.heavy rfl rfl rfl (OpH.callX (ec rfl (ec rfl e0)) ca_53 (fun w hs => w_spec_l01Below e17_1 hs (fun w hs => (r0_0 _ (St.tl (F := [_, _]) hs)))) ?_)
        rintro _ _ ⟨rfl, rfl⟩
        refine sp (OpV.addR rfl rfl) ?_
        refine sp (OpV.fieldAddr rfl fo_158_2) ?_
        refine WL.heavy0 rfl rfl (OpH.storeTo (A := [_]) [_, _, _, _, _, _, _] rfl rfl rfl ts_3 rfl rfl rfl ?_)
        refine WL.nil (En.next ?_)
        obtain ⟨⟨x18_1a, x18_1b⟩, e18_1, h⟩ := bnd h
        refine WC.region ?_
        refine mv ?_
        refine WL.heavy rfl rfl rfl (OpH.callX (ec rfl (ec rfl e0)) ca_53 (fun w hs => w_spec_l01Below e18_1 hs (fun w hs => (r0_0 _ (St.tl (F := [_, _]) hs)))) ?_)
        rintro _ _ ⟨rfl, rfl⟩
        refine sp (OpV.addR rfl rfl) ?_
        refine sp (OpV.fieldAddr rfl fo_158_3) ?_
        refine WL.heavy0 rfl rfl (OpH.storeTo (A := [_]) [_, _, _, _, _, _, _] rfl rfl rfl ts_3 rfl rfl rfl ?_)
        refine WL.nil (En.block_norm (En.next (WC.sr ?_)))
        refine sp (OpV.loadAll rfl mq1 ag_158) ?_
        refine WL.heavy0 rfl rfl (OpH.storeTo (A := [_, _]) [_, _, _, _, _, _, _] rfl rfl rfl ts_158 rfl rfl rfl ?_)
        refine WL.nil (En.next (WC.ret ?_))
        refine En.ret1 rfl (Res.cell rfl mq2 ag_158) ?_
        obtain rfl := Option.some.inj h
        intro w' hs
        have hs := ((hs).ownNil (A := tInt)).sub (.cons_cons _ (.cons_cons _ (.cons _ (.cons _ (List.Sublist.refl _)))))
        exact ⟨_, _, rfl, ⟨.none, 0, 0, [], rfl, rfl⟩, hs⟩
       ·
        intro hc_7
        replace h := ifO_f hc_7 h
        refine WC.skip (En.block_norm (En.next (WC.sr ?_)))
        refine sp (OpV.loadAll rfl mq1 ag_158) ?_
        refine WL.heavy0 rfl rfl (OpH.storeTo (A := [_, _]) [_, _, _, _, _, _, _] rfl rfl rfl ts_158 rfl rfl rfl ?_)
        refine WL.nil (En.next (WC.ret ?_))
        refine En.ret1 rfl (Res.cell rfl mq2 ag_158) ?_
        obtain rfl := Option.some.inj h
        intro w' hs
        have hs := ((hs).ownNil (A := tInt)).sub (.cons_cons _ (.cons_cons _ (.cons _ (.cons _ (List.Sublist.refl _)))))
        exact ⟨_, _, rfl, ⟨.none, 0, 0, [], rfl, rfl⟩, hs⟩
      ·
       intro hc_6
       replace h := ifO_f hc_6 h
       refine WC.sr ?_
       refine sp (OpV.eql rfl rfl) ?_
       refine ag ?_
       refine WL.nil (En.next ?_)
       refine WC.cond rfl ?_ ?_
       ·
        intro hc_8
        replace h := ifO_t hc_8 h
        obtain ⟨⟨x20_1a, x20_1b⟩, e20_1, h⟩ := bnd h
        refine WC.region ?_
        refine mv ?_
        refine WL.wkF (fun _ h => h.pm 1) ?_
        refine WL.heavy rfl rfl rfl (OpH.callX (ec rfl (ec rfl e0)) ca_53 (fun w hs => w_spec_l01Below e20_1 hs (fun w hs => (r0_0 _ (St.tl (F := [_, _]) hs)))) ?_)
        rintro _ _ ⟨rfl, rfl⟩
        refine sp (OpV.fieldAddr rfl fo_158_2) ?_
        refine WL.heavy0 rfl rfl (OpH.storeTo (A := [_]) [_, _, _, _, _, _, _] rfl rfl rfl ts_3 rfl rfl rfl ?_)
        refine WL.nil (En.block_norm (En.next (WC.sr ?_)))
        refine sp (OpV.loadAll rfl mq1 ag_158) ?_
        refine WL.heavy0 rfl rfl (OpH.storeTo (A := [_, _]) [_, _, _, _, _, _, _] rfl rfl rfl ts_158 rfl rfl rfl ?_)
        refine WL.nil (En.next (WC.ret ?_))
        refine En.ret1 rfl (Res.cell rfl mq2 ag_158) ?_
        obtain rfl := Option.some.inj h
        intro w' hs
        have hs := ((hs).ownNil (A := tInt)).sub (.cons_cons _ (.cons_cons _ (.cons _ (.cons _ (List.Sublist.refl _)))))
        exact ⟨_, _, rfl, ⟨.none, 0, 0, [], rfl, rfl⟩, hs⟩
       ·
        intro hc_8
        replace h := ifO_f hc_8 h
        refine WC.sr ?_
        refine sp (OpV.eql rfl rfl) ?_
        refine ag ?_
        refine WL.nil (En.next ?_)
        refine WC.cond rfl ?_ ?_
        ·
         intro hc_9
         replace h := ifO_t hc_9 h
         obtain ⟨⟨x22_1a, x22_1b⟩, e22_1, h⟩ := bnd h
         refine WC.region ?_
         refine mv ?_
         refine WL.wkF (fun _ h => h.pm 1) ?_
         refine WL.heavy rfl rfl rfl (OpH.callX (ec rfl e0) ca_111 (fun w hs => w_spec_l04Draw e22_1 hs (fun w hs => (r0_0 _ (St.tl (F := [_, _]) hs)))) ?_)
         rintro _ _ ⟨rfl, rfl⟩
         refine sp (OpV.orR rfl rfl) ?_
         refine sp (OpV.fieldAddr rfl fo_158_2) ?_
         refine WL.heavy0 rfl rfl (OpH.storeTo (A := [_]) [_, _, _, _, _, _, _] rfl rfl rfl ts_3 rfl rfl rfl ?_)
         refine WL.nil (En.block_norm (En.next (WC.sr ?_)))
         refine sp (OpV.loadAll rfl mq1 ag_158) ?_
         refine WL.heavy0 rfl rfl (OpH.storeTo (A := [_, _]) [_, _, _, _, _, _, _] rfl rfl rfl ts_158 rfl rfl rfl ?_)
         refine WL.nil (En.next (WC.ret ?_))
         refine En.ret1 rfl (Res.cell rfl mq2 ag_158) ?_
         obtain rfl := Option.some.inj h
         intro w' hs
         have hs := ((hs).ownNil (A := tInt)).sub (.cons_cons _ (.cons_cons _ (.cons _ (.cons _ (List.Sublist.refl _)))))
         exact ⟨_, _, rfl, ⟨.none, 0, 0, [], rfl, rfl⟩, hs⟩
        ·
         intro hc_9
         replace h := ifO_f hc_9 h
         refine WC.skip (En.block_norm (En.next (WC.sr ?_)))
         refine sp (OpV.loadAll rfl mq0 ag_158) ?_
         refine WL.heavy0 rfl rfl (OpH.storeTo (A := [_, _]) [_, _, _, _, _, _, _] rfl rfl rfl ts_158 rfl rfl rfl ?_)
         refine WL.nil (En.next (WC.ret ?_))
         refine En.ret1 rfl (Res.cell rfl mq2 ag_158) ?_
         obtain rfl := Option.some.inj h
         intro w' hs
         have hs := ((((hs).ownNil (A := tInt)).pm 2).pm 1).sub (.cons_cons _ (.cons_cons _ (.cons _ (.cons _ (List.Sublist.refl _)))))
         exact ⟨_, _, rfl, ⟨.none, 0, 0, [], rfl, rfl⟩, hs⟩
 ·
  intro hc_1
  replace h := ifO_f hc_1 h
  refine WC.region ?_
  refine sp (OpV.eql rfl rfl) ?_
  refine ag ?_
  refine WL.nil (En.next ?_)
  refine WC.cond rfl ?_ ?_
  ·
   intro hc_10
   replace h := ifO_t hc_10 h
   refine WC.seq ?_
   obtain ⟨⟨x5_1a, x5_1b⟩, e5_1, h⟩ := bnd h
   refine WC.region ?_
   refine mv ?_
   refine WL.wkF (fun _ h => h.pm 1) ?_
   refine WL.heavy rfl rfl rfl (OpH.callX (ec rfl (ec rfl e0)) ca_53 (fun w hs => w_spec_l01Below e5_1 hs (fun w hs => (r0_0 _ (St.tl (F := [_, _]) hs)))) ?_)
   rintro _ _ ⟨rfl, rfl⟩
   refine sp (OpV.subR rfl rfl) ?_
   refine sp (OpV.fieldAddr rfl fo_158_2) ?_
   refine WL.heavy0 rfl rfl (OpH.storeTo (A := [_]) [_, _, _, _, _, _, _] rfl rfl rfl ts_3 rfl rfl rfl ?_)
   refine WL.nil (En.next (WC.seq ?_))
   obtain ⟨⟨x6_1a, x6_1b⟩, e6_1, h⟩ := bnd h
   refine WC.region ?_
   refine mv ?_
   refine WL.heavy rfl rfl rfl (OpH.callX (ec rfl (ec rfl e0)) ca_53 (fun w hs => w_spec_l01Below e6_1 hs (fun w hs => (r0_0 _ (St.tl (F := [_, _]) hs)))) ?_)
   rintro _ _ ⟨rfl, rfl⟩
   refine sp (OpV.subR rfl rfl) ?_
   refine sp (OpV.fieldAddr rfl fo_158_3) ?_
   refine WL.heavy0 rfl rfl (OpH.storeTo (A := [_]) [_, _, _, _, _, _, _] rfl rfl rfl ts_3 rfl rfl rfl ?_)
   refine WL.nil (En.next ?_)
   obtain ⟨⟨x7_1a, x7_1b⟩, e7_1, h⟩ := bnd h
   refine WC.region ?_
   refine mv ?_
   refine WL.heavy rfl rfl rfl (OpH.callX (ec rfl (ec rfl e0)) ca_115 (fun w hs => w_spec_l05Image e7_1 hs (fun w hs => (r0_0 _ (St.tl (F := [_, _]) hs)))) ?_)
   rintro _ _ ⟨a7_100, n7_100, c7_100, f7_100, rfl, rfl⟩
   refine sp (OpV.fieldAddr rfl fo_158_4) ?_
   refine WL.heavy0 rfl rfl (OpH.storeTo (A := [_, _]) [_, _, _, _, _, _, _] rfl rfl rfl ts_33 rfl rfl rfl ?_)
   refine WL.nil (En.block_norm (En.next (WC.sr ?_)))
   refine sp (OpV.loadAll rfl mq2 ag_158) ?_
   refine WL.heavy0 rfl rfl (OpH.storeTo (A := [_, _, _]) [_, _, _, _, _, _, _] rfl rfl rfl ts_158 rfl rfl rfl ?_)
   refine WL.nil (En.next (WC.ret ?_))
   refine En.ret1 rfl (Res.cell rfl mq3 ag_158) ?_
   obtain rfl := Option.some.inj h
   intro w' hs
   have hs := (hs).sub (.cons_cons _ (.cons_cons _ (.cons _ (.cons _ (List.Sublist.refl _)))))
   exact ⟨_, _, rfl, ⟨a7_100, n7_100, c7_100, f7_100, rfl, rfl⟩, hs⟩
  ·
   intro hc_10
   replace h := ifO_f hc_10 h
   refine WC.sr ?_
   refine sp (OpV.eql rfl rfl) ?_
   refine ag ?_
   refine WL.nil (En.next ?_)
   refine WC.cond rfl ?_ ?_
   ·
    intro hc_11
    replace h := ifO_t hc_11 h
    refine WC.seq ?_
    obtain ⟨⟨x9_1a, x9_1b⟩, e9_1, h⟩ := bnd h
    refine WC.region ?_
    refine mv ?_
    refine WL.wkF (fun _ h => h.pm 1) ?_
    refine WL.heavy rfl rfl rfl (OpH.callX (ec rfl (ec rfl e0)) ca_53 (fun w hs => w_spec_l01Below e9_1 hs (fun w hs => (r0_0 _ (St.tl (F := [_, _]) hs)))) ?_)
    rintro _ _ ⟨rfl, rfl⟩
    refine sp (OpV.subR rfl rfl) ?_
    refine sp (OpV.fieldAddr rfl fo_158_2) ?_
    refine WL.heavy0 rfl rfl (OpH.storeTo (A := [_]) [_, _, _, _, _, _, _] rfl rfl rfl ts_3 rfl rfl rfl ?_)
    refine WL.nil (En.next ?_)
    obtain ⟨⟨x10_1a, x10_1b⟩, e10_1, h⟩ := bnd h
    refine WC.region ?_
    refine mv ?_
    refine WL.heavy rfl rfl rfl (OpH.callX (ec rfl (ec rfl e0)) ca_53 (fun w hs => w_spec_l01Below e10_1 hs (fun w hs => (r0_0 _ (St.tl (F := [_, _]) hs)))) ?_)
    rintro _ _ ⟨rfl, rfl⟩
    refine sp (OpV.subR rfl rfl) ?_
    refine sp (OpV.fieldAddr rfl fo_158_3) ?_
    refine WL.heavy0 rfl rfl (OpH.storeTo (A := [_]) [_, _, _, _, _, _, _] rfl rfl rfl ts_3 rfl rfl rfl ?_)
    refine WL.nil (En.block_norm (En.next (WC.sr ?_)))
    refine sp (OpV.loadAll rfl mq1 ag_158) ?_
    refine WL.heavy0 rfl rfl (OpH.storeTo (A := [_, _]) [_, _, _, _, _, _, _] rfl rfl rfl ts_158 rfl rfl rfl ?_)
    refine WL.nil (En.next (WC.ret ?_))
    refine En.ret1 rfl (Res.cell rfl mq2 ag_158) ?_
    obtain rfl := Option.some.inj h
    intro w' hs
    have hs := ((hs).ownNil (A := tInt)).sub (.cons_cons _ (.cons_cons _ (.cons _ (.cons _ (List.Sublist.refl _)))))
    exact ⟨_, _, rfl, ⟨.none, 0, 0, [], rfl, rfl⟩, hs⟩
   ·
    intro hc_11
    replace h := ifO_f hc_11 h
    refine WC.sr ?_
    refine sp (OpV.eql rfl rfl) ?_
    refine ag ?_
    refine WL.nil (En.next ?_)
    refine WC.cond rfl ?_ ?_
    ·
     intro hc_12
     replace h := ifO_t hc_12 h
     obtain ⟨⟨x12_2a, x12_2b⟩, e12_2, h⟩ := bnd h
     refine WC.region ?_
     refine mv ?_
     refine WL.heavy rfl rfl rfl (OpH.litF (A := tInt) (xs := [255, 128, 0]) tInt_flat (evps.cons rfl (evps.cons rfl (evps.cons rfl (evps.nil)))) (bs_28_3_0_1_2 _ _ _) rfl rfl (Nat.le_of_ble_eq_true rfl) ?_)
     intro b12_1
     refine WL.wkF (fun _ h => h.pm 2) ?_
     refine WL.heavy rfl rfl rfl (OpH.callX (ec rfl (ec rfl e0)) ca_116 (fun w hs => w_spec_l01PickInt e12_2 hs (fun w hs => (r0_0 _ (St.tl (F := [_, _, _]) hs))) (fun w hs => (Ow.rd (hs.mem mq0)))) ?_)
     rintro _ _ ⟨rfl, rfl⟩
     refine sp (OpV.fieldAddr rfl fo_158_2) ?_
     refine WL.heavy0 rfl rfl (OpH.storeTo (A := [_, _]) [_, _, _, _, _, _, _] rfl rfl rfl ts_3 rfl rfl rfl ?_)
     refine WL.nil (En.block_norm (En.next (WC.sr ?_)))
     refine sp (OpV.loadAll rfl mq2 ag_158) ?_
     refine WL.heavy0 rfl rfl (OpH.storeTo (A := [_, _, _]) [_, _, _, _, _, _, _] rfl rfl rfl ts_158 rfl rfl rfl ?_)
     refine WL.nil (En.next (WC.ret ?_))
     refine En.ret1 rfl (Res.cell rfl mq3 ag_158) ?_
     obtain rfl := Option.some.inj h
     intro w' hs
     have hs := ((hs).ownNil (A := tInt)).sub (.cons_cons _ (.cons_cons _ (.cons _ (.cons _ (.cons _ (List.Sublist.refl _))))))
     exact ⟨_, _, rfl, ⟨.none, 0, 0, [], rfl, rfl⟩, hs⟩
    ·
     intro hc_12
     replace h := ifO_f hc_12 h
     refine WC.sr ?_
     refine sp (OpV.eql rfl rfl) ?_
     refine ag ?_
     refine WL.nil (En.next ?_)
     refine WC.cond rfl ?_ ?_
     ·
      intro hc_13
      replace h := ifO_t hc_13 h
      obtain ⟨⟨x14_1a, x14_1b⟩, e14_1, h⟩ := bnd h
      refine WC.region ?_
      refine mv ?_
      refine WL.wkF (fun _ h => h.pm 1) ?_
      refine WL.heavy rfl rfl rfl (OpH.callX (ec rfl (ec rfl e0)) ca_53 (fun w hs => w_spec_l01Below e14_1 hs (fun w hs => (r0_0 _ (St.tl (F := [_, _]) hs)))) ?_)
      rintro _ _ ⟨rfl, rfl⟩
      refine sp (OpV.fieldAddr rfl fo_158_2) ?_
      refine WL.heavy0 rfl rfl (OpH.storeTo (A := [_]) [_, _, _, _, _, _, _] rfl rfl rfl ts_3 rfl rfl rfl ?_)
      refine WL.nil (En.block_norm (En.next (WC.sr ?_)))
      refine sp (OpV.loadAll rfl mq1 ag_158) ?_
      refine WL.heavy0 rfl rfl (OpH.storeTo (A := [_, _]) [_, _, _, _, _, _, _] rfl rfl rfl ts_158 rfl rfl rfl ?_)
      refine WL.nil (En.next (WC.ret ?_))
      refine En.ret1 rfl (Res.cell rfl mq2 ag_158) ?_
      obtain rfl := Option.some.inj h
      intro w' hs
      have hs := ((hs).ownNil (A := tInt)).sub (.cons_cons _ (.cons_cons _ (.cons _ (.cons _ (List.Sublist.refl _)))))
      exact ⟨_, _, rfl, ⟨.none, 0, 0, [], rfl, rfl⟩, hs⟩
     ·
      intro hc_13
      replace h := ifO_f hc_13 h
      refine WC.sr ?_
      refine sp (OpV.eql rfl rfl) ?_
      refine ag ?_
      refine WL.nil (En.next ?_)
      refine WC.cond rfl ?_ ?_
      ·
       intro hc_14
       replace h := ifO_t hc_14 h
       refine WC.seq ?_
       obtain ⟨⟨x16_1a, x16_1b⟩, e16_1, h⟩ := bnd h
       refine WC.region ?_
       refine mv ?_
       refine WL.wkF (fun _ h => h.pm 1) ?_
       refine WL.heavy rfl rfl rfl (OpH.callX (ec rfl (ec rfl e0)) ca_114 (fun w hs => w_spec_l01Once e16_1 hs (fun w hs => (r0_0 _ (St.tl (F := [_, _]) hs)))) ?_)
       rintro _ _ ⟨rfl, rfl⟩
       refine WL.nil (En.next ?_)
       refine WC.cond rfl ?_ ?_
       ·
        intro hc_15
        replace h := ifO_t hc_15 h
        refine WC.seq ?_
        obtain ⟨⟨x17_1a, x17_1b⟩, e17_1, h⟩ := bnd h
        refine WC.region ?_
        refine mv ?_
        refine WL.heavy rfl rfl rfl (OpH.callX (ec rfl (ec rfl e0)) ca_53 (fun w hs => w_spec_l01Below e17_1 hs (fun w hs => (r0_0 _ (St.tl (F := [_, _]) hs)))) ?_)
        rintro _ _ ⟨rfl, rfl⟩
        refine sp (OpV.addR rfl rfl) ?_
        refine sp (OpV.fieldAddr rfl fo_158_2) ?_
        refine WL.heavy0 rfl rfl (OpH.storeTo (A := [_]) [_, _, _, _, _, _, _] rfl rfl rfl ts_3 rfl rfl rfl ?_)
        refine WL.nil (En.next ?_)
        obtain ⟨⟨x18_1a, x18_1b⟩, e18_1, h⟩ := bnd h
        refine WC.region ?_
        refine mv ?_
        refine WL.heavy rfl rfl rfl (OpH.callX (ec rfl (ec rfl e0)) ca_53 (fun w hs => w_spec_l01Below e18_1 hs (fun w hs => (r0_0 _ (St.tl (F := [_, _]) hs)))) ?_)
        rintro _ _ ⟨rfl, rfl⟩
        refine sp (OpV.addR rfl rfl) ?_
        refine sp (OpV.fieldAddr rfl fo_158_3) ?_
        refine WL.heavy0 rfl rfl (OpH.storeTo (A := [_]) [_, _, _, _, _, _, _] rfl rfl rfl ts_3 rfl rfl rfl ?_)
        refine WL.nil (En.block_norm (En.next (WC.sr ?_)))
        refine sp (OpV.loadAll rfl mq1 ag_158) ?_
        refine WL.heavy0 rfl rfl (OpH.storeTo (A := [_, _]) [_, _, _, _, _, _, _] rfl rfl rfl ts_158 rfl rfl rfl ?_)
        refine WL.nil (En.next (WC.ret ?_))
        refine En.ret1 rfl (Res.cell rfl mq2 ag_158) ?_
        obtain rfl := Option.some.inj h
        intro w' hs
        have hs := ((hs).ownNil (A := tInt)).sub (.cons_cons _ (.cons_cons _ (.cons _ (.cons _ (List.Sublist.refl _)))))
        exact ⟨_, _, rfl, ⟨.none, 0, 0, [], rfl, rfl⟩, hs⟩
       ·
        intro hc_15
        replace h := ifO_f hc_15 h
        refine WC.skip (En.block_norm (En.next (WC.sr ?_)))
        refine sp (OpV.loadAll rfl mq1 ag_158) ?_
        refine WL.heavy0 rfl rfl (OpH.storeTo (A := [_, _]) [_, _, _, _, _, _, _] rfl rfl rfl ts_158 rfl rfl rfl ?_)
        refine WL.nil (En.next (WC.ret ?_))
        refine En.ret1 rfl (Res.cell rfl mq2 ag_158) ?_
        obtain rfl := Option.some.inj h
        intro w' hs
        have hs := ((hs).ownNil (A := tInt)).sub (.cons_cons _ (.cons_cons _ (.cons _ (.cons _ (List.Sublist.refl _)))))
        exact ⟨_, _, rfl, ⟨.none, 0, 0, [], rfl, rfl⟩, hs⟩
      ·
       intro hc_14
       replace h := ifO_f hc_14 h
       refine WC.sr ?_
       refine sp (OpV.eql rfl rfl) ?_
       refine ag ?_
       refine WL.nil (En.next ?_)
       refine WC.cond rfl ?_ ?_
       ·
        intro hc_16
        replace h := ifO_t hc_16 h
        obtain ⟨⟨x20_1a, x20_1b⟩, e20_1, h⟩ := bnd h
        refine WC.region ?_
        refine mv ?_
        refine WL.wkF (fun _ h => h.pm 1) ?_
        refine WL.heavy rfl rfl rfl (OpH.callX (ec rfl (ec rfl e0)) ca_53 (fun w hs => w_spec_l01Below e20_1 hs (fun w hs => (r0_0 _ (St.tl (F := [_, _]) hs)))) ?_)
        rintro _ _ ⟨rfl, rfl⟩
        refine sp (OpV.fieldAddr rfl fo_158_2) ?_
        refine WL.heavy0 rfl rfl (OpH.storeTo (A := [_]) [_, _, _, _, _, _, _] rfl rfl rfl ts_3 rfl rfl rfl ?_)
        refine WL.nil (En.block_norm (En.next (WC.sr ?_)))
        refine sp (OpV.loadAll rfl mq1 ag_158) ?_
        refine WL.heavy0 rfl rfl (OpH.storeTo (A := [_, _]) [_, _, _, _, _, _, _] rfl rfl rfl ts_158 rfl rfl rfl ?_)
        refine WL.nil (En.next (WC.ret ?_))
        refine En.ret1 rfl (Res.cell rfl mq2 ag_158) ?_
        obtain rfl := Option.some.inj h
        intro w' hs
        have hs := ((hs).ownNil (A := tInt)).sub (.cons_cons _ (.cons_cons _ (.cons _ (.cons _ (List.Sublist.refl _)))))
        exact ⟨_, _, rfl, ⟨.none, 0, 0, [], rfl, rfl⟩, hs⟩
       ·
        intro hc_16
        replace h := ifO_f hc_16 h
        refine WC.sr ?_
        refine sp (OpV.eql rfl rfl) ?_
        refine ag ?_
        refine WL.nil (En.next ?_)
        refine WC.cond rfl ?_ ?_
        ·
         intro hc_17
         replace h := ifO_t hc_17 h
         obtain ⟨⟨x22_1a, x22_1b⟩, e22_1, h⟩ := bnd h
         refine WC.region ?_
         refine mv ?_
         refine WL.wkF (fun _ h => h.pm 1) ?_
         refine WL.heavy rfl rfl rfl (OpH.callX (ec rfl e0) ca_111 (fun w hs => w_spec_l04Draw e22_1 hs (fun w hs => (r0_0 _ (St.tl (F := [_, _]) hs)))) ?_)
         rintro _ _ ⟨rfl, rfl⟩
         refine sp (OpV.orR rfl rfl) ?_
         refine sp (OpV.fieldAddr rfl fo_158_2) ?_
         refine WL.heavy0 rfl rfl (OpH.storeTo (A := [_]) [_, _, _, _, _, _, _] rfl rfl rfl ts_3 rfl rfl rfl ?_)
         refine WL.nil (En.block_norm (En.next (WC.sr ?_)))
         refine sp (OpV.loadAll rfl mq1 ag_158) ?_
         refine WL.heavy0 rfl rfl (OpH.storeTo (A := [_, _]) [_, _, _, _, _, _, _] rfl rfl rfl ts_158 rfl rfl rfl ?_)
         refine WL.nil (En.next (WC.ret ?_))
         refine En.ret1 rfl (Res.cell rfl mq2 ag_158) ?_
         obtain rfl := Option.some.inj h
         intro w' hs
         have hs := ((hs).ownNil (A := tInt)).sub (.cons_cons _ (.cons_cons _ (.cons _ (.cons _ (List.Sublist.refl _)))))
         exact ⟨_, _, rfl, ⟨.none, 0, 0, [], rfl, rfl⟩, hs⟩
        ·
         intro hc_17
         replace h := ifO_f hc_17 h
         refine WC.skip (En.block_norm (En.next (WC.sr ?_)))
         refine sp (OpV.loadAll rfl mq0 ag_158) ?_
         refine WL.heavy0 rfl rfl (OpH.storeTo (A := [_, _]) [_, _, _, _, _, _, _] rfl rfl rfl ts_158 rfl rfl rfl ?_)
         refine WL.nil (En.next (WC.ret ?_))
         refine En.ret1 rfl (Res.cell rfl mq2 ag_158) ?_
         obtain rfl := Option.some.inj h
         intro w' hs
         have hs := ((((hs).ownNil (A := tInt)).pm 2).pm 1).sub (.cons_cons _ (.cons_cons _ (.cons _ (.cons _ (List.Sublist.refl _)))))
         exact ⟨_, _, rfl, ⟨.none, 0, 0, [], rfl, rfl⟩, hs⟩

end Go.Proofs.Ytbdpbboonilhhaa
