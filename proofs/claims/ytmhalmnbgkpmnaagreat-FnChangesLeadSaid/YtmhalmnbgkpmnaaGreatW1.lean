/- Walks: the program computes the pure functions. -/
import Derived.Test.YtmhalmnbgkpmnaaGreatDefs
import Derived.Test.YtmhalmnbgkpmnaaGreatFacts
import Derived.Test.YtmhalmnbgkpmnaaGreatRepeat
import Derived.Test.YtmhalmnbgkpmnaaGreatPlanes
namespace Go.Proofs.YtmhalmnbgkpmnaaGreat
open Go.RowKit K
set_option maxRecDepth 100000
set_option maxHeartbeats 4000000

theorem w_laws_big {code_p0 : List Int} {r : Bool} {q0_0 : Option Addr} {l0_0 k0_0 : Nat} (h : laws_big code_p0 = some r) {w : World} (r0_0 : Rd tU8 w q0_0 l0_0 k0_0 code_p0)   :
    Calls Tryz.prog 21 #[.slice q0_0 l0_0 k0_0] w (fun en w' => en = .returned (.bool r) ∧ Ext w w') := by
 obtain rfl := r0_0.1
 unfold laws_big at h
 refine enter (vs := [_]) Tryz.func21 rfl rfl rfl rfl ?_
 refine WC.sr ?_
 refine ag ?_
 refine WL.nil (En.next (WC.sr ?_))
 refine mv ?_
 refine sp (OpV.len rfl si_51 rfl) ?_
 refine sp (OpV.gtr rfl rfl) ?_
 refine ag ?_
 refine WL.nil (En.next (WC.ret ?_))
 refine En.ret1 rfl (Res.tmp rfl) ?_
 obtain rfl := Option.some.inj h
 intro w' hs
 exact ⟨rfl, hs.below⟩

theorem w_spec_l01New {code_p0 : List Int} {r : L01CurT} {q0_0 : Option Addr} {l0_0 k0_0 : Nat} (h : spec_l01New code_p0 = some r) {w : World} (r0_0 : Rd tU8 w q0_0 l0_0 k0_0 code_p0)   :
    Calls Tryz.prog 69 #[.slice q0_0 l0_0 k0_0] w (fun en w' => ∃ rv G, en = .returned rv ∧ (∃ (b0_p : Nat), rv = .pointer (some ⟨b0_p, 0, .none⟩) ∧ G = [Chunk.box b0_p 128 [.slice q0_0 l0_0 k0_0, .int .i64 r.i, .int .i64 r.h]]) ∧ St w G w') := by
 obtain rfl := r0_0.1
 unfold spec_l01New at h
 refine enter (vs := [_]) Tryz.func69 rfl rfl rfl rfl ?_
 refine WC.sr ?_
 refine ag ?_
 refine WL.nil (En.next (WC.sr ?_))
 refine mv ?_
 refine sp (OpV.len rfl si_51 rfl) ?_
 refine sp (OpV.addR rfl rfl) ?_
 refine ag ?_
 refine WL.nil (En.next (WC.seq (WC.sr ?_)))
 refine ag ?_
 refine WL.nil (En.next (WC.block ?_))
 obtain ⟨zy0, ezy0, h⟩ := bnd h
 refine WC.cut (X := (Int) × (Unit)) (.exit 0) (fun x => zy0 = x.1) (fun x => match x with | (h_0e, ()) => [(0, .slice q0_0 code_p0.length k0_0), (3, .int .i64 h_0e)]) (fun x => match x with | (h_0e, ()) => []) ?_ ?_
 ·
  rintro ⟨h_0e, ⟨⟩⟩ hx
  replace hx : h_0e = zy0 := hx.symm
  subst hx
  show En _ _ _ _ [(0, .slice q0_0 code_p0.length k0_0), (3, .int .i64 h_0e)] []
  refine En.block_exit (En.next (WC.sr ?_))
  refine mv ?_
  refine mv ?_
  refine sp (OpV.build (evps.cons rfl (evps.cons rfl (evps.nil))) (bd_128_0_2 _ _ _ _)) ?_
  refine WL.heavy rfl rfl rfl (OpH.box rfl rfl ?_)
  intro b6_3
  refine ag ?_
  refine WL.nil (En.next (WC.ret ?_))
  refine En.ret1 rfl (Res.tmp rfl) ?_
  obtain rfl := Option.some.inj h
  intro w' hs
  have hs := hs
  exact ⟨_, _, rfl, ⟨b6_3, rfl, rfl⟩, hs⟩
 ·
  intro zK0_0
  refine WC.loopP (G := Unit) (fun s g => match s, g with | (h_0, i_0), () => [(0, .slice q0_0 code_p0.length k0_0), (3, .int .i64 h_0), (4, .int .i64 i_0)]) (fun s g => match s, g with | (h_0, i_0), () => []) ((wr (33137 + (code_p0.length : Int))), 0) () ezy0 (by exact sc (sc (sc sn))) (by exact (fun _ h => h)) ?_
  rintro zm0 ⟨h_0, i_0⟩ ⟨⟩ zo0 zf0 zb0 ze0
  have zh0 : spec_l01New_L0 code_p0 h_0 i_0 = some zo0 := zf0
  unfold spec_l01New_L0 at zh0
  show WC _ _ _ _ _ [(0, .slice q0_0 code_p0.length k0_0), (3, .int .i64 h_0), (4, .int .i64 i_0)] []
  refine WC.seq (WC.sr ?_)
  refine mv ?_
  refine mv ?_
  refine sp (OpV.len rfl si_51 rfl) ?_
  refine sp (OpV.lss rfl rfl) ?_
  refine mv ?_
  refine Lt.ofWL.and 12 15 14 (p := ?pz1) (rest := ?qz1) (B := ?Bz1) rfl ?Tz1 ?Fz1 ?az1 ?bz1 ?cz1 ?dz1 ?ez1
  case Tz1 =>
   intro hcz1 hkz1
   refine mv ?_
   refine sp (OpV.lss rfl rfl) ?_
   refine hkz1 _ ?_ ?_
   exact rfl
   repeat (first | exact Sub.refl _ | refine Sub.skip rfl ?_)
  case Fz1 =>
   intro hcz1 hkz1
   refine sk ?_
   refine sk ?_
   refine hkz1 _ ?_
   repeat (first | exact Sub.refl _ | refine Sub.skip rfl ?_)
  case az1 => exact rfl
  case bz1 => exact rfl
  case cz1 => exact rfl
  case dz1 => exact rfl
  refine WL.nil (En.next ?_)
  refine WC.cond rfl ?_ ?_
  ·
   intro hc_1
   replace zh0 := ifO_t hc_1 zh0
   refine WC.skip (En.next (WC.seq (WC.block ?_)))
   obtain ⟨x5_4, e5_4, zh0⟩ := bnd zh0
   obtain ⟨g5_4, o5_4, _, ha5_4, rfl, hd5_4⟩ := Rd.atIdx r0_0 e5_4
   replace hd5_4 : ∀ (j : Nat) v, ([.int .u8 x5_4] : List Value)[j]? = some v → w.cell? ⟨g5_4, o5_4 + i_0.toNat * 1 + j, .none⟩ = some v := hd5_4
   refine WC.region ?_
   refine mv ?_
   refine sp (OpV.mulR rfl rfl) ?_
   refine mv ?_
   refine mv ?_
   refine sp (OpV.idxA rfl rfl se_51 ha5_4 ⟨(idx_some e5_4).1, (idx_some e5_4).2.1⟩) ?_
   refine sp (OpV.load1 rfl pt_5 (fun w hs => hs.cell (hd5_4 0 _ rfl))) ?_
   refine sp (OpV.convR rfl uS_5 ui_3_i64) ?_
   refine sp (OpV.addR rfl rfl) ?_
   refine sp (OpV.addR rfl rfl) ?_
   refine sp (OpV.andR rfl rfl) ?_
   refine ag ?_
   refine WL.nil (En.block_norm (En.next (WC.region ?_)))
   refine mv ?_
   refine sp (OpV.addR rfl rfl) ?_
   refine ag ?_
   refine WL.nil ?_
   exact En.backP zb0 zh0 () (sc (sc (sc sn))) (fun _ h => h)
  ·
   intro hc_1
   replace zh0 := ifO_f hc_1 zh0
   refine WC.exit (En.then_exit (En.then_exit ?_))
   have hx := exitP ze0 zh0
   exact En.wk _ _ (sc (sc sn)) (fun _ h => h) (zK0_0 (h_0, ()) hx.symm)

theorem w_spec_l01Byte {c_p0 : L01CurT} {r : Int × L01CurT} {b0 : Nat} {q0_0 : Option Addr} {l0_0 k0_0 : Nat} (h : spec_l01Byte c_p0 = some r) {w0 w : World} {C : List Chunk} (hs0 : St w0 (Chunk.box b0 128 [.slice q0_0 l0_0 k0_0, .int .i64 c_p0.i, .int .i64 c_p0.h] :: C) w) (r0_0 : ∀ w, St w0 C w → Rd tU8 w q0_0 l0_0 k0_0 c_p0.b) :
    Calls Tryz.prog 126 #[.pointer (some ⟨b0, 0, .none⟩)] w (fun en w' => ∃ rv G, en = .returned rv ∧ (rv = .int .i64 r.1 ∧ G = Chunk.box b0 128 [.slice q0_0 l0_0 k0_0, .int .i64 r.2.i, .int .i64 r.2.h] :: C) ∧ St w0 G w') := by
 obtain rfl := (r0_0 _ (St.tl (F := [_]) hs0)).1
 unfold spec_l01Byte at h
 refine enterF hs0 (vs := [_]) Tryz.func126 rfl rfl rfl rfl ?_
 refine WC.sr ?_
 refine ag ?_
 refine WL.nil (En.next (WC.sr ?_))
 refine mv ?_
 refine mv ?_
 refine sp (OpV.nilCheck rfl) ?_
 refine sp (OpV.fieldAddr rfl fo_128_2) ?_
 refine sp (OpV.loadBox rfl pt_3 mq0 rfl) ?_
 refine sp (OpV.mulR rfl rfl) ?_
 refine sp (OpV.addR rfl rfl) ?_
 refine sp (OpV.nilCheck rfl) ?_
 refine sp (OpV.fieldAddr rfl fo_128_2) ?_
 refine WL.heavy0 rfl rfl (OpH.storeTo (A := []) [_, _, _] rfl rfl rfl ts_3 rfl rfl rfl ?_)
 refine WL.nil (En.next (WC.seq ?_))
 refine WC.drawn [(0, ?r2v0), (3, ?r2v3)] (by kernel_rfl) (by kernel_rfl) ?dH2 ?dK2
 case dH2 =>
  intro W hW hk
  refine hW.mv ?_
  refine hW.sp (OpV.nilCheck rfl) ?_
  refine hW.sp (OpV.fieldAddr rfl fo_128_2) ?_
  refine hW.sp (OpV.loadBox rfl pt_3 mq0 rfl) ?_
  refine hW.sp (OpV.shrR rfl rfl rfl) ?_
  refine hW.mv ?_
  refine hW.sp (OpV.nilCheck rfl) ?_
  refine hW.sp (OpV.fieldAddr rfl fo_128_2) ?_
  refine hW.sp (OpV.loadBox rfl pt_3 mq0 rfl) ?_
  refine hW.sp (OpV.shrR rfl rfl rfl) ?_
  refine hW.sp (OpV.xorR rfl rfl) ?_
  refine hW.sp (OpV.andR rfl rfl) ?_
  refine hW.sp (OpV.assign rfl) ?_
  refine hk _ ?_
  refine Sub.cons ?_ (Sub.cons ?_ sn)
  all_goals exact rfl
 refine En.next (WC.seq (WC.seq ?_))
 refine WC.drawn [(0, ?r3v0), (3, ?r3v3), (34, ?r3v34)] (by kernel_rfl) (by kernel_rfl) ?dH3 ?dK3
 case dH3 =>
  intro W hW hk
  refine hW.mv ?_
  refine hW.sp (OpV.nilCheck rfl) ?_
  refine hW.sp (OpV.fieldAddr rfl fo_128_1) ?_
  refine hW.sp (OpV.loadBox rfl pt_3 mq0 rfl) ?_
  refine hW.mv ?_
  refine hW.sp (OpV.nilCheck rfl) ?_
  refine hW.sp (OpV.fieldAddr rfl fo_128_0) ?_
  refine hW.sp (OpV.loadBox rfl pt_51 mq0 rfl) ?_
  refine hW.sp (OpV.len rfl si_51 rfl) ?_
  refine hW.sp (OpV.lss rfl rfl) ?_
  refine hk _ ?_
  refine Sub.cons ?_ (Sub.cons ?_ (Sub.cons ?_ sn))
  all_goals exact rfl
 refine En.next ?_
 refine WC.cond rfl ?_ ?_
 ·
  intro hc_1
  replace h := ifO_t hc_1 h
  refine WC.seq ?_
  refine WC.inh fun hin4 => ?_
  obtain ⟨x4_9, e4_9, h⟩ := bnd h
  obtain ⟨g4_9, o4_9, ha4_9⟩ : ∃ b o, q0_0 = some ⟨b, o, .none⟩ := by obtain ⟨wi, hsi⟩ := hin4; obtain ⟨b, o, _, e, _⟩ := Rd.atIdx (r0_0 _ (St.tl (F := [_]) hsi)) e4_9; exact ⟨b, o, e⟩
  refine WC.drawn [(0, ?r4v0), (3, ?r4v3)] (by kernel_rfl) (by kernel_rfl) ?dH4 ?dK4
  case dH4 =>
   intro W hW hk
   refine hW.mv ?_
   refine hW.mv ?_
   refine hW.sp (OpV.nilCheck rfl) ?_
   refine hW.sp (OpV.fieldAddr rfl fo_128_0) ?_
   refine hW.sp (OpV.loadBox rfl pt_51 mq0 rfl) ?_
   refine hW.mv ?_
   refine hW.sp (OpV.nilCheck rfl) ?_
   refine hW.sp (OpV.fieldAddr rfl fo_128_1) ?_
   refine hW.sp (OpV.loadBox rfl pt_3 mq0 rfl) ?_
   refine hW.sp (OpV.idxA rfl rfl se_51 ha4_9 ⟨(idx_some e4_9).1, (idx_some e4_9).2.1⟩) ?_
   refine hW.sp (OpV.load1 rfl pt_5 (fun w hs => Rd.cell1 tU8_flat (r0_0 _ (St.tl (F := [_]) hs)) e4_9 ha4_9 rfl)) ?_
   refine hW.sp (OpV.convR rfl uS_5 ui_3_i64) ?_
   refine hW.sp (OpV.addR rfl rfl) ?_
   refine hW.sp (OpV.andR rfl rfl) ?_
   refine hW.sp (OpV.assign rfl) ?_
   refine hk _ ?_
   refine Sub.cons ?_ (Sub.cons ?_ sn)
   all_goals exact rfl
  refine En.next (WC.region ?_)
  refine mv ?_
  refine mv ?_
  refine sp (OpV.nilCheck rfl) ?_
  refine sp (OpV.fieldAddr rfl fo_128_1) ?_
  refine sp (OpV.loadBox rfl pt_3 mq0 rfl) ?_
  refine sp (OpV.addR rfl rfl) ?_
  refine sp (OpV.nilCheck rfl) ?_
  refine sp (OpV.fieldAddr rfl fo_128_1) ?_
  refine WL.heavy0 rfl rfl (OpH.storeTo (A := []) [_, _, _] rfl rfl rfl ts_3 rfl rfl rfl ?_)
  refine WL.nil (En.next (WC.sr ?_))
  refine mv ?_
  refine ag ?_
  refine WL.nil (En.next (WC.ret ?_))
  refine En.ret1 rfl (Res.tmp rfl) ?_
  obtain rfl := Option.some.inj h
  intro w' hs
  have hs := hs
  exact ⟨_, _, rfl, ⟨rfl, rfl⟩, hs⟩
 ·
  intro hc_1
  replace h := ifO_f hc_1 h
  refine WC.skip (En.next (WC.sr ?_))
  refine mv ?_
  refine ag ?_
  refine WL.nil (En.next (WC.ret ?_))
  refine En.ret1 rfl (Res.tmp rfl) ?_
  obtain rfl := Option.some.inj h
  intro w' hs
  have hs := hs
  exact ⟨_, _, rfl, ⟨rfl, rfl⟩, hs⟩

theorem w_spec_l01Below {c_p0 : L01CurT} {n_p1 : Int} {r : Int × L01CurT} {b0 : Nat} {q0_0 : Option Addr} {l0_0 k0_0 : Nat} (h : spec_l01Below c_p0 n_p1 = some r) {w0 w : World} {C : List Chunk} (hs0 : St w0 (Chunk.box b0 128 [.slice q0_0 l0_0 k0_0, .int .i64 c_p0.i, .int .i64 c_p0.h] :: C) w) (r0_0 : ∀ w, St w0 C w → Rd tU8 w q0_0 l0_0 k0_0 c_p0.b) :
    Calls Tryz.prog 105 #[.pointer (some ⟨b0, 0, .none⟩), .int .i64 n_p1] w (fun en w' => ∃ rv G, en = .returned rv ∧ (rv = .int .i64 r.1 ∧ G = Chunk.box b0 128 [.slice q0_0 l0_0 k0_0, .int .i64 r.2.i, .int .i64 r.2.h] :: C) ∧ St w0 G w') := by
 obtain rfl := (r0_0 _ (St.tl (F := [_]) hs0)).1
 unfold spec_l01Below at h
 refine enterF hs0 (vs := [_, _]) Tryz.func105 rfl rfl rfl rfl ?_
 refine WC.sr ?_
 refine ag ?_
 refine WL.nil (En.next (WC.seq (WC.sr ?_)))
 refine mv ?_
 refine sp (OpV.leq rfl rfl) ?_
 refine WL.nil (En.next ?_)
 refine WC.cond rfl ?_ ?_
 ·
  intro hc_1
  replace h := ifO_t hc_1 h
  refine WC.sr ?_
  refine ag ?_
  refine WL.nil (En.next (WC.ret (En.then_ret ?_)))
  refine En.ret1 rfl (Res.tmp rfl) ?_
  obtain rfl := Option.some.inj h
  intro w' hs
  have hs := hs
  exact ⟨_, _, rfl, ⟨rfl, rfl⟩, hs⟩
 ·
  intro hc_1
  replace h := ifO_f hc_1 h
  refine WC.skip (En.next (WC.seq (WC.sr ?_)))
  refine mv ?_
  refine sp (OpV.leq rfl rfl) ?_
  refine WL.nil (En.next ?_)
  refine WC.cond rfl ?_ ?_
  ·
   intro hc_2
   replace h := ifO_t hc_2 h
   refine WC.seq ?_
   obtain ⟨⟨x4_1a, x4_1b⟩, e4_1, h⟩ := bnd h
   obtain ⟨x4_3, e4_3, h⟩ := bnd h
   refine WC.region ?_
   refine mv ?_
   refine WL.heavy rfl rfl rfl (OpH.callX (ec rfl e0) ca_126 (fun w hs => w_spec_l01Byte e4_1 hs (fun w hs => (r0_0 _ (St.tl (F := []) hs)))) ?_)
   rintro _ _ ⟨rfl, rfl⟩
   refine mv ?_
   refine sp (OpV.remR rfl rfl e4_3) ?_
   refine ag ?_
   refine WL.nil (En.next (WC.ret (En.then_ret ?_)))
   refine En.ret1 rfl (Res.tmp rfl) ?_
   obtain rfl := Option.some.inj h
   intro w' hs
   have hs := hs
   exact ⟨_, _, rfl, ⟨rfl, rfl⟩, hs⟩
  ·
   intro hc_2
   replace h := ifO_f hc_2 h
   refine WC.skip (En.next (WC.seq ?_))
   obtain ⟨⟨x5_1a, x5_1b⟩, e5_1, h⟩ := bnd h
   refine WC.region ?_
   refine mv ?_
   refine WL.heavy rfl rfl rfl (OpH.callX (ec rfl e0) ca_126 (fun w hs => w_spec_l01Byte e5_1 hs (fun w hs => (r0_0 _ (St.tl (F := []) hs)))) ?_)
   rintro _ _ ⟨rfl, rfl⟩
   refine ag ?_
   refine WL.nil (En.next (WC.seq ?_))
   obtain ⟨⟨x6_1a, x6_1b⟩, e6_1, h⟩ := bnd h
   refine WC.region ?_
   refine mv ?_
   refine WL.heavy rfl rfl rfl (OpH.callX (ec rfl e0) ca_126 (fun w hs => w_spec_l01Byte e6_1 hs (fun w hs => (r0_0 _ (St.tl (F := []) hs)))) ?_)
   rintro _ _ ⟨rfl, rfl⟩
   refine ag ?_
   refine WL.nil (En.next (WC.seq ?_))
   obtain ⟨⟨x7_1a, x7_1b⟩, e7_1, h⟩ := bnd h
   refine WC.region ?_
   refine mv ?_
   refine WL.heavy rfl rfl rfl (OpH.callX (ec rfl e0) ca_126 (fun w hs => w_spec_l01Byte e7_1 hs (fun w hs => (r0_0 _ (St.tl (F := []) hs)))) ?_)
   rintro _ _ ⟨rfl, rfl⟩
   refine ag ?_
   refine WL.nil (En.next (WC.seq ?_))
   obtain ⟨⟨x8_1a, x8_1b⟩, e8_1, h⟩ := bnd h
   refine WC.region ?_
   refine mv ?_
   refine WL.heavy rfl rfl rfl (OpH.callX (ec rfl e0) ca_126 (fun w hs => w_spec_l01Byte e8_1 hs (fun w hs => (r0_0 _ (St.tl (F := []) hs)))) ?_)
   rintro _ _ ⟨rfl, rfl⟩
   refine ag ?_
   refine WL.nil (En.next (WC.seq ?_))
   obtain ⟨x9_11, e9_11, h⟩ := bnd h
   refine WC.region ?_
   refine mv ?_
   refine sp (OpV.mulR rfl rfl) ?_
   refine mv ?_
   refine sp (OpV.mulR rfl rfl) ?_
   refine sp (OpV.addR rfl rfl) ?_
   refine mv ?_
   refine sp (OpV.mulR rfl rfl) ?_
   refine sp (OpV.addR rfl rfl) ?_
   refine mv ?_
   refine sp (OpV.addR rfl rfl) ?_
   refine mv ?_
   refine sp (OpV.remR rfl rfl e9_11) ?_
   refine ag ?_
   refine WL.nil (En.next (WC.ret ?_))
   refine En.ret1 rfl (Res.tmp rfl) ?_
   obtain rfl := Option.some.inj h
   intro w' hs
   have hs := hs
   exact ⟨_, _, rfl, ⟨rfl, rfl⟩, hs⟩

theorem w_spec_l01PickInt {c_p0 : L01CurT} {list_p1 : List Int} {r : Int × L01CurT} {b0 : Nat} {q0_0 : Option Addr} {l0_0 k0_0 : Nat} {q1_0 : Option Addr} {l1_0 k1_0 : Nat} (h : spec_l01PickInt c_p0 list_p1 = some r) {w0 w : World} {C : List Chunk} (hs0 : St w0 (Chunk.box b0 128 [.slice q0_0 l0_0 k0_0, .int .i64 c_p0.i, .int .i64 c_p0.h] :: C) w) (r0_0 : ∀ w, St w0 C w → Rd tU8 w q0_0 l0_0 k0_0 c_p0.b) (r1_0 : ∀ w, St w0 C w → Rd tInt w q1_0 l1_0 k1_0 list_p1) :
    Calls Tryz.prog 131 #[.pointer (some ⟨b0, 0, .none⟩), .slice q1_0 l1_0 k1_0] w (fun en w' => ∃ rv G, en = .returned rv ∧ (rv = .int .i64 r.1 ∧ G = Chunk.box b0 128 [.slice q0_0 l0_0 k0_0, .int .i64 r.2.i, .int .i64 r.2.h] :: C) ∧ St w0 G w') := by
 obtain rfl := (r0_0 _ (St.tl (F := [_]) hs0)).1
 obtain rfl := (r1_0 _ (St.tl (F := [_]) hs0)).1
 unfold spec_l01PickInt at h
 refine enterF hs0 (vs := [_, _]) Tryz.func131 rfl rfl rfl rfl ?_
 refine WC.sr ?_
 refine ag ?_
 refine WL.nil (En.next (WC.seq ?_))
 refine WC.inh fun hin1 => ?_
 obtain ⟨⟨x1_4a, x1_4b⟩, e1_4, h⟩ := bnd h
 obtain ⟨x1_5, e1_5, h⟩ := bnd h
 obtain ⟨g1_5, o1_5, ha1_5⟩ : ∃ b o, q1_0 = some ⟨b, o, .none⟩ := by obtain ⟨wi, hsi⟩ := hin1; obtain ⟨b, o, _, e, _⟩ := Rd.atIdx (r1_0 _ (St.tl (F := [_]) hsi)) e1_5; exact ⟨b, o, e⟩
 refine WC.region ?_
 refine mv ?_
 refine mv ?_
 refine mv ?_
 refine sp (OpV.len rfl si_23 rfl) ?_
 refine WL.heavy rfl rfl rfl (OpH.callX (ec rfl (ec rfl e0)) ca_105 (fun w hs => w_spec_l01Below e1_4 hs (fun w hs => (r0_0 _ (St.tl (F := []) hs)))) ?_)
 rintro _ _ ⟨rfl, rfl⟩
 refine sp (OpV.idxA rfl rfl se_23 ha1_5 ⟨(idx_some e1_5).1, (idx_some e1_5).2.1⟩) ?_
 refine sp (OpV.load1 rfl pt_3 (fun w hs => Rd.cell1 tInt_flat (r1_0 _ (St.tl (F := [_]) hs)) e1_5 ha1_5 rfl)) ?_
 refine ag ?_
 refine WL.nil (En.next (WC.ret ?_))
 refine En.ret1 rfl (Res.tmp rfl) ?_
 obtain rfl := Option.some.inj h
 intro w' hs
 have hs := hs
 exact ⟨_, _, rfl, ⟨rfl, rfl⟩, hs⟩

theorem w_spec_l04Byte {c_p0 : L01CurT} {r : Int × L01CurT} {b0 : Nat} {q0_0 : Option Addr} {l0_0 k0_0 : Nat} (h : spec_l04Byte c_p0 = some r) {w0 w : World} {C : List Chunk} (hs0 : St w0 (Chunk.box b0 128 [.slice q0_0 l0_0 k0_0, .int .i64 c_p0.i, .int .i64 c_p0.h] :: C) w) (r0_0 : ∀ w, St w0 C w → Rd tU8 w q0_0 l0_0 k0_0 c_p0.b) :
    Calls Tryz.prog 144 #[.pointer (some ⟨b0, 0, .none⟩)] w (fun en w' => ∃ rv G, en = .returned rv ∧ (rv = .int .i64 r.1 ∧ G = Chunk.box b0 128 [.slice q0_0 l0_0 k0_0, .int .i64 r.2.i, .int .i64 r.2.h] :: C) ∧ St w0 G w') := by
 obtain rfl := (r0_0 _ (St.tl (F := [_]) hs0)).1
 unfold spec_l04Byte at h
 refine enterF hs0 (vs := [_]) Tryz.func144 rfl rfl rfl rfl ?_
 refine WC.sr ?_
 refine ag ?_
 refine WL.nil (En.next (WC.seq ?_))
 obtain ⟨⟨x1_2a, x1_2b⟩, e1_2, h⟩ := bnd h
 obtain ⟨⟨x1_4a, x1_4b⟩, e1_4, h⟩ := bnd h
 refine WC.region ?_
 refine mv ?_
 refine mv ?_
 refine WL.heavy rfl rfl rfl (OpH.callX (ec rfl (ec rfl e0)) ca_105 (fun w hs => w_spec_l01Below e1_2 hs (fun w hs => (r0_0 _ (St.tl (F := []) hs)))) ?_)
 rintro _ _ ⟨rfl, rfl⟩
 refine WL.heavy rfl rfl rfl (OpH.litF (A := tInt) (xs := [0, 255, 127, 128, 1, 254, x1_2a]) tInt_flat (evps.cons rfl (evps.cons rfl (evps.cons rfl (evps.cons rfl (evps.cons rfl (evps.cons rfl (evps.cons rfl (evps.nil)))))))) (bs_23_7_0_1_2_3_4_5_6 _ _ _ _ _ _ _) rfl rfl (Nat.le_of_ble_eq_true rfl) ?_)
 intro b1_3
 refine WL.wkF (fun _ h => h.pm 1) ?_
 refine WL.heavy rfl rfl rfl (OpH.callX (ec rfl (ec rfl e0)) ca_131 (fun w hs => w_spec_l01PickInt e1_4 hs (fun w hs => (r0_0 _ (St.tl (F := [_]) hs))) (fun w hs => (Ow.rd (hs.mem mq0)))) ?_)
 rintro _ _ ⟨rfl, rfl⟩
 refine ag ?_
 refine WL.nil (En.next (WC.ret ?_))
 refine En.ret1 rfl (Res.tmp rfl) ?_
 obtain rfl := Option.some.inj h
 intro w' hs
 have hs := (hs).sub (.cons_cons _ (.cons _ (List.Sublist.refl _)))
 exact ⟨_, _, rfl, ⟨rfl, rfl⟩, hs⟩

theorem w_spec_l01In {x_p0 : Int} {least_p1 : Int} {most_p2 : Int} {r : Bool}  (h : spec_l01In x_p0 least_p1 most_p2 = some r) {w : World}    :
    Calls Tryz.prog 64 #[.int .i64 x_p0, .int .i64 least_p1, .int .i64 most_p2] w (fun en w' => en = .returned (.bool r) ∧ Ext w w') := by
 unfold spec_l01In at h
 refine enter (vs := [_, _, _]) Tryz.func64 rfl rfl rfl rfl ?_
 refine WC.sr ?_
 refine ag ?_
 refine WL.nil (En.next (WC.sr ?_))
 refine mv ?_
 refine mv ?_
 refine sp (OpV.geq rfl rfl) ?_
 refine mv ?_
 refine Lt.ofWL.and 10 14 13 (p := ?pz1) (rest := ?qz1) (B := ?Bz1) rfl ?Tz1 ?Fz1 ?az1 ?bz1 ?cz1 ?dz1 ?ez1
 case Tz1 =>
  intro hcz1 hkz1
  refine mv ?_
  refine mv ?_
  refine sp (OpV.leq rfl rfl) ?_
  refine hkz1 _ ?_ ?_
  exact rfl
  repeat (first | exact Sub.refl _ | refine Sub.skip rfl ?_)
 case Fz1 =>
  intro hcz1 hkz1
  refine sk ?_
  refine sk ?_
  refine sk ?_
  refine hkz1 _ ?_
  repeat (first | exact Sub.refl _ | refine Sub.skip rfl ?_)
 case az1 => exact rfl
 case bz1 => exact rfl
 case cz1 => exact rfl
 case dz1 => exact rfl
 refine ag ?_
 refine WL.nil (En.next (WC.ret ?_))
 refine En.ret1 rfl (Res.tmp rfl) ?_
 obtain rfl := Option.some.inj h
 intro w' hs
 exact ⟨rfl, hs.below⟩

theorem w_spec_MakePixel {a_p0 : Int} {r_p1 : Int} {g_p2 : Int} {b_p3 : Int} {r : Int}  (h : spec_MakePixel a_p0 r_p1 g_p2 b_p3 = some r) {w : World}    :
    Calls Tryz.prog 145 #[.int .i64 a_p0, .int .i64 r_p1, .int .i64 g_p2, .int .i64 b_p3] w (fun en w' => en = .returned (.int .i64 r) ∧ Ext w w') := by
 unfold spec_MakePixel at h
 refine enter (vs := [_, _, _, _]) Tryz.func145 rfl rfl rfl rfl ?_
 refine WC.sr ?_
 refine ag ?_
 refine WL.nil (En.next (WC.seq (WC.seq ?_)))
 obtain ⟨x1_1, e1_1, h⟩ := bnd h
 obtain ⟨q1_7, e1_7, h⟩ := bnd h
 obtain ⟨q1_12, e1_12, h⟩ := bnd h
 obtain ⟨q1_17, e1_17, h⟩ := bnd h
 refine WC.region ?_
 refine mv ?_
 refine sp (OpV.call (ec rfl (ec rfl (ec rfl e0))) ca_64 (fun w hs => w_spec_l01In e1_1)) ?_
 refine sp (OpV.not rfl) ?_
 refine mv ?_
 refine Lt.ofWL.orQ 12 16 15 (p := ?pz1) (rest := ?qz1) (B := q1_7) rfl (fun hz => orO_t e1_7 hz) ?Tz1 ?Fz1 ?az1 ?bz1 ?cz1 ?dz1 ?ez1
 case Tz1 =>
  intro hcz1 hkz1
  refine sk ?_
  refine sk ?_
  refine sk ?_
  refine hkz1 _ ?_
  repeat (first | exact Sub.refl _ | refine Sub.skip rfl ?_)
 case Fz1 =>
  intro hcz1 hkz1
  have hqz1 := orO_f e1_7 hcz1
  obtain ⟨x1_5, e1_5, hqz1⟩ := bnd hqz1
  obtain rfl := Option.some.inj hqz1
  refine mv ?_
  refine sp (OpV.call (ec rfl (ec rfl (ec rfl e0))) ca_64 (fun w hs => w_spec_l01In e1_5)) ?_
  refine sp (OpV.not rfl) ?_
  refine hkz1 _ ?_ ?_
  exact rfl
  repeat (first | exact Sub.refl _ | refine Sub.skip rfl ?_)
 case az1 => exact rfl
 case bz1 => exact rfl
 case cz1 => exact rfl
 case dz1 => exact rfl
 refine mv ?_
 refine Lt.ofWL.orQ 17 21 20 (p := ?pz2) (rest := ?qz2) (B := q1_12) rfl (fun hz => orO_t e1_12 hz) ?Tz2 ?Fz2 ?az2 ?bz2 ?cz2 ?dz2 ?ez2
 case Tz2 =>
  intro hcz2 hkz2
  refine sk ?_
  refine sk ?_
  refine sk ?_
  refine hkz2 _ ?_
  repeat (first | exact Sub.refl _ | refine Sub.skip rfl ?_)
 case Fz2 =>
  intro hcz2 hkz2
  have hqz2 := orO_f e1_12 hcz2
  obtain ⟨x1_10, e1_10, hqz2⟩ := bnd hqz2
  obtain rfl := Option.some.inj hqz2
  refine mv ?_
  refine sp (OpV.call (ec rfl (ec rfl (ec rfl e0))) ca_64 (fun w hs => w_spec_l01In e1_10)) ?_
  refine sp (OpV.not rfl) ?_
  refine hkz2 _ ?_ ?_
  exact rfl
  repeat (first | exact Sub.refl _ | refine Sub.skip rfl ?_)
 case az2 => exact rfl
 case bz2 => exact rfl
 case cz2 => exact rfl
 case dz2 => exact rfl
 refine mv ?_
 refine Lt.ofWL.orQ 22 26 25 (p := ?pz3) (rest := ?qz3) (B := q1_17) rfl (fun hz => orO_t e1_17 hz) ?Tz3 ?Fz3 ?az3 ?bz3 ?cz3 ?dz3 ?ez3
 case Tz3 =>
  intro hcz3 hkz3
  refine sk ?_
  refine sk ?_
  refine sk ?_
  refine hkz3 _ ?_
  repeat (first | exact Sub.refl _ | refine Sub.skip rfl ?_)
 case Fz3 =>
  intro hcz3 hkz3
  have hqz3 := orO_f e1_17 hcz3
  obtain ⟨x1_15, e1_15, hqz3⟩ := bnd hqz3
  obtain rfl := Option.some.inj hqz3
  refine mv ?_
  refine sp (OpV.call (ec rfl (ec rfl (ec rfl e0))) ca_64 (fun w hs => w_spec_l01In e1_15)) ?_
  refine sp (OpV.not rfl) ?_
  refine hkz3 _ ?_ ?_
  exact rfl
  repeat (first | exact Sub.refl _ | refine Sub.skip rfl ?_)
 case az3 => exact rfl
 case bz3 => exact rfl
 case cz3 => exact rfl
 case dz3 => exact rfl
 refine WL.nil (En.next ?_)
 refine WC.cond rfl ?_ ?_
 ·
  intro hc_1
  replace h := ifO_t hc_1 h
  refine WC.sr ?_
  refine ag ?_
  refine WL.nil (En.next (WC.ret (En.then_ret ?_)))
  refine En.ret1 rfl (Res.tmp rfl) ?_
  obtain rfl := Option.some.inj h
  intro w' hs
  exact ⟨rfl, hs.below⟩
 ·
  intro hc_1
  replace h := ifO_f hc_1 h
  refine WC.skip (En.next (WC.sr ?_))
  refine mv ?_
  refine sp (OpV.shlR rfl rfl rfl) ?_
  refine mv ?_
  refine sp (OpV.shlR rfl rfl rfl) ?_
  refine sp (OpV.addR rfl rfl) ?_
  refine mv ?_
  refine sp (OpV.shlR rfl rfl rfl) ?_
  refine sp (OpV.addR rfl rfl) ?_
  refine mv ?_
  refine sp (OpV.addR rfl rfl) ?_
  refine ag ?_
  refine WL.nil (En.next (WC.ret ?_))
  refine En.ret1 rfl (Res.tmp rfl) ?_
  obtain rfl := Option.some.inj h
  intro w' hs
  exact ⟨rfl, hs.below⟩

theorem w_spec_l04Draw {c_p0 : L01CurT} {r : Int × L01CurT} {b0 : Nat} {q0_0 : Option Addr} {l0_0 k0_0 : Nat} (h : spec_l04Draw c_p0 = some r) {w0 w : World} {C : List Chunk} (hs0 : St w0 (Chunk.box b0 128 [.slice q0_0 l0_0 k0_0, .int .i64 c_p0.i, .int .i64 c_p0.h] :: C) w) (r0_0 : ∀ w, St w0 C w → Rd tU8 w q0_0 l0_0 k0_0 c_p0.b) :
    Calls Tryz.prog 127 #[.pointer (some ⟨b0, 0, .none⟩)] w (fun en w' => ∃ rv G, en = .returned rv ∧ (rv = .int .i64 r.1 ∧ G = Chunk.box b0 128 [.slice q0_0 l0_0 k0_0, .int .i64 r.2.i, .int .i64 r.2.h] :: C) ∧ St w0 G w') := by
 obtain rfl := (r0_0 _ (St.tl (F := [_]) hs0)).1
 unfold spec_l04Draw at h
 refine enterF hs0 (vs := [_]) Tryz.func127 rfl rfl rfl rfl ?_
 refine WC.sr ?_
 refine ag ?_
 refine WL.nil (En.next (WC.seq ?_))
 obtain ⟨⟨x1_2a, x1_2b⟩, e1_2, h⟩ := bnd h
 obtain ⟨⟨x1_4a, x1_4b⟩, e1_4, h⟩ := bnd h
 refine WC.region ?_
 refine mv ?_
 refine mv ?_
 refine WL.heavy rfl rfl rfl (OpH.callX (ec rfl (ec rfl e0)) ca_105 (fun w hs => w_spec_l01Below e1_2 hs (fun w hs => (r0_0 _ (St.tl (F := []) hs)))) ?_)
 rintro _ _ ⟨rfl, rfl⟩
 refine WL.heavy rfl rfl rfl (OpH.litF (A := tInt) (xs := [255, 255, 255, 0, 128, 200, x1_2a]) tInt_flat (evps.cons rfl (evps.cons rfl (evps.cons rfl (evps.cons rfl (evps.cons rfl (evps.cons rfl (evps.cons rfl (evps.nil)))))))) (bs_23_7_0_1_2_3_4_5_6 _ _ _ _ _ _ _) rfl rfl (Nat.le_of_ble_eq_true rfl) ?_)
 intro b1_3
 refine WL.wkF (fun _ h => h.pm 1) ?_
 refine WL.heavy rfl rfl rfl (OpH.callX (ec rfl (ec rfl e0)) ca_131 (fun w hs => w_spec_l01PickInt e1_4 hs (fun w hs => (r0_0 _ (St.tl (F := [_]) hs))) (fun w hs => (Ow.rd (hs.mem mq0)))) ?_)
 rintro _ _ ⟨rfl, rfl⟩
 refine ag ?_
 refine WL.nil (En.next (WC.seq ?_))
 obtain ⟨⟨x2_1a, x2_1b⟩, e2_1, h⟩ := bnd h
 refine WC.region ?_
 refine mv ?_
 refine WL.heavy rfl rfl rfl (OpH.callX (ec rfl e0) ca_144 (fun w hs => w_spec_l04Byte e2_1 hs (fun w hs => (r0_0 _ (St.tl (F := [_]) hs)))) ?_)
 rintro _ _ ⟨rfl, rfl⟩
 refine ag ?_
 refine WL.nil (En.next (WC.seq ?_))
 obtain ⟨⟨x3_1a, x3_1b⟩, e3_1, h⟩ := bnd h
 refine WC.region ?_
 refine mv ?_
 refine WL.heavy rfl rfl rfl (OpH.callX (ec rfl e0) ca_144 (fun w hs => w_spec_l04Byte e3_1 hs (fun w hs => (r0_0 _ (St.tl (F := [_]) hs)))) ?_)
 rintro _ _ ⟨rfl, rfl⟩
 refine ag ?_
 refine WL.nil (En.next (WC.seq ?_))
 obtain ⟨⟨x4_4a, x4_4b⟩, e4_4, h⟩ := bnd h
 obtain ⟨x4_5, e4_5, h⟩ := bnd h
 refine WC.region ?_
 refine mv ?_
 refine mv ?_
 refine mv ?_
 refine mv ?_
 refine WL.heavy rfl rfl rfl (OpH.callX (ec rfl e0) ca_144 (fun w hs => w_spec_l04Byte e4_4 hs (fun w hs => (r0_0 _ (St.tl (F := [_]) hs)))) ?_)
 rintro _ _ ⟨rfl, rfl⟩
 refine sp (OpV.call (ec rfl (ec rfl (ec rfl (ec rfl e0)))) ca_145 (fun w hs => w_spec_MakePixel e4_5)) ?_
 refine ag ?_
 refine WL.nil (En.next (WC.ret ?_))
 refine En.ret1 rfl (Res.tmp rfl) ?_
 obtain rfl := Option.some.inj h
 intro w' hs
 have hs := (hs).sub (.cons_cons _ (.cons _ (List.Sublist.refl _)))
 exact ⟨_, _, rfl, ⟨rfl, rfl⟩, hs⟩

theorem w_spec_l04Pixel {p_p0 : Int} {r : Bool}  (h : spec_l04Pixel p_p0 = some r) {w : World}    :
    Calls Tryz.prog 118 #[.int .i64 p_p0] w (fun en w' => en = .returned (.bool r) ∧ Ext w w') := by
 unfold spec_l04Pixel at h
 refine enter (vs := [_]) Tryz.func118 rfl rfl rfl rfl ?_
 refine WC.sr ?_
 refine ag ?_
 refine WL.nil (En.next (WC.seq ?_))
 obtain ⟨x1_1, e1_1, h⟩ := bnd h
 refine WC.region ?_
 refine mv ?_
 refine sp (OpV.call (ec rfl (ec rfl (ec rfl e0))) ca_64 (fun w hs => w_spec_l01In e1_1)) ?_
 refine ag ?_
 refine WL.nil (En.next (WC.ret ?_))
 refine En.ret1 rfl (Res.tmp rfl) ?_
 obtain rfl := Option.some.inj h
 intro w' hs
 exact ⟨rfl, hs.below⟩

theorem w_spec_NewImage {w_p0 : Int} {h_p1 : Int} {p_p2 : Int} {r : ImageT}  (h : spec_NewImage w_p0 h_p1 p_p2 = some r) {w : World}    :
    Calls Tryz.prog 83 #[.int .i64 w_p0, .int .i64 h_p1, .int .i64 p_p2] w (fun en w' => ∃ rv G, en = .returned rv ∧ (∃ (a0_0 : Option Addr) (n0_0 : Nat) (c0_0 : Nat) (f0_0 : List Nat), rv = .agg #[.int .i64 r.W, .int .i64 r.H, .slice a0_0 n0_0 c0_0] ∧ G = [Chunk.own tInt f0_0 a0_0 n0_0 c0_0 r.Data]) ∧ St w G w') := by
 unfold spec_NewImage at h
 refine enter (vs := [_, _, _]) Tryz.func83 rfl rfl rfl rfl ?_
 refine WC.sr ?_
 refine WL.heavy rfl rfl rfl (OpH.alloc zc_107 ?_)
 intro b0_0
 refine WL.nil (En.next (WC.seq (WC.seq ?_)))
 obtain ⟨x1_1, e1_1, h⟩ := bnd h
 obtain ⟨q1_7, e1_7, h⟩ := bnd h
 obtain ⟨q1_12, e1_12, h⟩ := bnd h
 refine WC.region ?_
 refine mv ?_
 refine sp (OpV.call (ec rfl (ec rfl (ec rfl e0))) ca_64 (fun w hs => w_spec_l01In e1_1)) ?_
 refine sp (OpV.not rfl) ?_
 refine mv ?_
 refine Lt.ofWL.orQ 12 16 15 (p := ?pz1) (rest := ?qz1) (B := q1_7) rfl (fun hz => orO_t e1_7 hz) ?Tz1 ?Fz1 ?az1 ?bz1 ?cz1 ?dz1 ?ez1
 case Tz1 =>
  intro hcz1 hkz1
  refine sk ?_
  refine sk ?_
  refine sk ?_
  refine hkz1 _ ?_
  repeat (first | exact Sub.refl _ | refine Sub.skip rfl ?_)
 case Fz1 =>
  intro hcz1 hkz1
  have hqz1 := orO_f e1_7 hcz1
  obtain ⟨x1_5, e1_5, hqz1⟩ := bnd hqz1
  obtain rfl := Option.some.inj hqz1
  refine mv ?_
  refine sp (OpV.call (ec rfl (ec rfl (ec rfl e0))) ca_64 (fun w hs => w_spec_l01In e1_5)) ?_
  refine sp (OpV.not rfl) ?_
  refine hkz1 _ ?_ ?_
  exact rfl
  repeat (first | exact Sub.refl _ | refine Sub.skip rfl ?_)
 case az1 => exact rfl
 case bz1 => exact rfl
 case cz1 => exact rfl
 case dz1 => exact rfl
 refine mv ?_
 refine Lt.ofWL.orQ 17 21 20 (p := ?pz2) (rest := ?qz2) (B := q1_12) rfl (fun hz => orO_t e1_12 hz) ?Tz2 ?Fz2 ?az2 ?bz2 ?cz2 ?dz2 ?ez2
 case Tz2 =>
  intro hcz2 hkz2
  refine sk ?_
  refine sk ?_
  refine sk ?_
  refine hkz2 _ ?_
  repeat (first | exact Sub.refl _ | refine Sub.skip rfl ?_)
 case Fz2 =>
  intro hcz2 hkz2
  have hqz2 := orO_f e1_12 hcz2
  obtain ⟨x1_10, e1_10, hqz2⟩ := bnd hqz2
  obtain rfl := Option.some.inj hqz2
  refine mv ?_
  refine sp (OpV.call (ec rfl e0) ca_118 (fun w hs => w_spec_l04Pixel e1_10)) ?_
  refine sp (OpV.not rfl) ?_
  refine hkz2 _ ?_ ?_
  exact rfl
  repeat (first | exact Sub.refl _ | refine Sub.skip rfl ?_)
 case az2 => exact rfl
 case bz2 => exact rfl
 case cz2 => exact rfl
 case dz2 => exact rfl
 refine WL.nil (En.next ?_)
 refine WC.cond rfl ?_ ?_
 ·
  intro hc_1
  replace h := ifO_t hc_1 h
  refine WC.sr ?_
  refine sp (OpV.build (evps.nil) bd_107_) ?_
  refine WL.heavy0 rfl rfl (OpH.storeTo (A := []) [_, _, _] rfl rfl rfl ts_107 rfl rfl rfl ?_)
  refine WL.nil (En.next (WC.ret (En.then_ret ?_)))
  refine En.ret1 rfl (Res.cell rfl mq0 ag_107) ?_
  obtain rfl := Option.some.inj h
  intro w' hs
  have hs := ((hs).ownNil (A := tInt)).sub (.cons_cons _ (.cons _ (.slnil)))
  exact ⟨_, _, rfl, ⟨.none, 0, 0, [], rfl, rfl⟩, hs⟩
 ·
  intro hc_1
  replace h := ifO_f hc_1 h
  refine WC.skip (En.next (WC.sr ?_))
  refine mv ?_
  refine mv ?_
  refine sp (OpV.build (evps.cons rfl (evps.cons rfl (evps.nil))) (bd_107_0_1 _ _)) ?_
  refine WL.heavy rfl rfl rfl (OpH.alloc zc_107 ?_)
  intro b3_3
  refine WL.heavy0 rfl rfl (OpH.storeTo (A := []) [_, _, _] rfl rfl rfl ts_107 rfl rfl rfl ?_)
  refine WL.nil (En.next (WC.seq (WC.sr ?_)))
  refine ag ?_
  refine WL.nil (En.next (WC.block ?_))
  obtain ⟨zy0, ezy0, h⟩ := bnd h
  refine WC.cut (X := ((List Int)) × ((Option Addr) × Nat × Nat × (List Nat))) (.exit 0) (fun x => zy0 = x.1) (fun x => match x with | (i_0e, (ai_0e, ni_0e, ci_0e, fi_0e)) => [(6, .pointer (some ⟨b0_0, 0, .none⟩)), (7, .pointer (some ⟨b3_3, 0, .none⟩))]) (fun x => match x with | (i_0e, (ai_0e, ni_0e, ci_0e, fi_0e)) => [Chunk.box b0_0 107 [.int .i64 0, .int .i64 0, .slice .none 0 0], Chunk.box b3_3 107 [.int .i64 w_p0, .int .i64 h_p1, .slice ai_0e ni_0e ci_0e], Chunk.own tInt fi_0e ai_0e ni_0e ci_0e i_0e]) ?_ ?_
  ·
   rintro ⟨i_0e, ⟨ai_0e, ni_0e, ci_0e, fi_0e⟩⟩ hx
   replace hx : i_0e = zy0 := hx.symm
   subst hx
   show En _ _ _ _ [(6, .pointer (some ⟨b0_0, 0, .none⟩)), (7, .pointer (some ⟨b3_3, 0, .none⟩))] [Chunk.box b0_0 107 [.int .i64 0, .int .i64 0, .slice .none 0 0], Chunk.box b3_3 107 [.int .i64 w_p0, .int .i64 h_p1, .slice ai_0e ni_0e ci_0e], Chunk.own tInt fi_0e ai_0e ni_0e ci_0e i_0e]
   refine En.block_exit (En.next (WC.sr ?_))
   refine sp (OpV.loadAll rfl mq1 ag_107) ?_
   refine WL.heavy0 rfl rfl (OpH.storeTo (A := []) [_, _, _] rfl rfl rfl ts_107 rfl rfl rfl ?_)
   refine WL.nil (En.next (WC.ret ?_))
   refine En.ret1 rfl (Res.cell rfl mq0 ag_107) ?_
   obtain rfl := Option.some.inj h
   intro w' hs
   have hs := ((hs).pm 2).sub (.cons_cons _ (.cons _ (.cons _ (.slnil))))
   exact ⟨_, _, rfl, ⟨ai_0e, ni_0e, ci_0e, fi_0e, rfl, rfl⟩, hs⟩
  ·
   intro zK0_0
   refine WC.loopP (G := (Option Addr) × Nat × Nat × (List Nat)) (fun s g => match s, g with | (i_0, k_0), (ai_0, ni_0, ci_0, fi_0) => [(0, .int .i64 w_p0), (1, .int .i64 h_p1), (2, .int .i64 p_p2), (6, .pointer (some ⟨b0_0, 0, .none⟩)), (7, .pointer (some ⟨b3_3, 0, .none⟩)), (8, .int .i64 k_0)]) (fun s g => match s, g with | (i_0, k_0), (ai_0, ni_0, ci_0, fi_0) => [Chunk.box b0_0 107 [.int .i64 0, .int .i64 0, .slice .none 0 0], Chunk.box b3_3 107 [.int .i64 w_p0, .int .i64 h_p1, .slice ai_0 ni_0 ci_0], Chunk.own tInt fi_0 ai_0 ni_0 ci_0 i_0]) ([], 0) (.none, 0, 0, []) ezy0 (by exact sc (sc (sc (sc (sc (sc sn)))))) (by exact (fun _ h => (((h).ownNil (A := tInt)).pm 1).pm 2)) ?_
   rintro zm0 ⟨i_0, k_0⟩ ⟨ai_0, ni_0, ci_0, fi_0⟩ zo0 zf0 zb0 ze0
   have zh0 : spec_NewImage_L0 w_p0 h_p1 p_p2 i_0 k_0 = some zo0 := zf0
   unfold spec_NewImage_L0 at zh0
   show WC _ _ _ _ _ [(0, .int .i64 w_p0), (1, .int .i64 h_p1), (2, .int .i64 p_p2), (6, .pointer (some ⟨b0_0, 0, .none⟩)), (7, .pointer (some ⟨b3_3, 0, .none⟩)), (8, .int .i64 k_0)] [Chunk.box b0_0 107 [.int .i64 0, .int .i64 0, .slice .none 0 0], Chunk.box b3_3 107 [.int .i64 w_p0, .int .i64 h_p1, .slice ai_0 ni_0 ci_0], Chunk.own tInt fi_0 ai_0 ni_0 ci_0 i_0]
   refine WC.seq (WC.sr ?_)
   refine mv ?_
   refine mv ?_
   refine mv ?_
   refine sp (OpV.mulR rfl rfl) ?_
   refine sp (OpV.lss rfl rfl) ?_
   refine WL.nil (En.next ?_)
   refine WC.cond rfl ?_ ?_
   ·
    intro hc_2
    replace zh0 := ifO_t hc_2 zh0
    refine WC.skip (En.next (WC.seq (WC.block ?_)))
    obtain ⟨x7_4, e7_4, zh0⟩ := bnd zh0
    refine WC.region ?_
    refine sp (OpV.fieldAddr rfl fo_107_2) ?_
    refine sp (OpV.loadBox rfl pt_23 mq1 rfl) ?_
    refine mv ?_
    refine WL.heavy rfl rfl rfl (OpH.litF (A := tInt) (xs := [p_p2]) tInt_flat (evps.cons rfl (evps.nil)) (bs_23_1_0 _) rfl rfl (Nat.le_of_ble_eq_true rfl) ?_)
    intro b7_3
    refine WL.heavy rfl rfl rfl (OpH.appS (F := [_, _, _]) (A := tInt) tInt_flat rfl rfl rfl mi_23 rfl (by decide) (fun w hs => (Ow.rd (hs.mem mq0))) e7_4 ?_)
    intro f7_4 a7_4 c7_4
    refine sp (OpV.fieldAddr rfl fo_107_2) ?_
    refine WL.heavy0 rfl rfl (OpH.storeTo (A := [_, _]) [_, _, _] rfl rfl rfl ts_23 rfl rfl rfl ?_)
    refine WL.nil (En.block_norm (En.next (WC.region ?_)))
    refine mv ?_
    refine sp (OpV.addR rfl rfl) ?_
    refine ag ?_
    refine WL.nil ?_
    exact En.backP zb0 zh0 (a7_4, x7_4.length, c7_4, f7_4) (sc (sc (sc (sc (sc (sc sn)))))) (fun _ h => ((((h).pm 3).pm 3).pm 3).sub (.cons_cons _ (.cons_cons _ (.cons_cons _ (.cons _ (.slnil))))))
   ·
    intro hc_2
    replace zh0 := ifO_f hc_2 zh0
    refine WC.exit (En.then_exit (En.then_exit ?_))
    have hx := exitP ze0 zh0
    exact En.wk _ _ (sc (sc sn)) (fun _ h => h) (zK0_0 (i_0, (ai_0, ni_0, ci_0, fi_0)) hx.symm)

theorem w_spec_l02Rect {c_p0 : L01CurT} {r : RectT × L01CurT} {b0 : Nat} {q0_0 : Option Addr} {l0_0 k0_0 : Nat} (h : spec_l02Rect c_p0 = some r) {w0 w : World} {C : List Chunk} (hs0 : St w0 (Chunk.box b0 128 [.slice q0_0 l0_0 k0_0, .int .i64 c_p0.i, .int .i64 c_p0.h] :: C) w) (r0_0 : ∀ w, St w0 C w → Rd tU8 w q0_0 l0_0 k0_0 c_p0.b) :
    Calls Tryz.prog 129 #[.pointer (some ⟨b0, 0, .none⟩)] w (fun en w' => ∃ rv G, en = .returned rv ∧ (rv = .agg #[.int .i64 r.1.X, .int .i64 r.1.Y, .int .i64 r.1.W, .int .i64 r.1.H] ∧ G = Chunk.box b0 128 [.slice q0_0 l0_0 k0_0, .int .i64 r.2.i, .int .i64 r.2.h] :: C) ∧ St w0 G w') := by
 obtain rfl := (r0_0 _ (St.tl (F := [_]) hs0)).1
 unfold spec_l02Rect at h
 refine enterF hs0 (vs := [_]) Tryz.func129 rfl rfl rfl rfl ?_
 refine WC.sr ?_
 refine WL.heavy rfl rfl rfl (OpH.alloc zc_144 ?_)
 intro b0_0
 refine WL.nil (En.next (WC.seq ?_))
 obtain ⟨⟨x1_1a, x1_1b⟩, e1_1, h⟩ := bnd h
 obtain ⟨⟨x1_4a, x1_4b⟩, e1_4, h⟩ := bnd h
 obtain ⟨⟨x1_7a, x1_7b⟩, e1_7, h⟩ := bnd h
 obtain ⟨⟨x1_9a, x1_9b⟩, e1_9, h⟩ := bnd h
 refine WC.region ?_
 refine mv ?_
 refine WL.wkF (fun _ h => h.pm 1) ?_
 refine WL.heavy rfl rfl rfl (OpH.callX (ec rfl (ec rfl e0)) ca_105 (fun w hs => w_spec_l01Below e1_1 hs (fun w hs => (r0_0 _ (St.tl (F := [_]) hs)))) ?_)
 rintro _ _ ⟨rfl, rfl⟩
 refine sp (OpV.subR rfl rfl) ?_
 refine mv ?_
 refine WL.heavy rfl rfl rfl (OpH.callX (ec rfl (ec rfl e0)) ca_105 (fun w hs => w_spec_l01Below e1_4 hs (fun w hs => (r0_0 _ (St.tl (F := [_]) hs)))) ?_)
 rintro _ _ ⟨rfl, rfl⟩
 refine sp (OpV.subR rfl rfl) ?_
 refine mv ?_
 refine WL.heavy rfl rfl rfl (OpH.callX (ec rfl (ec rfl e0)) ca_105 (fun w hs => w_spec_l01Below e1_7 hs (fun w hs => (r0_0 _ (St.tl (F := [_]) hs)))) ?_)
 rintro _ _ ⟨rfl, rfl⟩
 refine mv ?_
 refine WL.heavy rfl rfl rfl (OpH.callX (ec rfl (ec rfl e0)) ca_105 (fun w hs => w_spec_l01Below e1_9 hs (fun w hs => (r0_0 _ (St.tl (F := [_]) hs)))) ?_)
 rintro _ _ ⟨rfl, rfl⟩
 refine sp (OpV.build (evps.cons rfl (evps.cons rfl (evps.cons rfl (evps.cons rfl (evps.nil))))) (bd_144_0_1_2_3 _ _ _ _)) ?_
 refine WL.heavy0 rfl rfl (OpH.storeTo (A := [_]) [_, _, _, _] rfl rfl rfl ts_144 rfl rfl rfl ?_)
 refine WL.nil (En.next (WC.ret ?_))
 refine En.ret1 rfl (Res.cell rfl mq1 ag_144) ?_
 obtain rfl := Option.some.inj h
 intro w' hs
 have hs := (hs).sub (.cons_cons _ (.cons _ (List.Sublist.refl _)))
 exact ⟨_, _, rfl, ⟨rfl, rfl⟩, hs⟩

theorem w_spec_l05Copy {i_p0 : ImageT} {r : ImageT} {q0_0 : Option Addr} {l0_0 k0_0 : Nat} (h : spec_l05Copy i_p0 = some r) {w : World} (r0_0 : Rd tInt w q0_0 l0_0 k0_0 i_p0.Data)   :
    Calls Tryz.prog 146 #[.agg #[.int .i64 i_p0.W, .int .i64 i_p0.H, .slice q0_0 l0_0 k0_0]] w (fun en w' => ∃ rv G, en = .returned rv ∧ (∃ (a0_0 : Option Addr) (n0_0 : Nat) (c0_0 : Nat) (f0_0 : List Nat), rv = .agg #[.int .i64 r.W, .int .i64 r.H, .slice a0_0 n0_0 c0_0] ∧ G = [Chunk.own tInt f0_0 a0_0 n0_0 c0_0 r.Data]) ∧ St w G w') := by
 obtain rfl := r0_0.1
 unfold spec_l05Copy at h
 refine enter (vs := [_]) Tryz.func146 rfl rfl rfl rfl ?_
 refine WC.sr ?_
 refine WL.heavy rfl rfl rfl (OpH.box rfl rfl ?_)
 intro b0_0
 refine WL.heavy rfl rfl rfl (OpH.alloc zc_107 ?_)
 intro b0_1
 refine WL.nil (En.next (WC.seq ?_))
 obtain ⟨x1_7, e1_7, h⟩ := bnd h
 refine WC.drawnH [_] ([_]) (fun _ h => h) (by kernel_rfl) ?_
 refine tk 0 rfl (OpV.fieldAddr rfl fo_107_0) ?_
 refine tk 1 rfl (OpV.loadBox rfl pt_3 mq0 rfl) ?_
 refine tk 2 rfl (OpV.fieldAddr rfl fo_107_1) ?_
 refine tk 3 rfl (OpV.loadBox rfl pt_3 mq0 rfl) ?_
 refine tk 5 rfl (OpV.fieldAddr rfl fo_107_2) ?_
 refine tk 6 rfl (OpV.loadBox rfl pt_23 mq0 rfl) ?_
 refine al1 4 rfl ?_
 refine OpH.lit0 (A := tInt) (evps.nil) bs_23_0_ ?_
 intro b1_4
 refine ⟨[_, _], rfl, ?_⟩
 refine al1 7 rfl ?_
 refine OpH.appS (F := []) (A := tInt) tInt_flat rfl rfl rfl mi_23 rfl (by decide) (fun w hs => (r0_0.ext hs.below)) e1_7 ?_
 intro f1_7 a1_7 c1_7
 refine ⟨[_, _], rfl, ?_⟩
 refine tk 8 rfl (OpV.build (evps.cons rfl (evps.cons rfl (evps.cons rfl (evps.nil)))) (bd_107_0_1_2 _ _ _ _ _)) ?_
 refine al0 9 rfl ?_
 refine OpH.storeTo (A := [_]) [_, _, _] rfl rfl rfl ts_107 rfl rfl rfl ?_
 refine ⟨[_, _], rfl, ?_⟩
 refine WAE.rebase (H := []) ?_
 refine WAE.done (by kernel_rfl) ?_ _
 refine En.next (WC.ret ?_)
 refine En.ret1 rfl (Res.cell rfl mq1 ag_107) ?_
 obtain rfl := Option.some.inj h
 intro w' hs
 have hs := (hs).sub (.cons_cons _ (.cons _ (.cons _ (.slnil))))
 exact ⟨_, _, rfl, ⟨a1_7, x1_7.length, c1_7, f1_7, rfl, rfl⟩, hs⟩

theorem w_spec_ImageOk {i_p0 : ImageT} {r : Bool} {q0_0 : Option Addr} {l0_0 k0_0 : Nat} (h : spec_ImageOk i_p0 = some r) {w : World} (r0_0 : Rd tInt w q0_0 l0_0 k0_0 i_p0.Data)   :
    Calls Tryz.prog 133 #[.agg #[.int .i64 i_p0.W, .int .i64 i_p0.H, .slice q0_0 l0_0 k0_0]] w (fun en w' => en = .returned (.bool r) ∧ Ext w w') := by
 obtain rfl := r0_0.1
 unfold spec_ImageOk at h
 refine enter (vs := [_]) Tryz.func133 rfl rfl rfl rfl ?_
 refine WC.sr ?_
 refine WL.heavy rfl rfl rfl (OpH.box rfl rfl ?_)
 intro b0_0
 refine ag ?_
 refine WL.nil (En.next (WC.seq (WC.seq ?_)))
 obtain ⟨x1_2, e1_2, h⟩ := bnd h
 obtain ⟨q1_9, e1_9, h⟩ := bnd h
 refine WC.region ?_
 refine sp (OpV.fieldAddr rfl fo_107_0) ?_
 refine sp (OpV.loadBox rfl pt_3 mq0 rfl) ?_
 refine sp (OpV.call (ec rfl (ec rfl (ec rfl e0))) ca_64 (fun w hs => w_spec_l01In e1_2)) ?_
 refine sp (OpV.not rfl) ?_
 refine mv ?_
 refine Lt.ofWL.orQ 8 13 12 (p := ?pz1) (rest := ?qz1) (B := q1_9) rfl (fun hz => orO_t e1_9 hz) ?Tz1 ?Fz1 ?az1 ?bz1 ?cz1 ?dz1 ?ez1
 case Tz1 =>
  intro hcz1 hkz1
  refine sk ?_
  refine sk ?_
  refine sk ?_
  refine sk ?_
  refine hkz1 _ ?_
  repeat (first | exact Sub.refl _ | refine Sub.skip rfl ?_)
 case Fz1 =>
  intro hcz1 hkz1
  have hqz1 := orO_f e1_9 hcz1
  obtain ⟨x1_7, e1_7, hqz1⟩ := bnd hqz1
  obtain rfl := Option.some.inj hqz1
  refine sp (OpV.fieldAddr rfl fo_107_1) ?_
  refine sp (OpV.loadBox rfl pt_3 mq0 rfl) ?_
  refine sp (OpV.call (ec rfl (ec rfl (ec rfl e0))) ca_64 (fun w hs => w_spec_l01In e1_7)) ?_
  refine sp (OpV.not rfl) ?_
  refine hkz1 _ ?_ ?_
  exact rfl
  repeat (first | exact Sub.refl _ | refine Sub.skip rfl ?_)
 case az1 => exact rfl
 case bz1 => exact rfl
 case cz1 => exact rfl
 case dz1 => exact rfl
 refine mv ?_
 refine Lt.ofWL.or 14 24 23 (p := ?pz2) (rest := ?qz2) (B := ?Bz2) rfl ?Tz2 ?Fz2 ?az2 ?bz2 ?cz2 ?dz2 ?ez2
 case Tz2 =>
  intro hcz2 hkz2
  refine sk ?_
  refine sk ?_
  refine sk ?_
  refine sk ?_
  refine sk ?_
  refine sk ?_
  refine sk ?_
  refine sk ?_
  refine sk ?_
  refine hkz2 _ ?_
  repeat (first | exact Sub.refl _ | refine Sub.skip rfl ?_)
 case Fz2 =>
  intro hcz2 hkz2
  refine sp (OpV.fieldAddr rfl fo_107_2) ?_
  refine sp (OpV.loadBox rfl pt_23 mq0 rfl) ?_
  refine sp (OpV.len rfl si_23 rfl) ?_
  refine sp (OpV.fieldAddr rfl fo_107_0) ?_
  refine sp (OpV.loadBox rfl pt_3 mq0 rfl) ?_
  refine sp (OpV.fieldAddr rfl fo_107_1) ?_
  refine sp (OpV.loadBox rfl pt_3 mq0 rfl) ?_
  refine sp (OpV.mulR rfl rfl) ?_
  refine sp (OpV.neq rfl rfl) ?_
  refine hkz2 _ ?_ ?_
  exact rfl
  repeat (first | exact Sub.refl _ | refine Sub.skip rfl ?_)
 case az2 => exact rfl
 case bz2 => exact rfl
 case cz2 => exact rfl
 case dz2 => exact rfl
 refine WL.nil (En.next ?_)
 refine WC.cond rfl ?_ ?_
 ·
  intro hc_1
  replace h := ifO_t hc_1 h
  refine WC.sr ?_
  refine ag ?_
  refine WL.nil (En.next (WC.ret (En.then_ret ?_)))
  refine En.ret1 rfl (Res.tmp rfl) ?_
  obtain rfl := Option.some.inj h
  intro w' hs
  exact ⟨rfl, hs.below⟩
 ·
  intro hc_1
  replace h := ifO_f hc_1 h
  refine WC.skip (En.next (WC.seq (WC.sr ?_)))
  refine ag ?_
  refine WL.nil (En.next (WC.block ?_))
  obtain ⟨zy0, ezy0, h⟩ := bnd h
  refine WC.cut (X := (Unit) × (Unit)) (.exit 0) (fun x => zy0 = .inl x.1) (fun x => match x with | ((), ()) => []) (fun x => match x with | ((), ()) => []) ?_ ?_
  ·
   rintro ⟨⟨⟩, ⟨⟩⟩ hx
   replace hx : .inl () = zy0 := hx.symm
   subst hx
   replace h := fork_l h
   show En _ _ _ _ [] []
   refine En.block_exit (En.next (WC.sr ?_))
   refine ag ?_
   refine WL.nil (En.next (WC.ret ?_))
   refine En.ret1 rfl (Res.tmp rfl) ?_
   obtain rfl := Option.some.inj h
   intro w' hs
   exact ⟨rfl, hs.below⟩
  ·
   intro zK0_0
   refine WC.loopP (G := Unit) (fun s g => match s, g with | k_0, () => [(1, .pointer (some ⟨b0_0, 0, .none⟩)), (3, .int .i64 k_0)]) (fun s g => match s, g with | k_0, () => [Chunk.box b0_0 107 [.int .i64 i_p0.W, .int .i64 i_p0.H, .slice q0_0 i_p0.Data.length k0_0]]) 0 () ezy0 (by exact sc (sc sn)) (by exact (fun _ h => h)) ?_
   rintro zm0 k_0 ⟨⟩ zo0 zf0 zb0 ze0
   have zh0 : spec_ImageOk_L0 i_p0 k_0 = some zo0 := zf0
   unfold spec_ImageOk_L0 at zh0
   show WC _ _ _ _ _ [(1, .pointer (some ⟨b0_0, 0, .none⟩)), (3, .int .i64 k_0)] [Chunk.box b0_0 107 [.int .i64 i_p0.W, .int .i64 i_p0.H, .slice q0_0 i_p0.Data.length k0_0]]
   refine WC.seq (WC.sr ?_)
   refine mv ?_
   refine sp (OpV.fieldAddr rfl fo_107_2) ?_
   refine sp (OpV.loadBox rfl pt_23 mq0 rfl) ?_
   refine sp (OpV.len rfl si_23 rfl) ?_
   refine sp (OpV.lss rfl rfl) ?_
   refine WL.nil (En.next ?_)
   refine WC.cond rfl ?_ ?_
   ·
    intro hc_2
    replace zh0 := ifO_t hc_2 zh0
    refine WC.skip (En.next (WC.seq (WC.block (WC.seq ?_))))
    obtain ⟨x6_3, e6_3, zh0⟩ := bnd zh0
    obtain ⟨g6_3, o6_3, _, ha6_3, rfl, hd6_3⟩ := Rd.atIdx r0_0 e6_3
    replace hd6_3 : ∀ (j : Nat) v, ([.int .i64 x6_3] : List Value)[j]? = some v → w.cell? ⟨g6_3, o6_3 + k_0.toNat * 1 + j, .none⟩ = some v := hd6_3
    obtain ⟨x6_5, e6_5, zh0⟩ := bnd zh0
    refine WC.region ?_
    refine sp (OpV.fieldAddr rfl fo_107_2) ?_
    refine sp (OpV.loadBox rfl pt_23 mq0 rfl) ?_
    refine mv ?_
    refine sp (OpV.idxA rfl rfl se_23 ha6_3 ⟨(idx_some e6_3).1, (idx_some e6_3).2.1⟩) ?_
    refine sp (OpV.load1 rfl pt_3 (fun w hs => hs.cell (hd6_3 0 _ rfl))) ?_
    refine sp (OpV.call (ec rfl e0) ca_118 (fun w hs => w_spec_l04Pixel e6_5)) ?_
    refine sp (OpV.not rfl) ?_
    refine WL.nil (En.next ?_)
    refine WC.cond rfl ?_ ?_
    ·
     intro hc_3
     replace zh0 := ifO_t hc_3 zh0
     refine WC.sr ?_
     refine ag ?_
     refine WL.nil (En.next (WC.ret (En.block_ret (En.then_ret (En.then_ret (En.block_ret (En.then_ret ?_)))))))
     refine En.ret1 rfl (Res.tmp rfl) ?_
     have hx := exitP ze0 zh0
     subst hx
     replace h := fork_r h
     obtain rfl := Option.some.inj h
     intro w' hs
     exact ⟨rfl, hs.below⟩
    ·
     intro hc_3
     replace zh0 := ifO_f hc_3 zh0
     refine WC.skip (En.block_norm (En.next (WC.region ?_)))
     refine mv ?_
     refine sp (OpV.addR rfl rfl) ?_
     refine ag ?_
     refine WL.nil ?_
     exact En.backP zb0 zh0 () (sc (sc sn)) (fun _ h => h)
   ·
    intro hc_2
    replace zh0 := ifO_f hc_2 zh0
    refine WC.exit (En.then_exit (En.then_exit ?_))
    have hx := exitP ze0 zh0
    exact En.wk _ _ sn (fun _ h => (h).sub (.cons _ (.slnil))) (zK0_0 ((), ()) hx.symm)

theorem w_spec_RectOk {r_p0 : RectT} {r : Bool}  (h : spec_RectOk r_p0 = some r) {w : World}    :
    Calls Tryz.prog 147 #[.agg #[.int .i64 r_p0.X, .int .i64 r_p0.Y, .int .i64 r_p0.W, .int .i64 r_p0.H]] w (fun en w' => en = .returned (.bool r) ∧ Ext w w') := by
 unfold spec_RectOk at h
 refine enter (vs := [_]) Tryz.func147 rfl rfl rfl rfl ?_
 refine WC.sr ?_
 refine WL.heavy rfl rfl rfl (OpH.box rfl rfl ?_)
 intro b0_0
 refine ag ?_
 refine WL.nil (En.next (WC.seq ?_))
 obtain ⟨x1_2, e1_2, h⟩ := bnd h
 obtain ⟨q1_7, e1_7, h⟩ := bnd h
 obtain ⟨q1_12, e1_12, h⟩ := bnd h
 obtain ⟨q1_17, e1_17, h⟩ := bnd h
 refine WC.region ?_
 refine sp (OpV.fieldAddr rfl fo_144_0) ?_
 refine sp (OpV.loadBox rfl pt_3 mq0 rfl) ?_
 refine sp (OpV.call (ec rfl (ec rfl (ec rfl e0))) ca_64 (fun w hs => w_spec_l01In e1_2)) ?_
 refine mv ?_
 refine Lt.ofWL.andQ 6 10 9 (p := ?pz1) (rest := ?qz1) (B := q1_7) rfl (fun hz => andO_f e1_7 hz) ?Tz1 ?Fz1 ?az1 ?bz1 ?cz1 ?dz1 ?ez1
 case Tz1 =>
  intro hcz1 hkz1
  have hqz1 := andO_t e1_7 hcz1
  obtain ⟨x1_6, e1_6, hqz1⟩ := bnd hqz1
  obtain rfl := Option.some.inj hqz1
  refine sp (OpV.fieldAddr rfl fo_144_1) ?_
  refine sp (OpV.loadBox rfl pt_3 mq0 rfl) ?_
  refine sp (OpV.call (ec rfl (ec rfl (ec rfl e0))) ca_64 (fun w hs => w_spec_l01In e1_6)) ?_
  refine hkz1 _ ?_ ?_
  exact rfl
  repeat (first | exact Sub.refl _ | refine Sub.skip rfl ?_)
 case Fz1 =>
  intro hcz1 hkz1
  refine sk ?_
  refine sk ?_
  refine sk ?_
  refine hkz1 _ ?_
  repeat (first | exact Sub.refl _ | refine Sub.skip rfl ?_)
 case az1 => exact rfl
 case bz1 => exact rfl
 case cz1 => exact rfl
 case dz1 => exact rfl
 refine mv ?_
 refine Lt.ofWL.andQ 11 15 14 (p := ?pz2) (rest := ?qz2) (B := q1_12) rfl (fun hz => andO_f e1_12 hz) ?Tz2 ?Fz2 ?az2 ?bz2 ?cz2 ?dz2 ?ez2
 case Tz2 =>
  intro hcz2 hkz2
  have hqz2 := andO_t e1_12 hcz2
  obtain ⟨x1_11, e1_11, hqz2⟩ := bnd hqz2
  obtain rfl := Option.some.inj hqz2
  refine sp (OpV.fieldAddr rfl fo_144_2) ?_
  refine sp (OpV.loadBox rfl pt_3 mq0 rfl) ?_
  refine sp (OpV.call (ec rfl (ec rfl (ec rfl e0))) ca_64 (fun w hs => w_spec_l01In e1_11)) ?_
  refine hkz2 _ ?_ ?_
  exact rfl
  repeat (first | exact Sub.refl _ | refine Sub.skip rfl ?_)
 case Fz2 =>
  intro hcz2 hkz2
  refine sk ?_
  refine sk ?_
  refine sk ?_
  refine hkz2 _ ?_
  repeat (first | exact Sub.refl _ | refine Sub.skip rfl ?_)
 case az2 => exact rfl
 case bz2 => exact rfl
 case cz2 => exact rfl
 case dz2 => exact rfl
 refine mv ?_
 refine Lt.ofWL.andQ 16 20 19 (p := ?pz3) (rest := ?qz3) (B := q1_17) rfl (fun hz => andO_f e1_17 hz) ?Tz3 ?Fz3 ?az3 ?bz3 ?cz3 ?dz3 ?ez3
 case Tz3 =>
  intro hcz3 hkz3
  have hqz3 := andO_t e1_17 hcz3
  obtain ⟨x1_16, e1_16, hqz3⟩ := bnd hqz3
  obtain rfl := Option.some.inj hqz3
  refine sp (OpV.fieldAddr rfl fo_144_3) ?_
  refine sp (OpV.loadBox rfl pt_3 mq0 rfl) ?_
  refine sp (OpV.call (ec rfl (ec rfl (ec rfl e0))) ca_64 (fun w hs => w_spec_l01In e1_16)) ?_
  refine hkz3 _ ?_ ?_
  exact rfl
  repeat (first | exact Sub.refl _ | refine Sub.skip rfl ?_)
 case Fz3 =>
  intro hcz3 hkz3
  refine sk ?_
  refine sk ?_
  refine sk ?_
  refine hkz3 _ ?_
  repeat (first | exact Sub.refl _ | refine Sub.skip rfl ?_)
 case az3 => exact rfl
 case bz3 => exact rfl
 case cz3 => exact rfl
 case dz3 => exact rfl
 refine ag ?_
 refine WL.nil (En.next (WC.ret ?_))
 refine En.ret1 rfl (Res.tmp rfl) ?_
 obtain rfl := Option.some.inj h
 intro w' hs
 exact ⟨rfl, hs.below⟩

theorem w_spec_Intersect {a_p0 : RectT} {a_p1 : RectT} {r : RectT}  (h : spec_Intersect a_p0 a_p1 = some r) {w : World}    :
    Calls Tryz.prog 148 #[.agg #[.int .i64 a_p0.X, .int .i64 a_p0.Y, .int .i64 a_p0.W, .int .i64 a_p0.H], .agg #[.int .i64 a_p1.X, .int .i64 a_p1.Y, .int .i64 a_p1.W, .int .i64 a_p1.H]] w (fun en w' => en = .returned (.agg #[.int .i64 r.X, .int .i64 r.Y, .int .i64 r.W, .int .i64 r.H]) ∧ Ext w w') := by
 unfold spec_Intersect at h
 refine enter (vs := [_, _]) Tryz.func148 rfl rfl rfl rfl ?_
 refine WC.sr ?_
 refine WL.heavy rfl rfl rfl (OpH.box rfl rfl ?_)
 intro b0_0
 refine WL.heavy rfl rfl rfl (OpH.box rfl rfl ?_)
 intro b0_1
 refine WL.heavy rfl rfl rfl (OpH.alloc zc_144 ?_)
 intro b0_2
 refine WL.nil (En.next (WC.seq (WC.seq ?_)))
 obtain ⟨x1_1, e1_1, h⟩ := bnd h
 obtain ⟨q1_7, e1_7, h⟩ := bnd h
 refine WC.region ?_
 refine sp (OpV.loadAll rfl mq2 ag_144) ?_
 refine sp (OpV.call (ec rfl e0) ca_147 (fun w hs => w_spec_RectOk e1_1)) ?_
 refine sp (OpV.not rfl) ?_
 refine mv ?_
 refine Lt.ofWL.orQ 12 16 15 (p := ?pz1) (rest := ?qz1) (B := q1_7) rfl (fun hz => orO_t e1_7 hz) ?Tz1 ?Fz1 ?az1 ?bz1 ?cz1 ?dz1 ?ez1
 case Tz1 =>
  intro hcz1 hkz1
  refine sk ?_
  refine sk ?_
  refine sk ?_
  refine hkz1 _ ?_
  repeat (first | exact Sub.refl _ | refine Sub.skip rfl ?_)
 case Fz1 =>
  intro hcz1 hkz1
  have hqz1 := orO_f e1_7 hcz1
  obtain ⟨x1_5, e1_5, hqz1⟩ := bnd hqz1
  obtain rfl := Option.some.inj hqz1
  refine sp (OpV.loadAll rfl mq1 ag_144) ?_
  refine sp (OpV.call (ec rfl e0) ca_147 (fun w hs => w_spec_RectOk e1_5)) ?_
  refine sp (OpV.not rfl) ?_
  refine hkz1 _ ?_ ?_
  exact rfl
  repeat (first | exact Sub.refl _ | refine Sub.skip rfl ?_)
 case az1 => exact rfl
 case bz1 => exact rfl
 case cz1 => exact rfl
 case dz1 => exact rfl
 refine WL.nil (En.next ?_)
 refine WC.cond rfl ?_ ?_
 ·
  intro hc_1
  replace h := ifO_t hc_1 h
  refine WC.sr ?_
  refine sp (OpV.build (evps.nil) bd_144_) ?_
  refine WL.heavy0 rfl rfl (OpH.storeTo (A := []) [_, _, _, _] rfl rfl rfl ts_144 rfl rfl rfl ?_)
  refine WL.nil (En.next (WC.ret (En.then_ret ?_)))
  refine En.ret1 rfl (Res.cell rfl mq0 ag_144) ?_
  obtain rfl := Option.some.inj h
  intro w' hs
  exact ⟨rfl, hs.below⟩
 ·
  intro hc_1
  replace h := ifO_f hc_1 h
  refine WC.skip (En.next (WC.sr ?_))
  refine sp (OpV.fieldAddr rfl fo_144_0) ?_
  refine sp (OpV.loadBox rfl pt_3 mq2 rfl) ?_
  refine sp (OpV.fieldAddr rfl fo_144_0) ?_
  refine sp (OpV.loadBox rfl pt_3 mq1 rfl) ?_
  refine sp (OpV.max2 rfl rfl) ?_
  refine ag ?_
  refine WL.nil (En.next (WC.sr ?_))
  refine sp (OpV.fieldAddr rfl fo_144_1) ?_
  refine sp (OpV.loadBox rfl pt_3 mq2 rfl) ?_
  refine sp (OpV.fieldAddr rfl fo_144_1) ?_
  refine sp (OpV.loadBox rfl pt_3 mq1 rfl) ?_
  refine sp (OpV.max2 rfl rfl) ?_
  refine ag ?_
  refine WL.nil (En.next (WC.sr ?_))
  refine sp (OpV.fieldAddr rfl fo_144_0) ?_
  refine sp (OpV.loadBox rfl pt_3 mq2 rfl) ?_
  refine sp (OpV.fieldAddr rfl fo_144_2) ?_
  refine sp (OpV.loadBox rfl pt_3 mq2 rfl) ?_
  refine sp (OpV.addR rfl rfl) ?_
  refine sp (OpV.fieldAddr rfl fo_144_0) ?_
  refine sp (OpV.loadBox rfl pt_3 mq1 rfl) ?_
  refine sp (OpV.fieldAddr rfl fo_144_2) ?_
  refine sp (OpV.loadBox rfl pt_3 mq1 rfl) ?_
  refine sp (OpV.addR rfl rfl) ?_
  refine sp (OpV.min2 rfl rfl) ?_
  refine mv ?_
  refine sp (OpV.subR rfl rfl) ?_
  refine ag ?_
  refine WL.nil (En.next (WC.sr ?_))
  refine sp (OpV.fieldAddr rfl fo_144_1) ?_
  refine sp (OpV.loadBox rfl pt_3 mq2 rfl) ?_
  refine sp (OpV.fieldAddr rfl fo_144_3) ?_
  refine sp (OpV.loadBox rfl pt_3 mq2 rfl) ?_
  refine sp (OpV.addR rfl rfl) ?_
  refine sp (OpV.fieldAddr rfl fo_144_1) ?_
  refine sp (OpV.loadBox rfl pt_3 mq1 rfl) ?_
  refine sp (OpV.fieldAddr rfl fo_144_3) ?_
  refine sp (OpV.loadBox rfl pt_3 mq1 rfl) ?_
  refine sp (OpV.addR rfl rfl) ?_
  refine sp (OpV.min2 rfl rfl) ?_
  refine mv ?_
  refine sp (OpV.subR rfl rfl) ?_
  refine ag ?_
  refine WL.nil (En.next (WC.seq (WC.sr ?_)))
  refine mv ?_
  refine sp (OpV.leq rfl rfl) ?_
  refine mv ?_
  refine Lt.ofWL.or 56 59 58 (p := ?pz2) (rest := ?qz2) (B := ?Bz2) rfl ?Tz2 ?Fz2 ?az2 ?bz2 ?cz2 ?dz2 ?ez2
  case Tz2 =>
   intro hcz2 hkz2
   refine sk ?_
   refine sk ?_
   refine hkz2 _ ?_
   repeat (first | exact Sub.refl _ | refine Sub.skip rfl ?_)
  case Fz2 =>
   intro hcz2 hkz2
   refine mv ?_
   refine sp (OpV.leq rfl rfl) ?_
   refine hkz2 _ ?_ ?_
   exact rfl
   repeat (first | exact Sub.refl _ | refine Sub.skip rfl ?_)
  case az2 => exact rfl
  case bz2 => exact rfl
  case cz2 => exact rfl
  case dz2 => exact rfl
  refine WL.nil (En.next ?_)
  refine WC.cond rfl ?_ ?_
  ·
   intro hc_2
   replace h := ifO_t hc_2 h
   refine WC.sr ?_
   refine sp (OpV.build (evps.nil) bd_144_) ?_
   refine WL.heavy0 rfl rfl (OpH.storeTo (A := []) [_, _, _, _] rfl rfl rfl ts_144 rfl rfl rfl ?_)
   refine WL.nil (En.next (WC.ret (En.then_ret ?_)))
   refine En.ret1 rfl (Res.cell rfl mq0 ag_144) ?_
   obtain rfl := Option.some.inj h
   intro w' hs
   exact ⟨rfl, hs.below⟩
  ·
   intro hc_2
   replace h := ifO_f hc_2 h
   refine WC.skip (En.next (WC.sr ?_))
   refine mv ?_
   refine mv ?_
   refine mv ?_
   refine mv ?_
   refine sp (OpV.build (evps.cons rfl (evps.cons rfl (evps.cons rfl (evps.cons rfl (evps.nil))))) (bd_144_0_1_2_3 _ _ _ _)) ?_
   refine WL.heavy0 rfl rfl (OpH.storeTo (A := []) [_, _, _, _] rfl rfl rfl ts_144 rfl rfl rfl ?_)
   refine WL.nil (En.next (WC.ret ?_))
   refine En.ret1 rfl (Res.cell rfl mq0 ag_144) ?_
   obtain rfl := Option.some.inj h
   intro w' hs
   exact ⟨rfl, hs.below⟩

theorem w_spec_FillRect {a_p0 : ImageT} {a_p1 : RectT} {a_p2 : Int} {r : ImageT} {q0_0 : Option Addr} {l0_0 k0_0 : Nat} (h : spec_FillRect a_p0 a_p1 a_p2 = some r) {w : World} (r0_0 : Rd tInt w q0_0 l0_0 k0_0 a_p0.Data)   :
    Calls Tryz.prog 128 #[.agg #[.int .i64 a_p0.W, .int .i64 a_p0.H, .slice q0_0 l0_0 k0_0], .agg #[.int .i64 a_p1.X, .int .i64 a_p1.Y, .int .i64 a_p1.W, .int .i64 a_p1.H], .int .i64 a_p2] w (fun en w' => ∃ rv G, en = .returned rv ∧ (∃ (a0_0 : Option Addr) (n0_0 : Nat) (c0_0 : Nat) (f0_0 : List Nat), rv = .agg #[.int .i64 r.W, .int .i64 r.H, .slice a0_0 n0_0 c0_0] ∧ G = [Chunk.own tInt f0_0 a0_0 n0_0 c0_0 r.Data]) ∧ St w G w') := by
 obtain rfl := r0_0.1
 unfold spec_FillRect at h
 refine enter (vs := [_, _, _]) Tryz.func128 rfl rfl rfl rfl ?_
 refine WC.sr ?_
 refine WL.heavy rfl rfl rfl (OpH.box rfl rfl ?_)
 intro b0_0
 refine WL.heavy rfl rfl rfl (OpH.box rfl rfl ?_)
 intro b0_1
 refine WL.heavy rfl rfl rfl (OpH.alloc zc_107 ?_)
 intro b0_2
 refine WL.nil (En.next (WC.seq ?_))
 obtain ⟨x1_1, e1_1, h⟩ := bnd h
 refine WC.region ?_
 refine sp (OpV.loadAll rfl mq2 ag_107) ?_
 refine WL.heavy rfl rfl rfl (OpH.callR (ec rfl e0) ca_146 (fun w hs => w_spec_l05Copy e1_1 (r0_0.ext hs.below)) ?_)
 rintro _ _ ⟨a1_100, n1_100, c1_100, f1_100, rfl, rfl⟩
 refine WL.heavy rfl rfl rfl (OpH.alloc zc_107 ?_)
 intro b1_2
 refine WL.heavy0 rfl rfl (OpH.storeTo (A := []) [_, _, _] rfl rfl rfl ts_107 rfl rfl rfl ?_)
 refine WL.nil (En.next (WC.seq (WC.seq ?_)))
 obtain ⟨x2_1, e2_1, h⟩ := bnd h
 obtain ⟨q2_7, e2_7, h⟩ := bnd h
 obtain ⟨q2_12, e2_12, h⟩ := bnd h
 refine WC.region ?_
 refine sp (OpV.loadAll rfl mq4 ag_107) ?_
 refine sp (OpV.call (ec rfl e0) ca_133 (fun w hs => w_spec_ImageOk e2_1 (r0_0.ext hs.below))) ?_
 refine sp (OpV.not rfl) ?_
 refine mv ?_
 refine Lt.ofWL.orQ 16 20 19 (p := ?pz1) (rest := ?qz1) (B := q2_7) rfl (fun hz => orO_t e2_7 hz) ?Tz1 ?Fz1 ?az1 ?bz1 ?cz1 ?dz1 ?ez1
 case Tz1 =>
  intro hcz1 hkz1
  refine sk ?_
  refine sk ?_
  refine sk ?_
  refine hkz1 _ ?_
  repeat (first | exact Sub.refl _ | refine Sub.skip rfl ?_)
 case Fz1 =>
  intro hcz1 hkz1
  have hqz1 := orO_f e2_7 hcz1
  obtain ⟨x2_5, e2_5, hqz1⟩ := bnd hqz1
  obtain rfl := Option.some.inj hqz1
  refine sp (OpV.loadAll rfl mq3 ag_144) ?_
  refine sp (OpV.call (ec rfl e0) ca_147 (fun w hs => w_spec_RectOk e2_5)) ?_
  refine sp (OpV.not rfl) ?_
  refine hkz1 _ ?_ ?_
  exact rfl
  repeat (first | exact Sub.refl _ | refine Sub.skip rfl ?_)
 case az1 => exact rfl
 case bz1 => exact rfl
 case cz1 => exact rfl
 case dz1 => exact rfl
 refine mv ?_
 refine Lt.ofWL.orQ 21 25 24 (p := ?pz2) (rest := ?qz2) (B := q2_12) rfl (fun hz => orO_t e2_12 hz) ?Tz2 ?Fz2 ?az2 ?bz2 ?cz2 ?dz2 ?ez2
 case Tz2 =>
  intro hcz2 hkz2
  refine sk ?_
  refine sk ?_
  refine sk ?_
  refine hkz2 _ ?_
  repeat (first | exact Sub.refl _ | refine Sub.skip rfl ?_)
 case Fz2 =>
  intro hcz2 hkz2
  have hqz2 := orO_f e2_12 hcz2
  obtain ⟨x2_10, e2_10, hqz2⟩ := bnd hqz2
  obtain rfl := Option.some.inj hqz2
  refine mv ?_
  refine sp (OpV.call (ec rfl e0) ca_118 (fun w hs => w_spec_l04Pixel e2_10)) ?_
  refine sp (OpV.not rfl) ?_
  refine hkz2 _ ?_ ?_
  exact rfl
  repeat (first | exact Sub.refl _ | refine Sub.skip rfl ?_)
 case az2 => exact rfl
 case bz2 => exact rfl
 case cz2 => exact rfl
 case dz2 => exact rfl
 refine WL.nil (En.next ?_)
 refine WC.cond rfl ?_ ?_
 ·
  intro hc_1
  replace h := ifO_t hc_1 h
  refine WC.sr ?_
  refine sp (OpV.loadAll rfl mq0 ag_107) ?_
  refine WL.heavy0 rfl rfl (OpH.storeTo (A := [_, _]) [_, _, _] rfl rfl rfl ts_107 rfl rfl rfl ?_)
  refine WL.nil (En.next (WC.ret (En.then_ret ?_)))
  refine En.ret1 rfl (Res.cell rfl mq2 ag_107) ?_
  obtain rfl := Option.some.inj h
  intro w' hs
  have hs := ((hs).pm 1).sub (.cons_cons _ (.cons _ (.cons _ (.cons _ (.cons _ (.slnil))))))
  exact ⟨_, _, rfl, ⟨a1_100, n1_100, c1_100, f1_100, rfl, rfl⟩, hs⟩
 ·
  intro hc_1
  replace h := ifO_f hc_1 h
  refine WC.skip (En.next (WC.seq ?_))
  obtain ⟨x4_6, e4_6, h⟩ := bnd h
  refine WC.region ?_
  refine sp (OpV.loadAll rfl mq3 ag_144) ?_
  refine sp (OpV.fieldAddr rfl fo_107_0) ?_
  refine sp (OpV.loadBox rfl pt_3 mq4 rfl) ?_
  refine sp (OpV.fieldAddr rfl fo_107_1) ?_
  refine sp (OpV.loadBox rfl pt_3 mq4 rfl) ?_
  refine sp (OpV.build (evps.cons rfl (evps.cons rfl (evps.nil))) (bd_144_2_3 _ _)) ?_
  refine sp (OpV.call (ec rfl (ec rfl e0)) ca_148 (fun w hs => w_spec_Intersect e4_6)) ?_
  refine WL.heavy rfl rfl rfl (OpH.alloc zc_144 ?_)
  intro b4_7
  refine WL.heavy0 rfl rfl (OpH.storeTo (A := []) [_, _, _, _] rfl rfl rfl ts_144 rfl rfl rfl ?_)
  refine WL.nil (En.next (WC.seq (WC.sr ?_)))
  refine sp (OpV.fieldAddr rfl fo_144_1) ?_
  refine sp (OpV.loadBox rfl pt_3 mq0 rfl) ?_
  refine ag ?_
  refine WL.nil (En.next (WC.block ?_))
  obtain ⟨zy0, ezy0, h⟩ := bnd h
  refine WC.cut (X := ((List Int)) × ((List Nat))) (.exit 0) (fun x => zy0 = x.1) (fun x => match x with | (x_0e, fx_0e) => [(6, .pointer (some ⟨b0_2, 0, .none⟩)), (7, .pointer (some ⟨b1_2, 0, .none⟩))]) (fun x => match x with | (x_0e, fx_0e) => [Chunk.box b0_2 107 [.int .i64 0, .int .i64 0, .slice .none 0 0], Chunk.box b1_2 107 [.int .i64 x1_1.W, .int .i64 x1_1.H, .slice a1_100 n1_100 c1_100], Chunk.own tInt fx_0e a1_100 n1_100 c1_100 x_0e]) ?_ ?_
  ·
   rintro ⟨x_0e, fx_0e⟩ hx
   replace hx : x_0e = zy0 := hx.symm
   subst hx
   show En _ _ _ _ [(6, .pointer (some ⟨b0_2, 0, .none⟩)), (7, .pointer (some ⟨b1_2, 0, .none⟩))] [Chunk.box b0_2 107 [.int .i64 0, .int .i64 0, .slice .none 0 0], Chunk.box b1_2 107 [.int .i64 x1_1.W, .int .i64 x1_1.H, .slice a1_100 n1_100 c1_100], Chunk.own tInt fx_0e a1_100 n1_100 c1_100 x_0e]
   refine En.block_exit (En.next (WC.sr ?_))
   refine sp (OpV.loadAll rfl mq1 ag_107) ?_
   refine WL.heavy0 rfl rfl (OpH.storeTo (A := []) [_, _, _] rfl rfl rfl ts_107 rfl rfl rfl ?_)
   refine WL.nil (En.next (WC.ret ?_))
   refine En.ret1 rfl (Res.cell rfl mq0 ag_107) ?_
   obtain rfl := Option.some.inj h
   intro w' hs
   have hs := ((hs).pm 2).sub (.cons_cons _ (.cons _ (.cons _ (.slnil))))
   exact ⟨_, _, rfl, ⟨a1_100, n1_100, c1_100, fx_0e, rfl, rfl⟩, hs⟩
  ·
   intro zK0_0
   refine WC.loopP (G := (List Nat)) (fun s g => match s, g with | (x_0, v_0), fx_0 => [(2, .int .i64 a_p2), (3, .pointer (some ⟨b0_0, 0, .none⟩)), (6, .pointer (some ⟨b0_2, 0, .none⟩)), (7, .pointer (some ⟨b1_2, 0, .none⟩)), (8, .pointer (some ⟨b4_7, 0, .none⟩)), (9, .int .i64 v_0)]) (fun s g => match s, g with | (x_0, v_0), fx_0 => [Chunk.box b0_0 107 [.int .i64 a_p0.W, .int .i64 a_p0.H, .slice q0_0 a_p0.Data.length k0_0], Chunk.box b0_2 107 [.int .i64 0, .int .i64 0, .slice .none 0 0], Chunk.box b1_2 107 [.int .i64 x1_1.W, .int .i64 x1_1.H, .slice a1_100 n1_100 c1_100], Chunk.own tInt fx_0 a1_100 n1_100 c1_100 x_0, Chunk.box b4_7 144 [.int .i64 x4_6.X, .int .i64 x4_6.Y, .int .i64 x4_6.W, .int .i64 x4_6.H]]) (x1_1.Data, x4_6.Y) f1_100 ezy0 (by exact sc (sc (sc (sc (sc (sc sn)))))) (by exact (fun _ h => (((((h).pm 2).pm 2).pm 3).pm 5).sub (.cons_cons _ (.cons_cons _ (.cons_cons _ (.cons_cons _ (.cons_cons _ (.cons _ (.slnil))))))))) ?_
   rintro zm0 ⟨x_0, v_0⟩ fx_0 zo0 zf0 zb0 ze0
   have zh0 : spec_FillRect_L0 a_p0 a_p2 x4_6 x_0 v_0 = some zo0 := zf0
   unfold spec_FillRect_L0 at zh0
   show WC _ _ _ _ _ [(2, .int .i64 a_p2), (3, .pointer (some ⟨b0_0, 0, .none⟩)), (6, .pointer (some ⟨b0_2, 0, .none⟩)), (7, .pointer (some ⟨b1_2, 0, .none⟩)), (8, .pointer (some ⟨b4_7, 0, .none⟩)), (9, .int .i64 v_0)] [Chunk.box b0_0 107 [.int .i64 a_p0.W, .int .i64 a_p0.H, .slice q0_0 a_p0.Data.length k0_0], Chunk.box b0_2 107 [.int .i64 0, .int .i64 0, .slice .none 0 0], Chunk.box b1_2 107 [.int .i64 x1_1.W, .int .i64 x1_1.H, .slice a1_100 n1_100 c1_100], Chunk.own tInt fx_0 a1_100 n1_100 c1_100 x_0, Chunk.box b4_7 144 [.int .i64 x4_6.X, .int .i64 x4_6.Y, .int .i64 x4_6.W, .int .i64 x4_6.H]]
   refine WC.seq (WC.sr ?_)
   refine mv ?_
   refine sp (OpV.fieldAddr rfl fo_144_1) ?_
   refine sp (OpV.loadBox rfl pt_3 mq4 rfl) ?_
   refine sp (OpV.fieldAddr rfl fo_144_3) ?_
   refine sp (OpV.loadBox rfl pt_3 mq4 rfl) ?_
   refine sp (OpV.addR rfl rfl) ?_
   refine sp (OpV.lss rfl rfl) ?_
   refine WL.nil (En.next ?_)
   refine WC.cond rfl ?_ ?_
   ·
    intro hc_2
    replace zh0 := ifO_t hc_2 zh0
    refine WC.skip (En.next (WC.seq (WC.block (WC.sr ?_))))
    refine sp (OpV.fieldAddr rfl fo_144_0) ?_
    refine sp (OpV.loadBox rfl pt_3 mq4 rfl) ?_
    refine ag ?_
    refine WL.nil (En.next (WC.block ?_))
    obtain ⟨zy1, ezy1, zh0⟩ := bnd zh0
    refine WC.cut (X := ((List Int)) × ((List Nat))) (.exit 2) (fun x => zy1 = x.1) (fun x => match x with | (x_1e, fx_1e) => [(2, .int .i64 a_p2), (3, .pointer (some ⟨b0_0, 0, .none⟩)), (6, .pointer (some ⟨b0_2, 0, .none⟩)), (7, .pointer (some ⟨b1_2, 0, .none⟩)), (8, .pointer (some ⟨b4_7, 0, .none⟩)), (9, .int .i64 v_0)]) (fun x => match x with | (x_1e, fx_1e) => [Chunk.box b0_0 107 [.int .i64 a_p0.W, .int .i64 a_p0.H, .slice q0_0 a_p0.Data.length k0_0], Chunk.box b0_2 107 [.int .i64 0, .int .i64 0, .slice .none 0 0], Chunk.box b1_2 107 [.int .i64 x1_1.W, .int .i64 x1_1.H, .slice a1_100 n1_100 c1_100], Chunk.own tInt fx_1e a1_100 n1_100 c1_100 x_1e, Chunk.box b4_7 144 [.int .i64 x4_6.X, .int .i64 x4_6.Y, .int .i64 x4_6.W, .int .i64 x4_6.H]]) ?_ ?_
    ·
     rintro ⟨x_1e, fx_1e⟩ hx
     replace hx : x_1e = zy1 := hx.symm
     subst hx
     show En _ _ _ _ [(2, .int .i64 a_p2), (3, .pointer (some ⟨b0_0, 0, .none⟩)), (6, .pointer (some ⟨b0_2, 0, .none⟩)), (7, .pointer (some ⟨b1_2, 0, .none⟩)), (8, .pointer (some ⟨b4_7, 0, .none⟩)), (9, .int .i64 v_0)] [Chunk.box b0_0 107 [.int .i64 a_p0.W, .int .i64 a_p0.H, .slice q0_0 a_p0.Data.length k0_0], Chunk.box b0_2 107 [.int .i64 0, .int .i64 0, .slice .none 0 0], Chunk.box b1_2 107 [.int .i64 x1_1.W, .int .i64 x1_1.H, .slice a1_100 n1_100 c1_100], Chunk.own tInt fx_1e a1_100 n1_100 c1_100 x_1e, Chunk.box b4_7 144 [.int .i64 x4_6.X, .int .i64 x4_6.Y, .int .i64 x4_6.W, .int .i64 x4_6.H]]
     refine En.block_exit (En.block_norm (En.next (WC.region ?_)))
     refine mv ?_
     refine sp (OpV.addR rfl rfl) ?_
     refine ag ?_
     refine WL.nil ?_
     exact En.backP zb0 zh0 fx_1e (sc (sc (sc (sc (sc (sc sn)))))) (fun _ h => h)
    ·
     intro zK1_0
     refine WC.loopP (G := (List Nat)) (fun s g => match s, g with | (x_1, v_1), fx_1 => [(2, .int .i64 a_p2), (3, .pointer (some ⟨b0_0, 0, .none⟩)), (6, .pointer (some ⟨b0_2, 0, .none⟩)), (7, .pointer (some ⟨b1_2, 0, .none⟩)), (8, .pointer (some ⟨b4_7, 0, .none⟩)), (9, .int .i64 v_0), (10, .int .i64 v_1)]) (fun s g => match s, g with | (x_1, v_1), fx_1 => [Chunk.box b0_0 107 [.int .i64 a_p0.W, .int .i64 a_p0.H, .slice q0_0 a_p0.Data.length k0_0], Chunk.box b0_2 107 [.int .i64 0, .int .i64 0, .slice .none 0 0], Chunk.box b1_2 107 [.int .i64 x1_1.W, .int .i64 x1_1.H, .slice a1_100 n1_100 c1_100], Chunk.own tInt fx_1 a1_100 n1_100 c1_100 x_1, Chunk.box b4_7 144 [.int .i64 x4_6.X, .int .i64 x4_6.Y, .int .i64 x4_6.W, .int .i64 x4_6.H]]) (x_0, x4_6.X) fx_0 ezy1 (by exact sc (sc (sc (sc (sc (sc (sc sn))))))) (by exact (fun _ h => h)) ?_
     rintro zm1 ⟨x_1, v_1⟩ fx_1 zo1 zf1 zb1 ze1
     have zh1 : spec_FillRect_L1 a_p0 a_p2 x4_6 v_0 x_1 v_1 = some zo1 := zf1
     unfold spec_FillRect_L1 at zh1
     show WC _ _ _ _ _ [(2, .int .i64 a_p2), (3, .pointer (some ⟨b0_0, 0, .none⟩)), (6, .pointer (some ⟨b0_2, 0, .none⟩)), (7, .pointer (some ⟨b1_2, 0, .none⟩)), (8, .pointer (some ⟨b4_7, 0, .none⟩)), (9, .int .i64 v_0), (10, .int .i64 v_1)] [Chunk.box b0_0 107 [.int .i64 a_p0.W, .int .i64 a_p0.H, .slice q0_0 a_p0.Data.length k0_0], Chunk.box b0_2 107 [.int .i64 0, .int .i64 0, .slice .none 0 0], Chunk.box b1_2 107 [.int .i64 x1_1.W, .int .i64 x1_1.H, .slice a1_100 n1_100 c1_100], Chunk.own tInt fx_1 a1_100 n1_100 c1_100 x_1, Chunk.box b4_7 144 [.int .i64 x4_6.X, .int .i64 x4_6.Y, .int .i64 x4_6.W, .int .i64 x4_6.H]]
     refine WC.seq (WC.sr ?_)
     refine mv ?_
     refine sp (OpV.fieldAddr rfl fo_144_0) ?_
     refine sp (OpV.loadBox rfl pt_3 mq4 rfl) ?_
     refine sp (OpV.fieldAddr rfl fo_144_2) ?_
     refine sp (OpV.loadBox rfl pt_3 mq4 rfl) ?_
     refine sp (OpV.addR rfl rfl) ?_
     refine sp (OpV.lss rfl rfl) ?_
     refine WL.nil (En.next ?_)
     refine WC.cond rfl ?_ ?_
     ·
      intro hc_3
      replace zh1 := ifO_t hc_3 zh1
      refine WC.skip (En.next (WC.seq (WC.block ?_)))
      refine WC.inh fun hin11 => ?_
      have hn11_9 := ownLen hin11 mq3
      obtain ⟨x11_10, e11_10, zh1⟩ := bnd zh1
      obtain ⟨g11_9, o11_9, ha11_9⟩ := ownAddrU hin11 mq3 e11_10
      refine WC.region ?_
      refine sp (OpV.fieldAddr rfl fo_107_2) ?_
      refine sp (OpV.loadBox rfl pt_23 mq2 rfl) ?_
      refine mv ?_
      refine sp (OpV.fieldAddr rfl fo_107_0) ?_
      refine sp (OpV.loadBox rfl pt_3 mq0 rfl) ?_
      refine sp (OpV.mulR rfl rfl) ?_
      refine mv ?_
      refine sp (OpV.addR rfl rfl) ?_
      refine mv ?_
      refine sp (OpV.idxA rfl rfl se_23 ha11_9 ⟨(upd_some e11_10).1.1, by rw [hn11_9]; exact (upd_some e11_10).1.2⟩) ?_
      refine WL.wkF (fun _ h => St.elFlat tInt_flat a_p2 h) ?_
      refine WL.wkF (fun _ h => h.pm 4) ?_
      refine WL.wkF (fun _ h => h.pm 1) ?_
      refine WL.heavy0 rfl rfl (OpH.setEl (A := tInt) ha11_9 rfl rfl rfl ts_3 e11_10 ?_)
      intro f11_10
      refine WL.nil (En.block_norm (En.next (WC.region ?_)))
      refine mv ?_
      refine sp (OpV.addR rfl rfl) ?_
      refine ag ?_
      refine WL.nil ?_
      exact En.backP zb1 zh1 f11_10 (sc (sc (sc (sc (sc (sc (sc sn))))))) (fun _ h => (((((h).pm 4).pm 1).pm 4).pm 4).pm 4)
     ·
      intro hc_3
      replace zh1 := ifO_f hc_3 zh1
      refine WC.exit (En.then_exit (En.then_exit ?_))
      have hx := exitP ze1 zh1
      exact En.wk _ _ (sc (sc (sc (sc (sc (sc sn)))))) (fun _ h => h) (zK1_0 (x_1, fx_1) hx.symm)
   ·
    intro hc_2
    replace zh0 := ifO_f hc_2 zh0
    refine WC.exit (En.then_exit (En.then_exit ?_))
    have hx := exitP ze0 zh0
    exact En.wk _ _ (sc (sc sn)) (fun _ h => ((((h).pm 3).pm 3).pm 3).sub (.cons_cons _ (.cons_cons _ (.cons_cons _ (.cons _ (.cons _ (.slnil))))))) (zK0_0 (x_0, fx_0) hx.symm)

theorem w_spec_WordCount {w_p0 : Int} {h_p1 : Int} {layout_p2 : Int} {r : Int}  (h : spec_WordCount w_p0 h_p1 layout_p2 = some r) {w : World}    :
    Calls Tryz.prog 134 #[.int .i64 w_p0, .int .i64 h_p1, .int .i64 layout_p2] w (fun en w' => en = .returned (.int .i64 r) ∧ Ext w w') := by
 unfold spec_WordCount at h
 refine enter (vs := [_, _, _]) Tryz.func134 rfl rfl rfl rfl ?_
 refine WC.sr ?_
 refine ag ?_
 refine WL.nil (En.next (WC.seq (WC.seq ?_)))
 obtain ⟨x1_1, e1_1, h⟩ := bnd h
 obtain ⟨q1_7, e1_7, h⟩ := bnd h
 refine WC.region ?_
 refine mv ?_
 refine sp (OpV.call (ec rfl (ec rfl (ec rfl e0))) ca_64 (fun w hs => w_spec_l01In e1_1)) ?_
 refine sp (OpV.not rfl) ?_
 refine mv ?_
 refine Lt.ofWL.orQ 10 14 13 (p := ?pz1) (rest := ?qz1) (B := q1_7) rfl (fun hz => orO_t e1_7 hz) ?Tz1 ?Fz1 ?az1 ?bz1 ?cz1 ?dz1 ?ez1
 case Tz1 =>
  intro hcz1 hkz1
  refine sk ?_
  refine sk ?_
  refine sk ?_
  refine hkz1 _ ?_
  repeat (first | exact Sub.refl _ | refine Sub.skip rfl ?_)
 case Fz1 =>
  intro hcz1 hkz1
  have hqz1 := orO_f e1_7 hcz1
  obtain ⟨x1_5, e1_5, hqz1⟩ := bnd hqz1
  obtain rfl := Option.some.inj hqz1
  refine mv ?_
  refine sp (OpV.call (ec rfl (ec rfl (ec rfl e0))) ca_64 (fun w hs => w_spec_l01In e1_5)) ?_
  refine sp (OpV.not rfl) ?_
  refine hkz1 _ ?_ ?_
  exact rfl
  repeat (first | exact Sub.refl _ | refine Sub.skip rfl ?_)
 case az1 => exact rfl
 case bz1 => exact rfl
 case cz1 => exact rfl
 case dz1 => exact rfl
 refine WL.nil (En.next ?_)
 refine WC.cond rfl ?_ ?_
 ·
  intro hc_1
  replace h := ifO_t hc_1 h
  refine WC.sr ?_
  refine ag ?_
  refine WL.nil (En.next (WC.ret (En.then_ret ?_)))
  refine En.ret1 rfl (Res.tmp rfl) ?_
  obtain rfl := Option.some.inj h
  intro w' hs
  exact ⟨rfl, hs.below⟩
 ·
  intro hc_1
  replace h := ifO_f hc_1 h
  refine WC.skip (En.next (WC.seq (WC.sr ?_)))
  refine mv ?_
  refine WL.nil (En.next (WC.block (WC.sr ?_)))
  refine sp (OpV.eql rfl rfl) ?_
  refine ag ?_
  refine WL.nil (En.next ?_)
  refine WC.cond rfl ?_ ?_
  ·
   intro hc_2
   replace h := ifO_t hc_2 h
   refine WC.sr ?_
   refine mv ?_
   refine mv ?_
   refine sp (OpV.mulR rfl rfl) ?_
   refine ag ?_
   refine WL.nil (En.next (WC.ret (En.block_ret (En.then_ret ?_))))
   refine En.ret1 rfl (Res.tmp rfl) ?_
   obtain rfl := Option.some.inj h
   intro w' hs
   exact ⟨rfl, hs.below⟩
  ·
   intro hc_2
   replace h := ifO_f hc_2 h
   refine WC.sr ?_
   refine sp (OpV.eql rfl rfl) ?_
   refine ag ?_
   refine WL.nil (En.next ?_)
   refine WC.cond rfl ?_ ?_
   ·
    intro hc_3
    replace h := ifO_t hc_3 h
    refine WC.sr ?_
    refine mv ?_
    refine sp (OpV.addR rfl rfl) ?_
    refine sp (OpV.quoR rfl rfl rfl) ?_
    refine sp (OpV.mulR rfl rfl) ?_
    refine mv ?_
    refine sp (OpV.addR rfl rfl) ?_
    refine sp (OpV.quoR rfl rfl rfl) ?_
    refine sp (OpV.mulR rfl rfl) ?_
    refine sp (OpV.mulR rfl rfl) ?_
    refine ag ?_
    refine WL.nil (En.next (WC.ret (En.block_ret (En.then_ret ?_))))
    refine En.ret1 rfl (Res.tmp rfl) ?_
    obtain rfl := Option.some.inj h
    intro w' hs
    exact ⟨rfl, hs.below⟩
   ·
    intro hc_3
    replace h := ifO_f hc_3 h
    refine WC.skip (En.block_norm (En.next (WC.sr ?_)))
    refine ag ?_
    refine WL.nil (En.next (WC.ret ?_))
    refine En.ret1 rfl (Res.tmp rfl) ?_
    obtain rfl := Option.some.inj h
    intro w' hs
    exact ⟨rfl, hs.below⟩

theorem w_spec_WordPlace {w_p0 : Int} {h_p1 : Int} {layout_p2 : Int} {x_p3 : Int} {y_p4 : Int} {r : Int}  (h : spec_WordPlace w_p0 h_p1 layout_p2 x_p3 y_p4 = some r) {w : World}    :
    Calls Tryz.prog 135 #[.int .i64 w_p0, .int .i64 h_p1, .int .i64 layout_p2, .int .i64 x_p3, .int .i64 y_p4] w (fun en w' => en = .returned (.int .i64 r) ∧ Ext w w') := by
 unfold spec_WordPlace at h
 refine enter (vs := [_, _, _, _, _]) Tryz.func135 rfl rfl rfl rfl ?_
 refine WC.sr ?_
 refine ag ?_
 refine WL.nil (En.next (WC.seq (WC.seq ?_)))
 obtain ⟨x1_3, e1_3, h⟩ := bnd h
 obtain ⟨q1_11, e1_11, h⟩ := bnd h
 obtain ⟨q1_18, e1_18, h⟩ := bnd h
 refine WC.region ?_
 refine mv ?_
 refine mv ?_
 refine mv ?_
 refine sp (OpV.call (ec rfl (ec rfl (ec rfl e0))) ca_134 (fun w hs => w_spec_WordCount e1_3)) ?_
 refine sp (OpV.lss rfl rfl) ?_
 refine mv ?_
 refine Lt.ofWL.orQ 16 22 21 (p := ?pz1) (rest := ?qz1) (B := q1_11) rfl (fun hz => orO_t e1_11 hz) ?Tz1 ?Fz1 ?az1 ?bz1 ?cz1 ?dz1 ?ez1
 case Tz1 =>
  intro hcz1 hkz1
  refine sk ?_
  refine sk ?_
  refine sk ?_
  refine sk ?_
  refine sk ?_
  refine hkz1 _ ?_
  repeat (first | exact Sub.refl _ | refine Sub.skip rfl ?_)
 case Fz1 =>
  intro hcz1 hkz1
  have hqz1 := orO_f e1_11 hcz1
  obtain ⟨x1_9, e1_9, hqz1⟩ := bnd hqz1
  obtain rfl := Option.some.inj hqz1
  refine mv ?_
  refine mv ?_
  refine sp (OpV.subR rfl rfl) ?_
  refine sp (OpV.call (ec rfl (ec rfl (ec rfl e0))) ca_64 (fun w hs => w_spec_l01In e1_9)) ?_
  refine sp (OpV.not rfl) ?_
  refine hkz1 _ ?_ ?_
  exact rfl
  repeat (first | exact Sub.refl _ | refine Sub.skip rfl ?_)
 case az1 => exact rfl
 case bz1 => exact rfl
 case cz1 => exact rfl
 case dz1 => exact rfl
 refine mv ?_
 refine Lt.ofWL.orQ 23 29 28 (p := ?pz2) (rest := ?qz2) (B := q1_18) rfl (fun hz => orO_t e1_18 hz) ?Tz2 ?Fz2 ?az2 ?bz2 ?cz2 ?dz2 ?ez2
 case Tz2 =>
  intro hcz2 hkz2
  refine sk ?_
  refine sk ?_
  refine sk ?_
  refine sk ?_
  refine sk ?_
  refine hkz2 _ ?_
  repeat (first | exact Sub.refl _ | refine Sub.skip rfl ?_)
 case Fz2 =>
  intro hcz2 hkz2
  have hqz2 := orO_f e1_18 hcz2
  obtain ⟨x1_16, e1_16, hqz2⟩ := bnd hqz2
  obtain rfl := Option.some.inj hqz2
  refine mv ?_
  refine mv ?_
  refine sp (OpV.subR rfl rfl) ?_
  refine sp (OpV.call (ec rfl (ec rfl (ec rfl e0))) ca_64 (fun w hs => w_spec_l01In e1_16)) ?_
  refine sp (OpV.not rfl) ?_
  refine hkz2 _ ?_ ?_
  exact rfl
  repeat (first | exact Sub.refl _ | refine Sub.skip rfl ?_)
 case az2 => exact rfl
 case bz2 => exact rfl
 case cz2 => exact rfl
 case dz2 => exact rfl
 refine WL.nil (En.next ?_)
 refine WC.cond rfl ?_ ?_
 ·
  intro hc_1
  replace h := ifO_t hc_1 h
  refine WC.sr ?_
  refine ag ?_
  refine WL.nil (En.next (WC.ret (En.then_ret ?_)))
  refine En.ret1 rfl (Res.tmp rfl) ?_
  obtain rfl := Option.some.inj h
  intro w' hs
  exact ⟨rfl, hs.below⟩
 ·
  intro hc_1
  replace h := ifO_f hc_1 h
  refine WC.skip (En.next (WC.seq (WC.sr ?_)))
  refine mv ?_
  refine sp (OpV.eql rfl rfl) ?_
  refine WL.nil (En.next ?_)
  refine WC.cond rfl ?_ ?_
  ·
   intro hc_2
   replace h := ifO_t hc_2 h
   refine WC.sr ?_
   refine mv ?_
   refine mv ?_
   refine sp (OpV.mulR rfl rfl) ?_
   refine mv ?_
   refine sp (OpV.addR rfl rfl) ?_
   refine ag ?_
   refine WL.nil (En.next (WC.ret (En.then_ret ?_)))
   refine En.ret1 rfl (Res.tmp rfl) ?_
   obtain rfl := Option.some.inj h
   intro w' hs
   exact ⟨rfl, hs.below⟩
  ·
   intro hc_2
   replace h := ifO_f hc_2 h
   refine WC.skip (En.next (WC.sr ?_))
   refine mv ?_
   refine sp (OpV.quoR rfl rfl rfl) ?_
   refine mv ?_
   refine sp (OpV.addR rfl rfl) ?_
   refine sp (OpV.quoR rfl rfl rfl) ?_
   refine sp (OpV.mulR rfl rfl) ?_
   refine mv ?_
   refine sp (OpV.quoR rfl rfl rfl) ?_
   refine sp (OpV.addR rfl rfl) ?_
   refine sp (OpV.mulR rfl rfl) ?_
   refine mv ?_
   refine sp (OpV.remR rfl rfl rfl) ?_
   refine sp (OpV.mulR rfl rfl) ?_
   refine sp (OpV.addR rfl rfl) ?_
   refine mv ?_
   refine sp (OpV.remR rfl rfl rfl) ?_
   refine sp (OpV.addR rfl rfl) ?_
   refine ag ?_
   refine WL.nil (En.next (WC.ret ?_))
   refine En.ret1 rfl (Res.tmp rfl) ?_
   obtain rfl := Option.some.inj h
   intro w' hs
   exact ⟨rfl, hs.below⟩

theorem w_spec_StoreImage {a_p0 : ImageT} {a_p1 : Int} {r : (List Int) × Bool} {q0_0 : Option Addr} {l0_0 k0_0 : Nat} (h : spec_StoreImage a_p0 a_p1 = some r) {w : World} (r0_0 : Rd tInt w q0_0 l0_0 k0_0 a_p0.Data)   :
    Calls Tryz.prog 117 #[.agg #[.int .i64 a_p0.W, .int .i64 a_p0.H, .slice q0_0 l0_0 k0_0], .int .i64 a_p1] w (fun en w' => ∃ rv G, en = .returned rv ∧ (∃ (a0_0 : Option Addr) (n0_0 : Nat) (c0_0 : Nat) (f0_0 : List Nat), rv = .tuple #[.slice a0_0 n0_0 c0_0, .bool r.2] ∧ G = [Chunk.own tInt f0_0 a0_0 n0_0 c0_0 r.1]) ∧ St w G w') := by
 obtain rfl := r0_0.1
 unfold spec_StoreImage at h
 refine enter (vs := [_, _]) Tryz.func117 rfl rfl rfl rfl ?_
 refine WC.sr ?_
 refine WL.heavy rfl rfl rfl (OpH.box rfl rfl ?_)
 intro b0_0
 refine ag ?_
 refine ag ?_
 refine WL.nil (En.next (WC.seq (WC.seq ?_)))
 obtain ⟨x1_1, e1_1, h⟩ := bnd h
 obtain ⟨q1_7, e1_7, h⟩ := bnd h
 refine WC.region ?_
 refine sp (OpV.loadAll rfl mq0 ag_107) ?_
 refine sp (OpV.call (ec rfl e0) ca_133 (fun w hs => w_spec_ImageOk e1_1 (r0_0.ext hs.below))) ?_
 refine sp (OpV.not rfl) ?_
 refine mv ?_
 refine Lt.ofWL.orQ 16 20 19 (p := ?pz1) (rest := ?qz1) (B := q1_7) rfl (fun hz => orO_t e1_7 hz) ?Tz1 ?Fz1 ?az1 ?bz1 ?cz1 ?dz1 ?ez1
 case Tz1 =>
  intro hcz1 hkz1
  refine sk ?_
  refine sk ?_
  refine sk ?_
  refine hkz1 _ ?_
  repeat (first | exact Sub.refl _ | refine Sub.skip rfl ?_)
 case Fz1 =>
  intro hcz1 hkz1
  have hqz1 := orO_f e1_7 hcz1
  obtain ⟨x1_5, e1_5, hqz1⟩ := bnd hqz1
  obtain rfl := Option.some.inj hqz1
  refine mv ?_
  refine sp (OpV.call (ec rfl (ec rfl (ec rfl e0))) ca_64 (fun w hs => w_spec_l01In e1_5)) ?_
  refine sp (OpV.not rfl) ?_
  refine hkz1 _ ?_ ?_
  exact rfl
  repeat (first | exact Sub.refl _ | refine Sub.skip rfl ?_)
 case az1 => exact rfl
 case bz1 => exact rfl
 case cz1 => exact rfl
 case dz1 => exact rfl
 refine WL.nil (En.next ?_)
 refine WC.cond rfl ?_ ?_
 ·
  intro hc_1
  replace h := ifO_t hc_1 h
  refine WC.sr ?_
  refine WL.heavy rfl rfl rfl (OpH.lit0 (A := tInt) (evps.nil) bs_23_0_ ?_)
  intro b2_0
  refine ag ?_
  refine ag ?_
  refine WL.nil (En.next (WC.ret (En.then_ret ?_)))
  refine En.ret2 rfl (Res.tmp rfl) (Res.tmp rfl) ?_
  obtain rfl := Option.some.inj h
  intro w' hs
  have hs := (hs).sub (.cons_cons _ (.cons _ (.slnil)))
  exact ⟨_, _, rfl, ⟨(some ⟨b2_0, 0, .none⟩), 0, 0, [b2_0], rfl, rfl⟩, hs⟩
 ·
  intro hc_1
  replace h := ifO_f hc_1 h
  refine WC.skip (En.next (WC.seq (WC.sr ?_)))
  refine mv ?_
  refine sp (OpV.eql rfl rfl) ?_
  refine WL.nil (En.next ?_)
  refine WC.cond rfl ?_ ?_
  ·
   intro hc_2
   replace h := ifO_t hc_2 h
   refine WC.sr ?_
   refine WL.heavy rfl rfl rfl (OpH.lit0 (A := tInt) (evps.nil) bs_23_0_ ?_)
   intro b4_0
   refine ag ?_
   refine WL.nil (En.next (WC.seq (WC.sr ?_)))
   refine ag ?_
   refine WL.nil (En.next (WC.block ?_))
   obtain ⟨zy0, ezy0, h⟩ := bnd h
   refine WC.cut (X := ((List Int)) × ((Option Addr) × Nat × Nat × (List Nat))) (.exit 0) (fun x => zy0 = x.1) (fun x => match x with | (v_0e, (av_0e, nv_0e, cv_0e, fv_0e)) => [(6, .slice av_0e nv_0e cv_0e)]) (fun x => match x with | (v_0e, (av_0e, nv_0e, cv_0e, fv_0e)) => [Chunk.own tInt fv_0e av_0e nv_0e cv_0e v_0e]) ?_ ?_
   ·
    rintro ⟨v_0e, ⟨av_0e, nv_0e, cv_0e, fv_0e⟩⟩ hx
    replace hx : v_0e = zy0 := hx.symm
    subst hx
    show En _ _ _ _ [(6, .slice av_0e nv_0e cv_0e)] [Chunk.own tInt fv_0e av_0e nv_0e cv_0e v_0e]
    refine En.block_exit (En.next (WC.sr ?_))
    refine mv ?_
    refine ag ?_
    refine ag ?_
    refine WL.nil (En.next (WC.ret (En.then_ret ?_)))
    refine En.ret2 rfl (Res.tmp rfl) (Res.tmp rfl) ?_
    obtain rfl := Option.some.inj h
    intro w' hs
    have hs := hs
    exact ⟨_, _, rfl, ⟨av_0e, nv_0e, cv_0e, fv_0e, rfl, rfl⟩, hs⟩
   ·
    intro zK0_0
    refine WC.loopP (G := (Option Addr) × Nat × Nat × (List Nat)) (fun s g => match s, g with | (v_0, v1_0), (av_0, nv_0, cv_0, fv_0) => [(2, .pointer (some ⟨b0_0, 0, .none⟩)), (6, .slice av_0 nv_0 cv_0), (7, .int .i64 v1_0)]) (fun s g => match s, g with | (v_0, v1_0), (av_0, nv_0, cv_0, fv_0) => [Chunk.box b0_0 107 [.int .i64 a_p0.W, .int .i64 a_p0.H, .slice q0_0 a_p0.Data.length k0_0], Chunk.own tInt fv_0 av_0 nv_0 cv_0 v_0]) (([] : List Int), 0) ((some ⟨b4_0, 0, .none⟩), 0, 0, [b4_0]) ezy0 (by exact sc (sc (sc sn))) (by exact (fun _ h => (h).pm 1)) ?_
    rintro zm0 ⟨v_0, v1_0⟩ ⟨av_0, nv_0, cv_0, fv_0⟩ zo0 zf0 zb0 ze0
    have zh0 : spec_StoreImage_L0 a_p0 v_0 v1_0 = some zo0 := zf0
    unfold spec_StoreImage_L0 at zh0
    show WC _ _ _ _ _ [(2, .pointer (some ⟨b0_0, 0, .none⟩)), (6, .slice av_0 nv_0 cv_0), (7, .int .i64 v1_0)] [Chunk.box b0_0 107 [.int .i64 a_p0.W, .int .i64 a_p0.H, .slice q0_0 a_p0.Data.length k0_0], Chunk.own tInt fv_0 av_0 nv_0 cv_0 v_0]
    refine WC.seq (WC.sr ?_)
    refine mv ?_
    refine sp (OpV.fieldAddr rfl fo_107_1) ?_
    refine sp (OpV.loadBox rfl pt_3 mq0 rfl) ?_
    refine sp (OpV.lss rfl rfl) ?_
    refine WL.nil (En.next ?_)
    refine WC.cond rfl ?_ ?_
    ·
     intro hc_3
     replace zh0 := ifO_t hc_3 zh0
     refine WC.skip (En.next (WC.seq (WC.block (WC.sr ?_))))
     refine ag ?_
     refine WL.nil (En.next (WC.block ?_))
     obtain ⟨zy1, ezy1, zh0⟩ := bnd zh0
     refine WC.cut (X := ((List Int)) × ((Option Addr) × Nat × Nat × (List Nat))) (.exit 2) (fun x => zy1 = x.1) (fun x => match x with | (v_1e, (av_1e, nv_1e, cv_1e, fv_1e)) => [(2, .pointer (some ⟨b0_0, 0, .none⟩)), (6, .slice av_1e nv_1e cv_1e), (7, .int .i64 v1_0)]) (fun x => match x with | (v_1e, (av_1e, nv_1e, cv_1e, fv_1e)) => [Chunk.box b0_0 107 [.int .i64 a_p0.W, .int .i64 a_p0.H, .slice q0_0 a_p0.Data.length k0_0], Chunk.own tInt fv_1e av_1e nv_1e cv_1e v_1e]) ?_ ?_
     ·
      rintro ⟨v_1e, ⟨av_1e, nv_1e, cv_1e, fv_1e⟩⟩ hx
      replace hx : v_1e = zy1 := hx.symm
      subst hx
      show En _ _ _ _ [(2, .pointer (some ⟨b0_0, 0, .none⟩)), (6, .slice av_1e nv_1e cv_1e), (7, .int .i64 v1_0)] [Chunk.box b0_0 107 [.int .i64 a_p0.W, .int .i64 a_p0.H, .slice q0_0 a_p0.Data.length k0_0], Chunk.own tInt fv_1e av_1e nv_1e cv_1e v_1e]
      refine En.block_exit (En.block_norm (En.next (WC.region ?_)))
      refine mv ?_
      refine sp (OpV.addR rfl rfl) ?_
      refine ag ?_
      refine WL.nil ?_
      exact En.backP zb0 zh0 (av_1e, nv_1e, cv_1e, fv_1e) (sc (sc (sc sn))) (fun _ h => h)
     ·
      intro zK1_0
      refine WC.loopP (G := (Option Addr) × Nat × Nat × (List Nat)) (fun s g => match s, g with | (v_1, v1_1), (av_1, nv_1, cv_1, fv_1) => [(2, .pointer (some ⟨b0_0, 0, .none⟩)), (6, .slice av_1 nv_1 cv_1), (7, .int .i64 v1_0), (8, .int .i64 v1_1)]) (fun s g => match s, g with | (v_1, v1_1), (av_1, nv_1, cv_1, fv_1) => [Chunk.box b0_0 107 [.int .i64 a_p0.W, .int .i64 a_p0.H, .slice q0_0 a_p0.Data.length k0_0], Chunk.own tInt fv_1 av_1 nv_1 cv_1 v_1]) (v_0, 0) (av_0, nv_0, cv_0, fv_0) ezy1 (by exact sc (sc (sc (sc sn)))) (by exact (fun _ h => h)) ?_
      rintro zm1 ⟨v_1, v1_1⟩ ⟨av_1, nv_1, cv_1, fv_1⟩ zo1 zf1 zb1 ze1
      have zh1 : spec_StoreImage_L1 a_p0 v1_0 v_1 v1_1 = some zo1 := zf1
      unfold spec_StoreImage_L1 at zh1
      show WC _ _ _ _ _ [(2, .pointer (some ⟨b0_0, 0, .none⟩)), (6, .slice av_1 nv_1 cv_1), (7, .int .i64 v1_0), (8, .int .i64 v1_1)] [Chunk.box b0_0 107 [.int .i64 a_p0.W, .int .i64 a_p0.H, .slice q0_0 a_p0.Data.length k0_0], Chunk.own tInt fv_1 av_1 nv_1 cv_1 v_1]
      refine WC.seq (WC.sr ?_)
      refine mv ?_
      refine sp (OpV.fieldAddr rfl fo_107_0) ?_
      refine sp (OpV.loadBox rfl pt_3 mq0 rfl) ?_
      refine sp (OpV.lss rfl rfl) ?_
      refine WL.nil (En.next ?_)
      refine WC.cond rfl ?_ ?_
      ·
       intro hc_4
       replace zh1 := ifO_t hc_4 zh1
       refine WC.skip (En.next (WC.block (WC.sr ?_)))
       refine ag ?_
       refine WL.nil (En.next (WC.seq (WC.block ?_)))
       obtain ⟨zy2, ezy2, zh1⟩ := bnd zh1
       refine WC.cut (X := (Int) × (Unit)) (.exit 4) (fun x => zy2 = x.1) (fun x => match x with | (v_2e, ()) => [(2, .pointer (some ⟨b0_0, 0, .none⟩)), (6, .slice av_1 nv_1 cv_1), (7, .int .i64 v1_0), (8, .int .i64 v1_1), (9, .int .i64 v_2e)]) (fun x => match x with | (v_2e, ()) => [Chunk.box b0_0 107 [.int .i64 a_p0.W, .int .i64 a_p0.H, .slice q0_0 a_p0.Data.length k0_0], Chunk.own tInt fv_1 av_1 nv_1 cv_1 v_1]) ?_ ?_
       ·
        rintro ⟨v_2e, ⟨⟩⟩ hx
        replace hx : v_2e = zy2 := hx.symm
        subst hx
        show En _ _ _ _ [(2, .pointer (some ⟨b0_0, 0, .none⟩)), (6, .slice av_1 nv_1 cv_1), (7, .int .i64 v1_0), (8, .int .i64 v1_1), (9, .int .i64 v_2e)] [Chunk.box b0_0 107 [.int .i64 a_p0.W, .int .i64 a_p0.H, .slice q0_0 a_p0.Data.length k0_0], Chunk.own tInt fv_1 av_1 nv_1 cv_1 v_1]
        refine En.block_exit (En.next (WC.seq ?_))
        obtain ⟨x13_10, e13_10, zh1⟩ := bnd zh1
        obtain ⟨g13_10, o13_10, _, ha13_10, rfl, hd13_10⟩ := Rd.atIdx r0_0 e13_10
        replace hd13_10 : ∀ (j : Nat) v, ([.int .i64 x13_10] : List Value)[j]? = some v → w.cell? ⟨g13_10, o13_10 + (wr ((wr (v1_0 * a_p0.W)) + v1_1)).toNat * 1 + j, .none⟩ = some v := hd13_10
        obtain ⟨x13_13, e13_13, zh1⟩ := bnd zh1
        refine WC.region ?_
        refine mv ?_
        refine mv ?_
        refine sp (OpV.fieldAddr rfl fo_107_2) ?_
        refine sp (OpV.loadBox rfl pt_23 mq0 rfl) ?_
        refine mv ?_
        refine sp (OpV.fieldAddr rfl fo_107_0) ?_
        refine sp (OpV.loadBox rfl pt_3 mq0 rfl) ?_
        refine sp (OpV.mulR rfl rfl) ?_
        refine mv ?_
        refine sp (OpV.addR rfl rfl) ?_
        refine sp (OpV.idxA rfl rfl se_23 ha13_10 ⟨(idx_some e13_10).1, (idx_some e13_10).2.1⟩) ?_
        refine sp (OpV.load1 rfl pt_3 (fun w hs => hs.cell (hd13_10 0 _ rfl))) ?_
        refine WL.heavy rfl rfl rfl (OpH.litF (A := tInt) (xs := [v_2e, x13_10]) tInt_flat (evps.cons rfl (evps.cons rfl (evps.nil))) (bs_23_2_0_1 _ _) rfl rfl (Nat.le_of_ble_eq_true rfl) ?_)
        intro b13_12
        refine WL.heavy rfl rfl rfl (OpH.appS (F := [_, _]) (A := tInt) tInt_flat rfl rfl rfl mi_23 rfl (by decide) (fun w hs => (Ow.rd (hs.mem mq0))) e13_13 ?_)
        intro f13_13 a13_13 c13_13
        refine ag ?_
        refine WL.nil (En.next (WC.region ?_))
        refine mv ?_
        refine mv ?_
        refine sp (OpV.addR rfl rfl) ?_
        refine ag ?_
        refine WL.nil (En.block_norm ?_)
        exact En.backP zb1 zh1 (a13_13, x13_13.length, c13_13, f13_13) (sc (sc (sc (sc sn)))) (fun _ h => (((h).pm 2).pm 2).sub (.cons_cons _ (.cons_cons _ (.cons _ (.slnil)))))
       ·
        intro zK2_0
        refine WC.loopP (G := Unit) (fun s g => match s, g with | v_2, () => [(2, .pointer (some ⟨b0_0, 0, .none⟩)), (6, .slice av_1 nv_1 cv_1), (7, .int .i64 v1_0), (8, .int .i64 v1_1), (9, .int .i64 v_2)]) (fun s g => match s, g with | v_2, () => [Chunk.box b0_0 107 [.int .i64 a_p0.W, .int .i64 a_p0.H, .slice q0_0 a_p0.Data.length k0_0], Chunk.own tInt fv_1 av_1 nv_1 cv_1 v_1]) 1 () ezy2 (by exact sc (sc (sc (sc (sc sn))))) (by exact (fun _ h => h)) ?_
        rintro zm2 v_2 ⟨⟩ zo2 zf2 zb2 ze2
        have zh2 : spec_StoreImage_L2 a_p0 v1_0 v1_1 v_2 = some zo2 := zf2
        unfold spec_StoreImage_L2 at zh2
        show WC _ _ _ _ _ [(2, .pointer (some ⟨b0_0, 0, .none⟩)), (6, .slice av_1 nv_1 cv_1), (7, .int .i64 v1_0), (8, .int .i64 v1_1), (9, .int .i64 v_2)] [Chunk.box b0_0 107 [.int .i64 a_p0.W, .int .i64 a_p0.H, .slice q0_0 a_p0.Data.length k0_0], Chunk.own tInt fv_1 av_1 nv_1 cv_1 v_1]
        refine WC.seq (WC.seq ?_)
        obtain ⟨q11_30, e11_30, zh2⟩ := bnd zh2
        refine WC.drawn [(2, ?r11q27v2), (6, ?r11q27v6), (7, ?r11q27v7), (8, ?r11q27v8), (9, ?r11q27v9), (65, ?r11q27v65)] (by kernel_rfl) (by kernel_rfl) ?dH11q27 ?dK11q27
        case dH11q27 =>
         intro W hW hk
         refine hW.mv ?_
         refine hW.mv ?_
         refine hW.sp (OpV.addR rfl rfl) ?_
         refine hW.sp (OpV.fieldAddr rfl fo_107_0) ?_
         refine hW.sp (OpV.loadBox rfl pt_3 mq0 rfl) ?_
         refine hW.sp (OpV.lss rfl rfl) ?_
         refine hW.mv ?_
         refine hW.andQ 41 65 64 (p := ?pz2) (rest := ?qz2) (B := q11_30) rfl (fun hz => andO_f e11_30 hz) ?Tz2 ?Fz2 ?az2 ?bz2 ?cz2 ?dz2 ?ez2
         case Tz2 =>
          intro hcz2 hkz2
          have hqz2 := andO_t e11_30 hcz2
          obtain ⟨x11_17, e11_17, hqz2⟩ := bnd hqz2
          obtain ⟨g11_17, o11_17, _, ha11_17, rfl, hd11_17⟩ := Rd.atIdx r0_0 e11_17
          replace hd11_17 : ∀ (j : Nat) v, ([.int .i64 x11_17] : List Value)[j]? = some v → w.cell? ⟨g11_17, o11_17 + (wr ((wr ((wr (v1_0 * a_p0.W)) + v1_1)) + v_2)).toNat * 1 + j, .none⟩ = some v := hd11_17
          obtain ⟨x11_27, e11_27, hqz2⟩ := bnd hqz2
          obtain ⟨g11_27, o11_27, _, ha11_27, rfl, hd11_27⟩ := Rd.atIdx r0_0 e11_27
          replace hd11_27 : ∀ (j : Nat) v, ([.int .i64 x11_27] : List Value)[j]? = some v → w.cell? ⟨g11_27, o11_27 + (wr ((wr (v1_0 * a_p0.W)) + v1_1)).toNat * 1 + j, .none⟩ = some v := hd11_27
          obtain rfl := Option.some.inj hqz2
          refine hW.sp (OpV.fieldAddr rfl fo_107_2) ?_
          refine hW.sp (OpV.loadBox rfl pt_23 mq0 rfl) ?_
          refine hW.mv ?_
          refine hW.sp (OpV.fieldAddr rfl fo_107_0) ?_
          refine hW.sp (OpV.loadBox rfl pt_3 mq0 rfl) ?_
          refine hW.sp (OpV.mulR rfl rfl) ?_
          refine hW.mv ?_
          refine hW.sp (OpV.addR rfl rfl) ?_
          refine hW.mv ?_
          refine hW.sp (OpV.addR rfl rfl) ?_
          refine hW.sp (OpV.idxA rfl rfl se_23 ha11_17 ⟨(idx_some e11_17).1, (idx_some e11_17).2.1⟩) ?_
          refine hW.sp (OpV.load1 rfl pt_3 (fun w hs => hs.cell (hd11_17 0 _ rfl))) ?_
          refine hW.sp (OpV.fieldAddr rfl fo_107_2) ?_
          refine hW.sp (OpV.loadBox rfl pt_23 mq0 rfl) ?_
          refine hW.mv ?_
          refine hW.sp (OpV.fieldAddr rfl fo_107_0) ?_
          refine hW.sp (OpV.loadBox rfl pt_3 mq0 rfl) ?_
          refine hW.sp (OpV.mulR rfl rfl) ?_
          refine hW.mv ?_
          refine hW.sp (OpV.addR rfl rfl) ?_
          refine hW.sp (OpV.idxA rfl rfl se_23 ha11_27 ⟨(idx_some e11_27).1, (idx_some e11_27).2.1⟩) ?_
          refine hW.sp (OpV.load1 rfl pt_3 (fun w hs => hs.cell (hd11_27 0 _ rfl))) ?_
          refine hW.sp (OpV.eql rfl rfl) ?_
          refine hkz2 _ ?_ ?_
          exact rfl
          repeat (first | exact Sub.refl _ | refine Sub.skip rfl ?_)
         case Fz2 =>
          intro hcz2 hkz2
          refine hW.sk ?_
          refine hW.sk ?_
          refine hW.sk ?_
          refine hW.sk ?_
          refine hW.sk ?_
          refine hW.sk ?_
          refine hW.sk ?_
          refine hW.sk ?_
          refine hW.sk ?_
          refine hW.sk ?_
          refine hW.sk ?_
          refine hW.sk ?_
          refine hW.sk ?_
          refine hW.sk ?_
          refine hW.sk ?_
          refine hW.sk ?_
          refine hW.sk ?_
          refine hW.sk ?_
          refine hW.sk ?_
          refine hW.sk ?_
          refine hW.sk ?_
          refine hW.sk ?_
          refine hW.sk ?_
          refine hkz2 _ ?_
          repeat (first | exact Sub.refl _ | refine Sub.skip rfl ?_)
         case az2 => exact rfl
         case bz2 => exact rfl
         case cz2 => exact rfl
         case dz2 => exact rfl
         refine hk _ ?_
         refine Sub.cons ?_ (Sub.cons ?_ (Sub.cons ?_ (Sub.cons ?_ (Sub.cons ?_ (Sub.cons ?_ sn)))))
         all_goals exact rfl
        refine En.next ?_
        refine WC.cond rfl ?_ ?_
        ·
         intro hc_5
         replace zh2 := ifO_t hc_5 zh2
         refine WC.skip (En.next (WC.block (WC.region ?_)))
         refine mv ?_
         refine sp (OpV.addR rfl rfl) ?_
         refine ag ?_
         refine WL.nil (En.block_norm ?_)
         exact En.backP zb2 zh2 () (sc (sc (sc (sc (sc sn))))) (fun _ h => h)
        ·
         intro hc_5
         replace zh2 := ifO_f hc_5 zh2
         refine WC.exit (En.then_exit (En.then_exit ?_))
         have hx := exitP ze2 zh2
         exact En.wk _ _ (sc (sc (sc (sc (sc sn))))) (fun _ h => h) (zK2_0 (v_2, ()) hx.symm)
      ·
       intro hc_4
       replace zh1 := ifO_f hc_4 zh1
       refine WC.exit (En.then_exit (En.then_exit ?_))
       have hx := exitP ze1 zh1
       exact En.wk _ _ (sc (sc (sc sn))) (fun _ h => h) (zK1_0 (v_1, (av_1, nv_1, cv_1, fv_1)) hx.symm)
    ·
     intro hc_3
     replace zh0 := ifO_f hc_3 zh0
     refine WC.exit (En.then_exit (En.then_exit ?_))
     have hx := exitP ze0 zh0
     exact En.wk _ _ (sc sn) (fun _ h => ((h).pm 1).sub (.cons_cons _ (.cons _ (.slnil)))) (zK0_0 (v_0, (av_0, nv_0, cv_0, fv_0)) hx.symm)
  ·
   intro hc_2
   replace h := ifO_f hc_2 h
   refine WC.skip (En.next (WC.seq ?_))
   obtain ⟨x16_5, e16_5, h⟩ := bnd h
   obtain ⟨x16_6, e16_6, h⟩ := bnd h
   refine WC.region ?_
   refine sp (OpV.fieldAddr rfl fo_107_0) ?_
   refine sp (OpV.loadBox rfl pt_3 mq0 rfl) ?_
   refine sp (OpV.fieldAddr rfl fo_107_1) ?_
   refine sp (OpV.loadBox rfl pt_3 mq0 rfl) ?_
   refine mv ?_
   refine sp (OpV.call (ec rfl (ec rfl (ec rfl e0))) ca_134 (fun w hs => w_spec_WordCount e16_5)) ?_
   refine WL.heavy rfl rfl rfl (OpH.makeO (A := tInt) rfl rfl mi_23 (fun w => tInt_flat.ow w 0) (by decide) e16_6 ⟨Int.le_refl _, (mkO_some e16_6).1.2⟩ ?_)
   intro b16_6
   refine ag ?_
   refine WL.nil (En.next (WC.seq (WC.sr ?_)))
   refine ag ?_
   refine WL.nil (En.next (WC.block ?_))
   obtain ⟨zy3, ezy3, h⟩ := bnd h
   refine WC.cut (X := ((List Int)) × ((List Nat))) (.exit 6) (fun x => zy3 = x.1) (fun x => match x with | (v_3e, fv_3e) => [(10, .slice (some ⟨b16_6, 0, .none⟩) x16_6.length x16_5.toNat)]) (fun x => match x with | (v_3e, fv_3e) => [Chunk.own tInt fv_3e (some ⟨b16_6, 0, .none⟩) x16_6.length x16_5.toNat v_3e]) ?_ ?_
   ·
    rintro ⟨v_3e, fv_3e⟩ hx
    replace hx : v_3e = zy3 := hx.symm
    subst hx
    show En _ _ _ _ [(10, .slice (some ⟨b16_6, 0, .none⟩) x16_6.length x16_5.toNat)] [Chunk.own tInt fv_3e (some ⟨b16_6, 0, .none⟩) x16_6.length x16_5.toNat v_3e]
    refine En.block_exit (En.next (WC.sr ?_))
    refine mv ?_
    refine ag ?_
    refine ag ?_
    refine WL.nil (En.next (WC.ret ?_))
    refine En.ret2 rfl (Res.tmp rfl) (Res.tmp rfl) ?_
    obtain rfl := Option.some.inj h
    intro w' hs
    have hs := hs
    exact ⟨_, _, rfl, ⟨(some ⟨b16_6, 0, .none⟩), x16_6.length, x16_5.toNat, fv_3e, rfl, rfl⟩, hs⟩
   ·
    intro zK3_0
    refine WC.loopP (G := (List Nat)) (fun s g => match s, g with | (v_3, v1_3), fv_3 => [(1, .int .i64 a_p1), (2, .pointer (some ⟨b0_0, 0, .none⟩)), (10, .slice (some ⟨b16_6, 0, .none⟩) x16_6.length x16_5.toNat), (11, .int .i64 v1_3)]) (fun s g => match s, g with | (v_3, v1_3), fv_3 => [Chunk.box b0_0 107 [.int .i64 a_p0.W, .int .i64 a_p0.H, .slice q0_0 a_p0.Data.length k0_0], Chunk.own tInt fv_3 (some ⟨b16_6, 0, .none⟩) x16_6.length x16_5.toNat v_3]) (x16_6, 0) [b16_6] ezy3 (by exact sc (sc (sc (sc sn)))) (by exact (fun _ h => (h).pm 1)) ?_
    rintro zm3 ⟨v_3, v1_3⟩ fv_3 zo3 zf3 zb3 ze3
    have zh3 : spec_StoreImage_L3 a_p0 a_p1 v_3 v1_3 = some zo3 := zf3
    unfold spec_StoreImage_L3 at zh3
    show WC _ _ _ _ _ [(1, .int .i64 a_p1), (2, .pointer (some ⟨b0_0, 0, .none⟩)), (10, .slice (some ⟨b16_6, 0, .none⟩) x16_6.length x16_5.toNat), (11, .int .i64 v1_3)] [Chunk.box b0_0 107 [.int .i64 a_p0.W, .int .i64 a_p0.H, .slice q0_0 a_p0.Data.length k0_0], Chunk.own tInt fv_3 (some ⟨b16_6, 0, .none⟩) x16_6.length x16_5.toNat v_3]
    refine WC.seq (WC.sr ?_)
    refine mv ?_
    refine sp (OpV.fieldAddr rfl fo_107_1) ?_
    refine sp (OpV.loadBox rfl pt_3 mq0 rfl) ?_
    refine sp (OpV.lss rfl rfl) ?_
    refine WL.nil (En.next ?_)
    refine WC.cond rfl ?_ ?_
    ·
     intro hc_6
     replace zh3 := ifO_t hc_6 zh3
     refine WC.skip (En.next (WC.seq (WC.block (WC.sr ?_))))
     refine ag ?_
     refine WL.nil (En.next (WC.block ?_))
     obtain ⟨zy4, ezy4, zh3⟩ := bnd zh3
     refine WC.cut (X := ((List Int)) × ((List Nat))) (.exit 8) (fun x => zy4 = x.1) (fun x => match x with | (v_4e, fv_4e) => [(1, .int .i64 a_p1), (2, .pointer (some ⟨b0_0, 0, .none⟩)), (10, .slice (some ⟨b16_6, 0, .none⟩) x16_6.length x16_5.toNat), (11, .int .i64 v1_3)]) (fun x => match x with | (v_4e, fv_4e) => [Chunk.box b0_0 107 [.int .i64 a_p0.W, .int .i64 a_p0.H, .slice q0_0 a_p0.Data.length k0_0], Chunk.own tInt fv_4e (some ⟨b16_6, 0, .none⟩) x16_6.length x16_5.toNat v_4e]) ?_ ?_
     ·
      rintro ⟨v_4e, fv_4e⟩ hx
      replace hx : v_4e = zy4 := hx.symm
      subst hx
      show En _ _ _ _ [(1, .int .i64 a_p1), (2, .pointer (some ⟨b0_0, 0, .none⟩)), (10, .slice (some ⟨b16_6, 0, .none⟩) x16_6.length x16_5.toNat), (11, .int .i64 v1_3)] [Chunk.box b0_0 107 [.int .i64 a_p0.W, .int .i64 a_p0.H, .slice q0_0 a_p0.Data.length k0_0], Chunk.own tInt fv_4e (some ⟨b16_6, 0, .none⟩) x16_6.length x16_5.toNat v_4e]
      refine En.block_exit (En.block_norm (En.next (WC.region ?_)))
      refine mv ?_
      refine sp (OpV.addR rfl rfl) ?_
      refine ag ?_
      refine WL.nil ?_
      exact En.backP zb3 zh3 fv_4e (sc (sc (sc (sc sn)))) (fun _ h => h)
     ·
      intro zK4_0
      refine WC.loopP (G := (List Nat)) (fun s g => match s, g with | (v_4, v1_4), fv_4 => [(1, .int .i64 a_p1), (2, .pointer (some ⟨b0_0, 0, .none⟩)), (10, .slice (some ⟨b16_6, 0, .none⟩) x16_6.length x16_5.toNat), (11, .int .i64 v1_3), (12, .int .i64 v1_4)]) (fun s g => match s, g with | (v_4, v1_4), fv_4 => [Chunk.box b0_0 107 [.int .i64 a_p0.W, .int .i64 a_p0.H, .slice q0_0 a_p0.Data.length k0_0], Chunk.own tInt fv_4 (some ⟨b16_6, 0, .none⟩) x16_6.length x16_5.toNat v_4]) (v_3, 0) fv_3 ezy4 (by exact sc (sc (sc (sc (sc sn))))) (by exact (fun _ h => h)) ?_
      rintro zm4 ⟨v_4, v1_4⟩ fv_4 zo4 zf4 zb4 ze4
      have zh4 : spec_StoreImage_L4 a_p0 a_p1 v1_3 v_4 v1_4 = some zo4 := zf4
      unfold spec_StoreImage_L4 at zh4
      show WC _ _ _ _ _ [(1, .int .i64 a_p1), (2, .pointer (some ⟨b0_0, 0, .none⟩)), (10, .slice (some ⟨b16_6, 0, .none⟩) x16_6.length x16_5.toNat), (11, .int .i64 v1_3), (12, .int .i64 v1_4)] [Chunk.box b0_0 107 [.int .i64 a_p0.W, .int .i64 a_p0.H, .slice q0_0 a_p0.Data.length k0_0], Chunk.own tInt fv_4 (some ⟨b16_6, 0, .none⟩) x16_6.length x16_5.toNat v_4]
      refine WC.seq (WC.sr ?_)
      refine mv ?_
      refine sp (OpV.fieldAddr rfl fo_107_0) ?_
      refine sp (OpV.loadBox rfl pt_3 mq0 rfl) ?_
      refine sp (OpV.lss rfl rfl) ?_
      refine WL.nil (En.next ?_)
      refine WC.cond rfl ?_ ?_
      ·
       intro hc_7
       replace zh4 := ifO_t hc_7 zh4
       refine WC.skip (En.next (WC.seq (WC.block ?_)))
       refine WC.inh fun hin23 => ?_
       obtain ⟨x23_8, e23_8, zh4⟩ := bnd zh4
       obtain ⟨x23_17, e23_17, zh4⟩ := bnd zh4
       obtain ⟨g23_17, o23_17, _, ha23_17, rfl, hd23_17⟩ := Rd.atIdx r0_0 e23_17
       replace hd23_17 : ∀ (j : Nat) v, ([.int .i64 x23_17] : List Value)[j]? = some v → w.cell? ⟨g23_17, o23_17 + (wr ((wr (v1_3 * a_p0.W)) + v1_4)).toNat * 1 + j, .none⟩ = some v := hd23_17
       have hn23_19 := ownLen hin23 mq1
       obtain ⟨x23_20, e23_20, zh4⟩ := bnd zh4
       obtain ⟨g23_19, o23_19, ha23_19⟩ := ownAddrU hin23 mq1 e23_20
       refine WC.wkF (fun _ h => h.pm 1) ?_
       refine WC.drawnH [_] ([_]) (fun _ h => h) (by kernel_rfl) ?_
       refine tk 0 rfl (OpV.move rfl) ?_
       refine tk 1 rfl (OpV.fieldAddr rfl fo_107_0) ?_
       refine tk 2 rfl (OpV.loadBox rfl pt_3 mq0 rfl) ?_
       refine tk 3 rfl (OpV.fieldAddr rfl fo_107_1) ?_
       refine tk 4 rfl (OpV.loadBox rfl pt_3 mq0 rfl) ?_
       refine tk 5 rfl (OpV.move rfl) ?_
       refine tk 6 rfl (OpV.move rfl) ?_
       refine tk 7 rfl (OpV.move rfl) ?_
       refine tk 8 rfl (OpV.call (ec rfl (ec rfl (ec rfl (ec rfl (ec rfl e0))))) ca_135 (fun w hs => w_spec_WordPlace e23_8)) ?_
       refine tk 9 rfl (OpV.fieldAddr rfl fo_107_2) ?_
       refine tk 10 rfl (OpV.loadBox rfl pt_23 mq0 rfl) ?_
       refine tk 11 rfl (OpV.move rfl) ?_
       refine tk 12 rfl (OpV.fieldAddr rfl fo_107_0) ?_
       refine tk 13 rfl (OpV.loadBox rfl pt_3 mq0 rfl) ?_
       refine tk 14 rfl (OpV.mulR rfl rfl) ?_
       refine tk 15 rfl (OpV.move rfl) ?_
       refine tk 16 rfl (OpV.addR rfl rfl) ?_
       refine tk 17 rfl (OpV.idxA rfl rfl se_23 ha23_17 ⟨(idx_some e23_17).1, (idx_some e23_17).2.1⟩) ?_
       refine tk 18 rfl (OpV.load1 rfl pt_3 (fun w hs => hs.cell (hd23_17 0 _ rfl))) ?_
       refine tk 19 rfl (OpV.idxA rfl rfl se_23 ha23_19 ⟨(upd_some e23_20).1.1, by rw [hn23_19]; exact (upd_some e23_20).1.2⟩) ?_
       refine al0 20 rfl ?_
       refine OpH.wkF (fun _ h => St.elFlat tInt_flat x23_17 h) ?_
       refine OpH.setEl (A := tInt) ha23_19 rfl rfl rfl ts_3 e23_20 ?_
       intro f23_20
       refine ⟨[_], rfl, ?_⟩
       refine WAE.rebase (H := []) ?_
       refine WAE.done (by kernel_rfl) ?_ _
       refine En.block_norm (En.next (WC.region ?_))
       refine mv ?_
       refine sp (OpV.addR rfl rfl) ?_
       refine ag ?_
       refine WL.nil ?_
       exact En.backP zb4 zh4 f23_20 (sc (sc (sc (sc (sc sn))))) (fun _ h => (h).pm 1)
      ·
       intro hc_7
       replace zh4 := ifO_f hc_7 zh4
       refine WC.exit (En.then_exit (En.then_exit ?_))
       have hx := exitP ze4 zh4
       exact En.wk _ _ (sc (sc (sc (sc sn)))) (fun _ h => h) (zK4_0 (v_4, fv_4) hx.symm)
    ·
     intro hc_6
     replace zh3 := ifO_f hc_6 zh3
     refine WC.exit (En.then_exit (En.then_exit ?_))
     have hx := exitP ze3 zh3
     exact En.wk _ _ (sc sn) (fun _ h => ((h).pm 1).sub (.cons_cons _ (.cons _ (.slnil)))) (zK3_0 (v_3, fv_3) hx.symm)

theorem w_spec_PlaneOf {i_p0 : ImageT} {x_p1 : Int} {y_p2 : Int} {layout_p3 : Int} {r : PlaneT} {q0_0 : Option Addr} {l0_0 k0_0 : Nat} (h : spec_PlaneOf i_p0 x_p1 y_p2 layout_p3 = some r) {w : World} (r0_0 : Rd tInt w q0_0 l0_0 k0_0 i_p0.Data)   :
    Calls Tryz.prog 82 #[.agg #[.int .i64 i_p0.W, .int .i64 i_p0.H, .slice q0_0 l0_0 k0_0], .int .i64 x_p1, .int .i64 y_p2, .int .i64 layout_p3] w (fun en w' => ∃ rv G, en = .returned rv ∧ (∃ (a0_0 : Option Addr) (n0_0 : Nat) (c0_0 : Nat) (f0_0 : List Nat), rv = .agg #[.bool r.On, .int .i64 r.X, .int .i64 r.Y, .int .i64 r.W, .int .i64 r.H, .int .i64 r.Layout, .slice a0_0 n0_0 c0_0, .int .i64 r.Alpha, .int .i64 r.Orient, .int .i64 r.ToW, .int .i64 r.ToH] ∧ G = [Chunk.own tInt f0_0 a0_0 n0_0 c0_0 r.Words]) ∧ St w G w') := by
 obtain rfl := r0_0.1
 unfold spec_PlaneOf at h
 refine enter (vs := [_, _, _, _]) Tryz.func82 rfl rfl rfl rfl ?_
 refine WC.sr ?_
 refine WL.heavy rfl rfl rfl (OpH.box rfl rfl ?_)
 intro b0_0
 refine WL.heavy rfl rfl rfl (OpH.alloc zc_61 ?_)
 intro b0_1
 refine WL.nil (En.next (WC.seq ?_))
 obtain ⟨⟨x1_2a, x1_2b⟩, e1_2, h⟩ := bnd h
 refine WC.region ?_
 refine sp (OpV.loadAll rfl mq1 ag_107) ?_
 refine mv ?_
 refine WL.heavy rfl rfl rfl (OpH.callR (ec rfl (ec rfl e0)) ca_117 (fun w hs => w_spec_StoreImage e1_2 (r0_0.ext hs.below)) ?_)
 rintro _ _ ⟨a1_200, n1_200, c1_200, f1_200, rfl, rfl⟩
 refine mv ?_
 refine sp (OpV.extract rfl rfl) ?_
 refine sp (OpV.extract rfl rfl) ?_
 refine ag ?_
 refine ag ?_
 refine WL.nil (En.next (WC.seq (WC.sr ?_)))
 refine mv ?_
 refine sp (OpV.not rfl) ?_
 refine WL.nil (En.next ?_)
 refine WC.cond rfl ?_ ?_
 ·
  intro hc_1
  replace h := ifO_t hc_1 h
  refine WC.sr ?_
  refine sp (OpV.build (evps.nil) bd_61_) ?_
  refine WL.heavy0 rfl rfl (OpH.storeTo (A := [_]) [_, _, _, _, _, _, _, _, _, _, _] rfl rfl rfl ts_61 rfl rfl rfl ?_)
  refine WL.nil (En.next (WC.ret (En.then_ret ?_)))
  refine En.ret1 rfl (Res.cell rfl mq1 ag_61) ?_
  obtain rfl := Option.some.inj h
  intro w' hs
  have hs := ((hs).ownNil (A := tInt)).sub (.cons_cons _ (.cons _ (.cons _ (.cons _ (.slnil)))))
  exact ⟨_, _, rfl, ⟨.none, 0, 0, [], rfl, rfl⟩, hs⟩
 ·
  intro hc_1
  replace h := ifO_f hc_1 h
  refine WC.skip (En.next (WC.sr ?_))
  refine mv ?_
  refine mv ?_
  refine sp (OpV.fieldAddr rfl fo_107_0) ?_
  refine sp (OpV.loadBox rfl pt_3 mq2 rfl) ?_
  refine sp (OpV.fieldAddr rfl fo_107_1) ?_
  refine sp (OpV.loadBox rfl pt_3 mq2 rfl) ?_
  refine mv ?_
  refine mv ?_
  refine sp (OpV.build (evps.cons rfl (evps.cons rfl (evps.cons rfl (evps.cons rfl (evps.cons rfl (evps.cons rfl (evps.cons rfl (evps.cons rfl (evps.nil))))))))) (bd_61_0_1_2_3_4_5_6_7 _ _ _ _ _ _ _ _ _ _)) ?_
  refine WL.heavy0 rfl rfl (OpH.storeTo (A := [_]) [_, _, _, _, _, _, _, _, _, _, _] rfl rfl rfl ts_61 rfl rfl rfl ?_)
  refine WL.nil (En.next (WC.ret ?_))
  refine En.ret1 rfl (Res.cell rfl mq1 ag_61) ?_
  obtain rfl := Option.some.inj h
  intro w' hs
  have hs := (hs).sub (.cons_cons _ (.cons _ (.cons _ (.slnil))))
  exact ⟨_, _, rfl, ⟨a1_200, n1_200, c1_200, f1_200, rfl, rfl⟩, hs⟩

theorem w_spec_l01Once {c_p0 : L01CurT} {n_p1 : Int} {r : Bool × L01CurT} {b0 : Nat} {q0_0 : Option Addr} {l0_0 k0_0 : Nat} (h : spec_l01Once c_p0 n_p1 = some r) {w0 w : World} {C : List Chunk} (hs0 : St w0 (Chunk.box b0 128 [.slice q0_0 l0_0 k0_0, .int .i64 c_p0.i, .int .i64 c_p0.h] :: C) w) (r0_0 : ∀ w, St w0 C w → Rd tU8 w q0_0 l0_0 k0_0 c_p0.b) :
    Calls Tryz.prog 109 #[.pointer (some ⟨b0, 0, .none⟩), .int .i64 n_p1] w (fun en w' => ∃ rv G, en = .returned rv ∧ (rv = .bool r.1 ∧ G = Chunk.box b0 128 [.slice q0_0 l0_0 k0_0, .int .i64 r.2.i, .int .i64 r.2.h] :: C) ∧ St w0 G w') := by
 obtain rfl := (r0_0 _ (St.tl (F := [_]) hs0)).1
 unfold spec_l01Once at h
 refine enterF hs0 (vs := [_, _]) Tryz.func109 rfl rfl rfl rfl ?_
 refine WC.sr ?_
 refine ag ?_
 refine WL.nil (En.next (WC.seq ?_))
 obtain ⟨⟨x1_2a, x1_2b⟩, e1_2, h⟩ := bnd h
 refine WC.region ?_
 refine mv ?_
 refine mv ?_
 refine WL.heavy rfl rfl rfl (OpH.callX (ec rfl (ec rfl e0)) ca_105 (fun w hs => w_spec_l01Below e1_2 hs (fun w hs => (r0_0 _ (St.tl (F := []) hs)))) ?_)
 rintro _ _ ⟨rfl, rfl⟩
 refine sp (OpV.eql rfl rfl) ?_
 refine ag ?_
 refine WL.nil (En.next (WC.ret ?_))
 refine En.ret1 rfl (Res.tmp rfl) ?_
 obtain rfl := Option.some.inj h
 intro w' hs
 have hs := hs
 exact ⟨_, _, rfl, ⟨rfl, rfl⟩, hs⟩

theorem w_spec_l05Image {c_p0 : L01CurT} {most_p1 : Int} {r : ImageT × L01CurT} {b0 : Nat} {q0_0 : Option Addr} {l0_0 k0_0 : Nat} (h : spec_l05Image c_p0 most_p1 = some r) {w0 w : World} {C : List Chunk} (hs0 : St w0 (Chunk.box b0 128 [.slice q0_0 l0_0 k0_0, .int .i64 c_p0.i, .int .i64 c_p0.h] :: C) w) (r0_0 : ∀ w, St w0 C w → Rd tU8 w q0_0 l0_0 k0_0 c_p0.b) :
    Calls Tryz.prog 130 #[.pointer (some ⟨b0, 0, .none⟩), .int .i64 most_p1] w (fun en w' => ∃ rv G, en = .returned rv ∧ (∃ (a0_0 : Option Addr) (n0_0 : Nat) (c0_0 : Nat) (f0_0 : List Nat), rv = .agg #[.int .i64 r.1.W, .int .i64 r.1.H, .slice a0_0 n0_0 c0_0] ∧ G = Chunk.own tInt f0_0 a0_0 n0_0 c0_0 r.1.Data :: Chunk.box b0 128 [.slice q0_0 l0_0 k0_0, .int .i64 r.2.i, .int .i64 r.2.h] :: C) ∧ St w0 G w') := by
 obtain rfl := (r0_0 _ (St.tl (F := [_]) hs0)).1
 unfold spec_l05Image at h
 refine enterF hs0 (vs := [_, _]) Tryz.func130 rfl rfl rfl rfl ?_
 refine WC.sr ?_
 refine WL.heavy rfl rfl rfl (OpH.alloc zc_107 ?_)
 intro b0_0
 refine WL.nil (En.next (WC.seq ?_))
 obtain ⟨⟨x1_2a, x1_2b⟩, e1_2, h⟩ := bnd h
 refine WC.region ?_
 refine mv ?_
 refine mv ?_
 refine WL.wkF (fun _ h => h.pm 1) ?_
 refine WL.heavy rfl rfl rfl (OpH.callX (ec rfl (ec rfl e0)) ca_105 (fun w hs => w_spec_l01Below e1_2 hs (fun w hs => (r0_0 _ (St.tl (F := [_]) hs)))) ?_)
 rintro _ _ ⟨rfl, rfl⟩
 refine sp (OpV.addR rfl rfl) ?_
 refine ag ?_
 refine WL.nil (En.next (WC.seq ?_))
 obtain ⟨⟨x2_2a, x2_2b⟩, e2_2, h⟩ := bnd h
 refine WC.region ?_
 refine mv ?_
 refine mv ?_
 refine WL.heavy rfl rfl rfl (OpH.callX (ec rfl (ec rfl e0)) ca_105 (fun w hs => w_spec_l01Below e2_2 hs (fun w hs => (r0_0 _ (St.tl (F := [_]) hs)))) ?_)
 rintro _ _ ⟨rfl, rfl⟩
 refine sp (OpV.addR rfl rfl) ?_
 refine ag ?_
 refine WL.nil (En.next (WC.seq ?_))
 obtain ⟨⟨x3_3a, x3_3b⟩, e3_3, h⟩ := bnd h
 obtain ⟨x3_4, e3_4, h⟩ := bnd h
 refine WC.region ?_
 refine mv ?_
 refine mv ?_
 refine mv ?_
 refine WL.heavy rfl rfl rfl (OpH.callX (ec rfl e0) ca_127 (fun w hs => w_spec_l04Draw e3_3 hs (fun w hs => (r0_0 _ (St.tl (F := [_]) hs)))) ?_)
 rintro _ _ ⟨rfl, rfl⟩
 refine WL.heavy rfl rfl rfl (OpH.callR (ec rfl (ec rfl (ec rfl e0))) ca_83 (fun w hs => w_spec_NewImage e3_4) ?_)
 rintro _ _ ⟨a3_400, n3_400, c3_400, f3_400, rfl, rfl⟩
 refine WL.heavy rfl rfl rfl (OpH.alloc zc_107 ?_)
 intro b3_5
 refine WL.heavy0 rfl rfl (OpH.storeTo (A := []) [_, _, _] rfl rfl rfl ts_107 rfl rfl rfl ?_)
 refine WL.nil (En.next (WC.seq (WC.seq ?_)))
 obtain ⟨⟨x4_1a, x4_1b⟩, e4_1, h⟩ := bnd h
 refine WC.region ?_
 refine mv ?_
 refine WL.wkF (fun _ h => h.pm 2) ?_
 refine WL.heavy rfl rfl rfl (OpH.callX (ec rfl (ec rfl e0)) ca_105 (fun w hs => w_spec_l01Below e4_1 hs (fun w hs => (r0_0 _ (St.tl (F := [_, _, _]) hs)))) ?_)
 rintro _ _ ⟨rfl, rfl⟩
 refine ag ?_
 refine WL.nil (En.next (WC.block ?_))
 obtain ⟨zy0, ezy0, h⟩ := bnd h
 refine WC.cut (X := (Int × Int × (List Int) × Int × Int) × ((Option Addr) × Nat × Nat × (List Nat))) (.exit 0) (fun x => zy0 = x.1) (fun x => match x with | ((i_0e, i1_0e, i2_0e, c_0e, c1_0e), (ai_0e, ni_0e, ci_0e, fi_0e)) => [(4, .pointer (some ⟨b0_0, 0, .none⟩)), (7, .pointer (some ⟨b3_5, 0, .none⟩))]) (fun x => match x with | ((i_0e, i1_0e, i2_0e, c_0e, c1_0e), (ai_0e, ni_0e, ci_0e, fi_0e)) => (Chunk.box b0_0 107 [.int .i64 0, .int .i64 0, .slice .none 0 0] :: Chunk.box b3_5 107 [.int .i64 i_0e, .int .i64 i1_0e, .slice ai_0e ni_0e ci_0e] :: Chunk.own tInt fi_0e ai_0e ni_0e ci_0e i2_0e :: Chunk.box b0 128 [.slice q0_0 c_p0.b.length k0_0, .int .i64 c_0e, .int .i64 c1_0e] :: C)) ?_ ?_
 ·
  rintro ⟨⟨i_0e, i1_0e, i2_0e, c_0e, c1_0e⟩, ⟨ai_0e, ni_0e, ci_0e, fi_0e⟩⟩ hx
  replace hx : (i_0e, i1_0e, i2_0e, c_0e, c1_0e) = zy0 := hx.symm
  subst hx
  show En _ _ _ _ [(4, .pointer (some ⟨b0_0, 0, .none⟩)), (7, .pointer (some ⟨b3_5, 0, .none⟩))] (Chunk.box b0_0 107 [.int .i64 0, .int .i64 0, .slice .none 0 0] :: Chunk.box b3_5 107 [.int .i64 i_0e, .int .i64 i1_0e, .slice ai_0e ni_0e ci_0e] :: Chunk.own tInt fi_0e ai_0e ni_0e ci_0e i2_0e :: Chunk.box b0 128 [.slice q0_0 c_p0.b.length k0_0, .int .i64 c_0e, .int .i64 c1_0e] :: C)
  refine En.block_exit (En.next (WC.sr ?_))
  refine sp (OpV.loadAll rfl mq1 ag_107) ?_
  refine WL.heavy0 rfl rfl (OpH.storeTo (A := []) [_, _, _] rfl rfl rfl ts_107 rfl rfl rfl ?_)
  refine WL.nil (En.next (WC.ret ?_))
  refine En.ret1 rfl (Res.cell rfl mq0 ag_107) ?_
  obtain rfl := Option.some.inj h
  intro w' hs
  have hs := (((hs).pm 3).pm 3).sub (.cons_cons _ (.cons_cons _ (.cons _ (.cons _ (List.Sublist.refl _)))))
  exact ⟨_, _, rfl, ⟨ai_0e, ni_0e, ci_0e, fi_0e, rfl, rfl⟩, hs⟩
 ·
  intro zK0_0
  refine WC.loopP (G := (Option Addr) × Nat × Nat × (List Nat)) (fun s g => match s, g with | (c_0, c1_0, i_0, i1_0, i2_0, k_0), (ai_0, ni_0, ci_0, fi_0) => [(0, .pointer (some ⟨b0, 0, .none⟩)), (4, .pointer (some ⟨b0_0, 0, .none⟩)), (5, .int .i64 (wr (1 + x1_2a))), (6, .int .i64 (wr (1 + x2_2a))), (7, .pointer (some ⟨b3_5, 0, .none⟩)), (8, .int .i64 k_0)]) (fun s g => match s, g with | (c_0, c1_0, i_0, i1_0, i2_0, k_0), (ai_0, ni_0, ci_0, fi_0) => (Chunk.box b0 128 [.slice q0_0 c_p0.b.length k0_0, .int .i64 c_0, .int .i64 c1_0] :: Chunk.box b0_0 107 [.int .i64 0, .int .i64 0, .slice .none 0 0] :: Chunk.box b3_5 107 [.int .i64 i_0, .int .i64 i1_0, .slice ai_0 ni_0 ci_0] :: Chunk.own tInt fi_0 ai_0 ni_0 ci_0 i2_0 :: C)) (x4_1b.i, x4_1b.h, x3_4.W, x3_4.H, x3_4.Data, x4_1a) (a3_400, n3_400, c3_400, f3_400) ezy0 (by exact sc (sc (sc (sc (sc (sc sn)))))) (by exact (fun _ h => ((((h).pm 2).pm 2).pm 3).pm 3)) ?_
  rintro zm0 ⟨c_0, c1_0, i_0, i1_0, i2_0, k_0⟩ ⟨ai_0, ni_0, ci_0, fi_0⟩ zo0 zf0 zb0 ze0
  have zh0 : spec_l05Image_L0 c_p0 x1_2a x2_2a c_0 c1_0 i_0 i1_0 i2_0 k_0 = some zo0 := zf0
  unfold spec_l05Image_L0 at zh0
  show WC _ _ _ _ _ [(0, .pointer (some ⟨b0, 0, .none⟩)), (4, .pointer (some ⟨b0_0, 0, .none⟩)), (5, .int .i64 (wr (1 + x1_2a))), (6, .int .i64 (wr (1 + x2_2a))), (7, .pointer (some ⟨b3_5, 0, .none⟩)), (8, .int .i64 k_0)] (Chunk.box b0 128 [.slice q0_0 c_p0.b.length k0_0, .int .i64 c_0, .int .i64 c1_0] :: Chunk.box b0_0 107 [.int .i64 0, .int .i64 0, .slice .none 0 0] :: Chunk.box b3_5 107 [.int .i64 i_0, .int .i64 i1_0, .slice ai_0 ni_0 ci_0] :: Chunk.own tInt fi_0 ai_0 ni_0 ci_0 i2_0 :: C)
  refine WC.seq (WC.sr ?_)
  refine mv ?_
  refine sp (OpV.gtr rfl rfl) ?_
  refine WL.nil (En.next ?_)
  refine WC.cond rfl ?_ ?_
  ·
   intro hc_1
   replace zh0 := ifO_t hc_1 zh0
   refine WC.skip (En.next (WC.seq (WC.block ?_)))
   obtain ⟨⟨x7_3a, x7_3b⟩, e7_3, zh0⟩ := bnd zh0
   obtain ⟨⟨x7_6a, x7_6b⟩, e7_6, zh0⟩ := bnd zh0
   obtain ⟨⟨x7_8a, x7_8b⟩, e7_8, zh0⟩ := bnd zh0
   obtain ⟨⟨x7_11a, x7_11b⟩, e7_11, zh0⟩ := bnd zh0
   obtain ⟨⟨x7_15a, x7_15b⟩, e7_15, zh0⟩ := bnd zh0
   obtain ⟨x7_16, e7_16, zh0⟩ := bnd zh0
   refine WC.wkF (fun _ h => h.pm 2) ?_
   refine WC.wkF (fun _ h => h.pm 1) ?_
   refine WC.drawnH [_, _] (_ :: _ :: C) (fun _ h => h) (by kernel_rfl) ?_
   refine tk 1 rfl (OpV.move rfl) ?_
   refine tk 2 rfl (OpV.move rfl) ?_
   refine tk 4 rfl (OpV.move rfl) ?_
   refine tk 5 rfl (OpV.move rfl) ?_
   refine tk 7 rfl (OpV.move rfl) ?_
   refine tk 10 rfl (OpV.move rfl) ?_
   refine tk 14 rfl (OpV.move rfl) ?_
   refine WAE.all (rs := [0, 3]) (by kernel_rfl) rfl (AllR.cons rfl rfl rfl rfl ?_ (AllR.cons rfl rfl rfl rfl ?_ AllR.nil))
   ·
    refine OpH.light (OpV.loadAll rfl mq1 ag_107) ?_
    refine ⟨[_, _], rfl, ?_⟩
    refine al1 3 rfl ?_
    refine OpH.callX (ec rfl (ec rfl e0)) ca_105 (fun w hs => w_spec_l01Below e7_3 hs (fun w hs => (r0_0 _ (St.tl (F := [_, _, _]) hs)))) ?_
    rintro _ _ ⟨rfl, rfl⟩
    refine ⟨[_, _], rfl, ?_⟩
    refine al1 6 rfl ?_
    refine OpH.callX (ec rfl (ec rfl e0)) ca_105 (fun w hs => w_spec_l01Below e7_6 hs (fun w hs => (r0_0 _ (St.tl (F := [_, _, _]) hs)))) ?_
    rintro _ _ ⟨rfl, rfl⟩
    refine ⟨[_, _], rfl, ?_⟩
    refine al1 8 rfl ?_
    refine OpH.callX (ec rfl (ec rfl e0)) ca_105 (fun w hs => w_spec_l01Below e7_8 hs (fun w hs => (r0_0 _ (St.tl (F := [_, _, _]) hs)))) ?_
    rintro _ _ ⟨rfl, rfl⟩
    refine ⟨[_, _], rfl, ?_⟩
    refine tk 9 rfl (OpV.addR rfl rfl) ?_
    refine al1 11 rfl ?_
    refine OpH.callX (ec rfl (ec rfl e0)) ca_105 (fun w hs => w_spec_l01Below e7_11 hs (fun w hs => (r0_0 _ (St.tl (F := [_, _, _]) hs)))) ?_
    rintro _ _ ⟨rfl, rfl⟩
    refine ⟨[_, _], rfl, ?_⟩
    refine tk 12 rfl (OpV.addR rfl rfl) ?_
    refine tk 13 rfl (OpV.build (evps.cons rfl (evps.cons rfl (evps.cons rfl (evps.cons rfl (evps.nil))))) (bd_144_0_1_2_3 _ _ _ _)) ?_
    refine al1 15 rfl ?_
    refine OpH.callX (ec rfl e0) ca_127 (fun w hs => w_spec_l04Draw e7_15 hs (fun w hs => (r0_0 _ (St.tl (F := [_, _, _]) hs)))) ?_
    rintro _ _ ⟨rfl, rfl⟩
    refine ⟨[_, _], rfl, ?_⟩
    refine al1 16 rfl ?_
    refine OpH.callR (ec rfl (ec rfl (ec rfl e0))) ca_128 (fun w hs => w_spec_FillRect e7_16 (Ow.rd (hs.mem mq3))) ?_
    rintro _ _ ⟨a7_1600, n7_1600, c7_1600, f7_1600, rfl, rfl⟩
    refine ⟨[_, _, _], rfl, ?_⟩
    refine al0 17 rfl ?_
    refine OpH.storeTo (A := [_, _]) [_, _, _] rfl rfl rfl ts_107 rfl rfl rfl ?_
    refine ⟨[_, _, _], rfl, ?_⟩
    refine WAE.rebase (H := []) ?_
    refine WAE.done (by kernel_rfl) ?_ _
    refine En.block_norm (En.next (WC.region ?_))
    refine mv ?_
    refine sp (OpV.subR rfl rfl) ?_
    refine ag ?_
    refine WL.nil ?_
    exact En.backP zb0 zh0 (a7_1600, n7_1600, c7_1600, f7_1600) (sc (sc (sc (sc (sc (sc sn)))))) (fun _ h => ((((h).pm 2).pm 3).pm 3).sub (.cons_cons _ (.cons_cons _ (.cons_cons _ (.cons_cons _ (.cons _ (List.Sublist.refl _)))))))
   ·
    refine OpH.callX (ec rfl (ec rfl e0)) ca_105 (fun w hs => w_spec_l01Below e7_3 hs (fun w hs => (r0_0 _ (St.tl (F := [_, _, _]) hs)))) ?_
    rintro _ _ ⟨rfl, rfl⟩
    refine ⟨[_, _], rfl, ?_⟩
    refine WAE.all (rs := [0, 6]) (by kernel_rfl) rfl (AllR.cons rfl rfl rfl rfl ?_ (AllR.cons rfl rfl rfl rfl ?_ AllR.nil))
    ·
     refine OpH.light (OpV.loadAll rfl mq1 ag_107) ?_
     refine ⟨[_, _], rfl, ?_⟩
     refine al1 6 rfl ?_
     refine OpH.callX (ec rfl (ec rfl e0)) ca_105 (fun w hs => w_spec_l01Below e7_6 hs (fun w hs => (r0_0 _ (St.tl (F := [_, _, _]) hs)))) ?_
     rintro _ _ ⟨rfl, rfl⟩
     refine ⟨[_, _], rfl, ?_⟩
     refine al1 8 rfl ?_
     refine OpH.callX (ec rfl (ec rfl e0)) ca_105 (fun w hs => w_spec_l01Below e7_8 hs (fun w hs => (r0_0 _ (St.tl (F := [_, _, _]) hs)))) ?_
     rintro _ _ ⟨rfl, rfl⟩
     refine ⟨[_, _], rfl, ?_⟩
     refine tk 9 rfl (OpV.addR rfl rfl) ?_
     refine al1 11 rfl ?_
     refine OpH.callX (ec rfl (ec rfl e0)) ca_105 (fun w hs => w_spec_l01Below e7_11 hs (fun w hs => (r0_0 _ (St.tl (F := [_, _, _]) hs)))) ?_
     rintro _ _ ⟨rfl, rfl⟩
     refine ⟨[_, _], rfl, ?_⟩
     refine tk 12 rfl (OpV.addR rfl rfl) ?_
     refine tk 13 rfl (OpV.build (evps.cons rfl (evps.cons rfl (evps.cons rfl (evps.cons rfl (evps.nil))))) (bd_144_0_1_2_3 _ _ _ _)) ?_
     refine al1 15 rfl ?_
     refine OpH.callX (ec rfl e0) ca_127 (fun w hs => w_spec_l04Draw e7_15 hs (fun w hs => (r0_0 _ (St.tl (F := [_, _, _]) hs)))) ?_
     rintro _ _ ⟨rfl, rfl⟩
     refine ⟨[_, _], rfl, ?_⟩
     refine al1 16 rfl ?_
     refine OpH.callR (ec rfl (ec rfl (ec rfl e0))) ca_128 (fun w hs => w_spec_FillRect e7_16 (Ow.rd (hs.mem mq3))) ?_
     rintro _ _ ⟨a7_1600, n7_1600, c7_1600, f7_1600, rfl, rfl⟩
     refine ⟨[_, _, _], rfl, ?_⟩
     refine al0 17 rfl ?_
     refine OpH.storeTo (A := [_, _]) [_, _, _] rfl rfl rfl ts_107 rfl rfl rfl ?_
     refine ⟨[_, _, _], rfl, ?_⟩
     refine WAE.rebase (H := []) ?_
     refine WAE.done (by kernel_rfl) ?_ _
     refine En.block_norm (En.next (WC.region ?_))
     refine mv ?_
     refine sp (OpV.subR rfl rfl) ?_
     refine ag ?_
     refine WL.nil ?_
     exact En.backP zb0 zh0 (a7_1600, n7_1600, c7_1600, f7_1600) (sc (sc (sc (sc (sc (sc sn)))))) (fun _ h => ((((h).pm 2).pm 3).pm 3).sub (.cons_cons _ (.cons_cons _ (.cons_cons _ (.cons_cons _ (.cons _ (List.Sublist.refl _)))))))
    ·
     refine OpH.callX (ec rfl (ec rfl e0)) ca_105 (fun w hs => w_spec_l01Below e7_6 hs (fun w hs => (r0_0 _ (St.tl (F := [_, _, _]) hs)))) ?_
     rintro _ _ ⟨rfl, rfl⟩
     refine ⟨[_, _], rfl, ?_⟩
     refine WAE.all (rs := [0, 8]) (by kernel_rfl) rfl (AllR.cons rfl rfl rfl rfl ?_ (AllR.cons rfl rfl rfl rfl ?_ AllR.nil))
     ·
      refine OpH.light (OpV.loadAll rfl mq1 ag_107) ?_
      refine ⟨[_, _], rfl, ?_⟩
      refine al1 8 rfl ?_
      refine OpH.callX (ec rfl (ec rfl e0)) ca_105 (fun w hs => w_spec_l01Below e7_8 hs (fun w hs => (r0_0 _ (St.tl (F := [_, _, _]) hs)))) ?_
      rintro _ _ ⟨rfl, rfl⟩
      refine ⟨[_, _], rfl, ?_⟩
      refine tk 9 rfl (OpV.addR rfl rfl) ?_
      refine al1 11 rfl ?_
      refine OpH.callX (ec rfl (ec rfl e0)) ca_105 (fun w hs => w_spec_l01Below e7_11 hs (fun w hs => (r0_0 _ (St.tl (F := [_, _, _]) hs)))) ?_
      rintro _ _ ⟨rfl, rfl⟩
      refine ⟨[_, _], rfl, ?_⟩
      refine tk 12 rfl (OpV.addR rfl rfl) ?_
      refine tk 13 rfl (OpV.build (evps.cons rfl (evps.cons rfl (evps.cons rfl (evps.cons rfl (evps.nil))))) (bd_144_0_1_2_3 _ _ _ _)) ?_
      refine al1 15 rfl ?_
      refine OpH.callX (ec rfl e0) ca_127 (fun w hs => w_spec_l04Draw e7_15 hs (fun w hs => (r0_0 _ (St.tl (F := [_, _, _]) hs)))) ?_
      rintro _ _ ⟨rfl, rfl⟩
      refine ⟨[_, _], rfl, ?_⟩
      refine al1 16 rfl ?_
      refine OpH.callR (ec rfl (ec rfl (ec rfl e0))) ca_128 (fun w hs => w_spec_FillRect e7_16 (Ow.rd (hs.mem mq3))) ?_
      rintro _ _ ⟨a7_1600, n7_1600, c7_1600, f7_1600, rfl, rfl⟩
      refine ⟨[_, _, _], rfl, ?_⟩
      refine al0 17 rfl ?_
      refine OpH.storeTo (A := [_, _]) [_, _, _] rfl rfl rfl ts_107 rfl rfl rfl ?_
      refine ⟨[_, _, _], rfl, ?_⟩
      refine WAE.rebase (H := []) ?_
      refine WAE.done (by kernel_rfl) ?_ _
      refine En.block_norm (En.next (WC.region ?_))
      refine mv ?_
      refine sp (OpV.subR rfl rfl) ?_
      refine ag ?_
      refine WL.nil ?_
      exact En.backP zb0 zh0 (a7_1600, n7_1600, c7_1600, f7_1600) (sc (sc (sc (sc (sc (sc sn)))))) (fun _ h => ((((h).pm 2).pm 3).pm 3).sub (.cons_cons _ (.cons_cons _ (.cons_cons _ (.cons_cons _ (.cons _ (List.Sublist.refl _)))))))
     ·
      refine OpH.callX (ec rfl (ec rfl e0)) ca_105 (fun w hs => w_spec_l01Below e7_8 hs (fun w hs => (r0_0 _ (St.tl (F := [_, _, _]) hs)))) ?_
      rintro _ _ ⟨rfl, rfl⟩
      refine ⟨[_, _], rfl, ?_⟩
      refine tk 9 rfl (OpV.addR rfl rfl) ?_
      refine WAE.all (rs := [0, 11]) (by kernel_rfl) rfl (AllR.cons rfl rfl rfl rfl ?_ (AllR.cons rfl rfl rfl rfl ?_ AllR.nil))
      ·
       refine OpH.light (OpV.loadAll rfl mq1 ag_107) ?_
       refine ⟨[_, _], rfl, ?_⟩
       refine al1 11 rfl ?_
       refine OpH.callX (ec rfl (ec rfl e0)) ca_105 (fun w hs => w_spec_l01Below e7_11 hs (fun w hs => (r0_0 _ (St.tl (F := [_, _, _]) hs)))) ?_
       rintro _ _ ⟨rfl, rfl⟩
       refine ⟨[_, _], rfl, ?_⟩
       refine tk 12 rfl (OpV.addR rfl rfl) ?_
       refine tk 13 rfl (OpV.build (evps.cons rfl (evps.cons rfl (evps.cons rfl (evps.cons rfl (evps.nil))))) (bd_144_0_1_2_3 _ _ _ _)) ?_
       refine al1 15 rfl ?_
       refine OpH.callX (ec rfl e0) ca_127 (fun w hs => w_spec_l04Draw e7_15 hs (fun w hs => (r0_0 _ (St.tl (F := [_, _, _]) hs)))) ?_
       rintro _ _ ⟨rfl, rfl⟩
       refine ⟨[_, _], rfl, ?_⟩
       refine al1 16 rfl ?_
       refine OpH.callR (ec rfl (ec rfl (ec rfl e0))) ca_128 (fun w hs => w_spec_FillRect e7_16 (Ow.rd (hs.mem mq3))) ?_
       rintro _ _ ⟨a7_1600, n7_1600, c7_1600, f7_1600, rfl, rfl⟩
       refine ⟨[_, _, _], rfl, ?_⟩
       refine al0 17 rfl ?_
       refine OpH.storeTo (A := [_, _]) [_, _, _] rfl rfl rfl ts_107 rfl rfl rfl ?_
       refine ⟨[_, _, _], rfl, ?_⟩
       refine WAE.rebase (H := []) ?_
       refine WAE.done (by kernel_rfl) ?_ _
       refine En.block_norm (En.next (WC.region ?_))
       refine mv ?_
       refine sp (OpV.subR rfl rfl) ?_
       refine ag ?_
       refine WL.nil ?_
       exact En.backP zb0 zh0 (a7_1600, n7_1600, c7_1600, f7_1600) (sc (sc (sc (sc (sc (sc sn)))))) (fun _ h => ((((h).pm 2).pm 3).pm 3).sub (.cons_cons _ (.cons_cons _ (.cons_cons _ (.cons_cons _ (.cons _ (List.Sublist.refl _)))))))
      ·
       refine OpH.callX (ec rfl (ec rfl e0)) ca_105 (fun w hs => w_spec_l01Below e7_11 hs (fun w hs => (r0_0 _ (St.tl (F := [_, _, _]) hs)))) ?_
       rintro _ _ ⟨rfl, rfl⟩
       refine ⟨[_, _], rfl, ?_⟩
       refine tk 12 rfl (OpV.addR rfl rfl) ?_
       refine tk 13 rfl (OpV.build (evps.cons rfl (evps.cons rfl (evps.cons rfl (evps.cons rfl (evps.nil))))) (bd_144_0_1_2_3 _ _ _ _)) ?_
       refine WAE.all (rs := [0, 15]) (by kernel_rfl) rfl (AllR.cons rfl rfl rfl rfl ?_ (AllR.cons rfl rfl rfl rfl ?_ AllR.nil))
       ·
        refine OpH.light (OpV.loadAll rfl mq1 ag_107) ?_
        refine ⟨[_, _], rfl, ?_⟩
        refine al1 15 rfl ?_
        refine OpH.callX (ec rfl e0) ca_127 (fun w hs => w_spec_l04Draw e7_15 hs (fun w hs => (r0_0 _ (St.tl (F := [_, _, _]) hs)))) ?_
        rintro _ _ ⟨rfl, rfl⟩
        refine ⟨[_, _], rfl, ?_⟩
        refine al1 16 rfl ?_
        refine OpH.callR (ec rfl (ec rfl (ec rfl e0))) ca_128 (fun w hs => w_spec_FillRect e7_16 (Ow.rd (hs.mem mq3))) ?_
        rintro _ _ ⟨a7_1600, n7_1600, c7_1600, f7_1600, rfl, rfl⟩
        refine ⟨[_, _, _], rfl, ?_⟩
        refine al0 17 rfl ?_
        refine OpH.storeTo (A := [_, _]) [_, _, _] rfl rfl rfl ts_107 rfl rfl rfl ?_
        refine ⟨[_, _, _], rfl, ?_⟩
        refine WAE.rebase (H := []) ?_
        refine WAE.done (by kernel_rfl) ?_ _
        refine En.block_norm (En.next (WC.region ?_))
        refine mv ?_
        refine sp (OpV.subR rfl rfl) ?_
        refine ag ?_
        refine WL.nil ?_
        exact En.backP zb0 zh0 (a7_1600, n7_1600, c7_1600, f7_1600) (sc (sc (sc (sc (sc (sc sn)))))) (fun _ h => ((((h).pm 2).pm 3).pm 3).sub (.cons_cons _ (.cons_cons _ (.cons_cons _ (.cons_cons _ (.cons _ (List.Sublist.refl _)))))))
       ·
        refine OpH.callX (ec rfl e0) ca_127 (fun w hs => w_spec_l04Draw e7_15 hs (fun w hs => (r0_0 _ (St.tl (F := [_, _, _]) hs)))) ?_
        rintro _ _ ⟨rfl, rfl⟩
        refine ⟨[_, _], rfl, ?_⟩
        refine al1 0 rfl ?_
        refine OpH.light (OpV.loadAll rfl mq1 ag_107) ?_
        refine ⟨[_, _], rfl, ?_⟩
        refine al1 16 rfl ?_
        refine OpH.callR (ec rfl (ec rfl (ec rfl e0))) ca_128 (fun w hs => w_spec_FillRect e7_16 (Ow.rd (hs.mem mq3))) ?_
        rintro _ _ ⟨a7_1600, n7_1600, c7_1600, f7_1600, rfl, rfl⟩
        refine ⟨[_, _, _], rfl, ?_⟩
        refine al0 17 rfl ?_
        refine OpH.storeTo (A := [_, _]) [_, _, _] rfl rfl rfl ts_107 rfl rfl rfl ?_
        refine ⟨[_, _, _], rfl, ?_⟩
        refine WAE.rebase (H := []) ?_
        refine WAE.done (by kernel_rfl) ?_ _
        refine En.block_norm (En.next (WC.region ?_))
        refine mv ?_
        refine sp (OpV.subR rfl rfl) ?_
        refine ag ?_
        refine WL.nil ?_
        exact En.backP zb0 zh0 (a7_1600, n7_1600, c7_1600, f7_1600) (sc (sc (sc (sc (sc (sc sn)))))) (fun _ h => ((((h).pm 2).pm 3).pm 3).sub (.cons_cons _ (.cons_cons _ (.cons_cons _ (.cons_cons _ (.cons _ (List.Sublist.refl _)))))))
  ·
   intro hc_1
   replace zh0 := ifO_f hc_1 zh0
   refine WC.exit (En.then_exit (En.then_exit ?_))
   have hx := exitP ze0 zh0
   exact En.wk _ _ (sc (sc sn)) (fun _ h => (((h).pm 3).pm 3).pm 3) (zK0_0 ((i_0, i1_0, i2_0, c_0, c1_0), (ai_0, ni_0, ci_0, fi_0)) hx.symm)

theorem w_spec_l19Planes {a_p0 : L01CurT} {a_p1 : Int} {a_p2 : Int} {r : (List PlaneT) × L01CurT} {b0 : Nat} {q0_0 : Option Addr} {l0_0 k0_0 : Nat} (h : spec_l19Planes a_p0 a_p1 a_p2 = some r) {w0 w : World} {C : List Chunk} (hs0 : St w0 (Chunk.box b0 128 [.slice q0_0 l0_0 k0_0, .int .i64 a_p0.i, .int .i64 a_p0.h] :: C) w) (r0_0 : ∀ w, St w0 C w → Rd tU8 w q0_0 l0_0 k0_0 a_p0.b) :
    Calls Tryz.prog 106 #[.pointer (some ⟨b0, 0, .none⟩), .int .i64 a_p1, .int .i64 a_p2] w (fun en w' => ∃ rv G, en = .returned rv ∧ (∃ (a0_0 : Option Addr) (n0_0 : Nat) (c0_0 : Nat) (f0_0 : List Nat), rv = .slice a0_0 n0_0 c0_0 ∧ G = Chunk.own tPlane f0_0 a0_0 n0_0 c0_0 r.1 :: Chunk.box b0 128 [.slice q0_0 l0_0 k0_0, .int .i64 r.2.i, .int .i64 r.2.h] :: C) ∧ St w0 G w') := by
 obtain rfl := (r0_0 _ (St.tl (F := [_]) hs0)).1
 unfold spec_l19Planes at h
 refine enterF hs0 (vs := [_, _, _]) Tryz.func106 rfl rfl rfl rfl ?_
 refine WC.sr ?_
 refine ag ?_
 refine WL.nil (En.next (WC.seq ?_))
 obtain ⟨⟨x1_3a, x1_3b⟩, e1_3, h⟩ := bnd h
 obtain ⟨x1_5, e1_5, h⟩ := bnd h
 refine WC.region ?_
 refine mv ?_
 refine mv ?_
 refine mv ?_
 refine WL.heavy rfl rfl rfl (OpH.callX (ec rfl e0) ca_127 (fun w hs => w_spec_l04Draw e1_3 hs (fun w hs => (r0_0 _ (St.tl (F := []) hs)))) ?_)
 rintro _ _ ⟨rfl, rfl⟩
 refine sp (OpV.orR rfl rfl) ?_
 refine WL.heavy rfl rfl rfl (OpH.callR (ec rfl (ec rfl (ec rfl e0))) ca_83 (fun w hs => w_spec_NewImage e1_5) ?_)
 rintro _ _ ⟨a1_500, n1_500, c1_500, f1_500, rfl, rfl⟩
 refine WL.heavy rfl rfl rfl (OpH.alloc zc_107 ?_)
 intro b1_6
 refine WL.heavy0 rfl rfl (OpH.storeTo (A := []) [_, _, _] rfl rfl rfl ts_107 rfl rfl rfl ?_)
 refine WL.nil (En.next (WC.seq ?_))
 obtain ⟨⟨x2_2a, x2_2b⟩, e2_2, h⟩ := bnd h
 obtain ⟨⟨x2_4a, x2_4b⟩, e2_4, h⟩ := bnd h
 obtain ⟨x2_6, e2_6, h⟩ := bnd h
 refine WC.wkF (fun _ h => h.pm 2) ?_
 refine WC.wkF (fun _ h => h.pm 1) ?_
 refine WC.drawnH [_, _] (_ :: C) (fun _ h => h) (by kernel_rfl) ?_
 refine tk 1 rfl (OpV.move rfl) ?_
 refine tk 3 rfl (OpV.move rfl) ?_
 refine WAE.all (rs := [0, 2]) (by kernel_rfl) rfl (AllR.cons rfl rfl rfl rfl ?_ (AllR.cons rfl rfl rfl rfl ?_ AllR.nil))
 ·
  refine OpH.light (OpV.loadAll rfl mq0 ag_107) ?_
  refine ⟨[_, _], rfl, ?_⟩
  refine al1 2 rfl ?_
  refine OpH.wkF (fun _ h => h.pm 1) ?_
  refine OpH.callX (ec rfl e0) ca_129 (fun w hs => w_spec_l02Rect e2_2 hs (fun w hs => (r0_0 _ (St.tl (F := [_, _]) hs)))) ?_
  rintro _ _ ⟨rfl, rfl⟩
  refine ⟨[_, _], rfl, ?_⟩
  refine al1 4 rfl ?_
  refine OpH.callX (ec rfl e0) ca_127 (fun w hs => w_spec_l04Draw e2_4 hs (fun w hs => (r0_0 _ (St.tl (F := [_, _]) hs)))) ?_
  rintro _ _ ⟨rfl, rfl⟩
  refine ⟨[_, _], rfl, ?_⟩
  refine tk 5 rfl (OpV.orR rfl rfl) ?_
  refine al1 6 rfl ?_
  refine OpH.callR (ec rfl (ec rfl (ec rfl e0))) ca_128 (fun w hs => w_spec_FillRect e2_6 (Ow.rd (hs.mem mq2))) ?_
  rintro _ _ ⟨a2_600, n2_600, c2_600, f2_600, rfl, rfl⟩
  refine ⟨[_, _, _], rfl, ?_⟩
  refine al0 7 rfl ?_
  refine OpH.storeTo (A := [_, _]) [_, _, _] rfl rfl rfl ts_107 rfl rfl rfl ?_
  refine ⟨[_, _, _], rfl, ?_⟩
  refine WAE.rebase (H := []) ?_
  refine WAE.done (by kernel_rfl) ?_ _
  refine En.next (WC.seq ?_)
  obtain ⟨⟨x3_2a, x3_2b⟩, e3_2, h⟩ := bnd h
  obtain ⟨x3_3, e3_3, h⟩ := bnd h
  refine WC.wkF (fun _ h => h.pm 1) ?_
  refine WC.drawnH [_] (_ :: _ :: _ :: C) (fun _ h => h) (by kernel_rfl) ?_
  refine tk 0 rfl (OpV.loadAll rfl mq1 ag_107) ?_
  refine tk 1 rfl (OpV.move rfl) ?_
  refine al1 2 rfl ?_
  refine OpH.callX (ec rfl (ec rfl e0)) ca_105 (fun w hs => w_spec_l01Below e3_2 hs (fun w hs => (r0_0 _ (St.tl (F := [_, _, _]) hs)))) ?_
  rintro _ _ ⟨rfl, rfl⟩
  refine ⟨[_], rfl, ?_⟩
  refine WAE.rebase (H := []) ?_
  refine al1 3 rfl ?_
  refine OpH.callR (ec rfl (ec rfl (ec rfl (ec rfl e0)))) ca_82 (fun w hs => w_spec_PlaneOf e3_3 (Ow.rd (hs.mem mq1))) ?_
  rintro _ _ ⟨a3_300, n3_300, c3_300, f3_300, rfl, rfl⟩
  refine ⟨[_], rfl, ?_⟩
  refine al1 4 rfl ?_
  refine OpH.wkF (fun _ h => h.innNil (A := tPlane)) ?_
  refine OpH.wkF (fun _ h => h.pm 1) ?_
  refine OpH.wkF (fun _ h => tPlane_mk x3_3.On x3_3.X x3_3.Y x3_3.W x3_3.H x3_3.Layout x3_3.Words x3_3.Alpha x3_3.Orient x3_3.ToW x3_3.ToH h) ?_
  refine OpH.wkF (fun _ h => h.innSnoc) ?_
  refine OpH.litN (A := tPlane) (evps.cons rfl (evps.nil)) (bs_36_1_0 _ _ _ _ _ _ _ _ _ _ _ _ _) rfl rfl (Nat.le_of_ble_eq_true rfl) ?_
  intro b3_4 f3_4
  refine ⟨[_], rfl, ?_⟩
  refine WAE.rebase (H := []) ?_
  refine tk 5 rfl (OpV.assign rfl) ?_
  refine WAE.done (by kernel_rfl) ?_ _
  refine En.next (WC.seq (WC.sr ?_))
  refine ag ?_
  refine WL.nil (En.next (WC.block ?_))
  obtain ⟨zy0, ezy0, h⟩ := bnd h
  refine WC.cut (X := ((List PlaneT) × Int × Int) × ((Option Addr) × Nat × Nat × (List Nat))) (.exit 0) (fun x => zy0 = x.1) (fun x => match x with | ((v_0e, x_0e, x1_0e), (av_0e, nv_0e, cv_0e, fv_0e)) => [(8, .slice av_0e nv_0e cv_0e)]) (fun x => match x with | ((v_0e, x_0e, x1_0e), (av_0e, nv_0e, cv_0e, fv_0e)) => (Chunk.own tPlane fv_0e av_0e nv_0e cv_0e v_0e :: Chunk.box b0 128 [.slice q0_0 a_p0.b.length k0_0, .int .i64 x_0e, .int .i64 x1_0e] :: C)) ?_ ?_
  ·
   rintro ⟨⟨v_0e, x_0e, x1_0e⟩, ⟨av_0e, nv_0e, cv_0e, fv_0e⟩⟩ hx
   replace hx : (v_0e, x_0e, x1_0e) = zy0 := hx.symm
   subst hx
   show En _ _ _ _ [(8, .slice av_0e nv_0e cv_0e)] (Chunk.own tPlane fv_0e av_0e nv_0e cv_0e v_0e :: Chunk.box b0 128 [.slice q0_0 a_p0.b.length k0_0, .int .i64 x_0e, .int .i64 x1_0e] :: C)
   refine En.block_exit (En.next (WC.sr ?_))
   refine mv ?_
   refine ag ?_
   refine WL.nil (En.next (WC.ret ?_))
   refine En.ret1 rfl (Res.tmp rfl) ?_
   obtain rfl := Option.some.inj h
   intro w' hs
   have hs := hs
   exact ⟨_, _, rfl, ⟨av_0e, nv_0e, cv_0e, fv_0e, rfl, rfl⟩, hs⟩
  ·
   intro zK0_0
   refine WC.loopP (G := (Option Addr) × Nat × Nat × (List Nat)) (fun s g => match s, g with | (x_0, x1_0, v_0, v1_0), (av_0, nv_0, cv_0, fv_0) => [(0, .pointer (some ⟨b0, 0, .none⟩)), (8, .slice av_0 nv_0 cv_0), (9, .int .i64 v1_0)]) (fun s g => match s, g with | (x_0, x1_0, v_0, v1_0), (av_0, nv_0, cv_0, fv_0) => (Chunk.box b0 128 [.slice q0_0 a_p0.b.length k0_0, .int .i64 x_0, .int .i64 x1_0] :: Chunk.own tPlane fv_0 av_0 nv_0 cv_0 v_0 :: C)) (x3_2b.i, x3_2b.h, [x3_3], 1) ((some ⟨b3_4, 0, .none⟩), 1, 1, f3_4) ezy0 (by exact sc (sc (sc sn))) (by exact (fun _ h => ((h).pm 1).sub (.cons_cons _ (.cons_cons _ (.cons _ (.cons _ (.cons _ (List.Sublist.refl _)))))))) ?_
   rintro zm0 ⟨x_0, x1_0, v_0, v1_0⟩ ⟨av_0, nv_0, cv_0, fv_0⟩ zo0 zf0 zb0 ze0
   have zh0 : spec_l19Planes_L0 a_p0 x_0 x1_0 v_0 v1_0 = some zo0 := zf0
   unfold spec_l19Planes_L0 at zh0
   show WC _ _ _ _ _ [(0, .pointer (some ⟨b0, 0, .none⟩)), (8, .slice av_0 nv_0 cv_0), (9, .int .i64 v1_0)] (Chunk.box b0 128 [.slice q0_0 a_p0.b.length k0_0, .int .i64 x_0, .int .i64 x1_0] :: Chunk.own tPlane fv_0 av_0 nv_0 cv_0 v_0 :: C)
   refine WC.seq (WC.sr ?_)
   refine mv ?_
   refine sp (OpV.lss rfl rfl) ?_
   refine WL.nil (En.next ?_)
   refine WC.cond rfl ?_ ?_
   ·
    intro hc_1
    replace zh0 := ifO_t hc_1 zh0
    refine WC.skip (En.next (WC.seq ?_))
    obtain ⟨zy1, ej1, zh0⟩ := bnd zh0
    refine WC.cut (X := (Int × Int × (List PlaneT)) × ((Option Addr) × Nat × Nat × (List Nat))) .normal (fun x => zy1 = x.1) (fun x => match x with | ((x_1j, x1_1j, v_1j), (av_1j, nv_1j, cv_1j, fv_1j)) => [(0, .pointer (some ⟨b0, 0, .none⟩)), (8, .slice av_1j nv_1j cv_1j), (9, .int .i64 v1_0)]) (fun x => match x with | ((x_1j, x1_1j, v_1j), (av_1j, nv_1j, cv_1j, fv_1j)) => (Chunk.box b0 128 [.slice q0_0 a_p0.b.length k0_0, .int .i64 x_1j, .int .i64 x1_1j] :: Chunk.own tPlane fv_1j av_1j nv_1j cv_1j v_1j :: C)) ?_ ?_
    ·
     rintro ⟨⟨x_1j, x1_1j, v_1j⟩, ⟨av_1j, nv_1j, cv_1j, fv_1j⟩⟩ hx
     replace hx : (x_1j, x1_1j, v_1j) = zy1 := hx.symm
     subst hx
     show En _ _ _ _ [(0, .pointer (some ⟨b0, 0, .none⟩)), (8, .slice av_1j nv_1j cv_1j), (9, .int .i64 v1_0)] (Chunk.box b0 128 [.slice q0_0 a_p0.b.length k0_0, .int .i64 x_1j, .int .i64 x1_1j] :: Chunk.own tPlane fv_1j av_1j nv_1j cv_1j v_1j :: C)
     refine En.next (WC.region ?_)
     refine mv ?_
     refine sp (OpV.addR rfl rfl) ?_
     refine ag ?_
     refine WL.nil ?_
     exact En.backP zb0 zh0 (av_1j, nv_1j, cv_1j, fv_1j) (sc (sc (sc sn))) (fun _ h => h)
    ·
     intro zK1
     refine WC.block (WC.sr ?_)
     refine sp (OpV.build (evps.nil) bd_61_) ?_
     refine WL.heavy rfl rfl rfl (OpH.alloc zc_61 ?_)
     intro b7_1
     refine WL.heavy0 rfl rfl (OpH.storeTo (A := []) [_, _, _, _, _, _, _, _, _, _, _] rfl rfl rfl ts_61 rfl rfl rfl ?_)
     refine WL.nil (En.next (WC.seq (WC.seq ?_)))
     obtain ⟨⟨x8_1a, x8_1b⟩, e8_1, ej1⟩ := bnd ej1
     refine WC.region ?_
     refine mv ?_
     refine WL.wkF (fun _ h => h.pm 1) ?_
     refine WL.heavy rfl rfl rfl (OpH.callX (ec rfl (ec rfl e0)) ca_109 (fun w hs => w_spec_l01Once e8_1 hs (fun w hs => (r0_0 _ (St.tl (F := [_, _]) hs)))) ?_)
     rintro _ _ ⟨rfl, rfl⟩
     refine sp (OpV.not rfl) ?_
     refine WL.nil (En.next ?_)
     refine WC.cond rfl ?_ ?_
     ·
      intro hc_2
      replace ej1 := ifO_t hc_2 ej1
      refine WC.seq ?_
      obtain ⟨⟨x9_1a, x9_1b⟩, e9_1, ej1⟩ := bnd ej1
      obtain ⟨⟨x9_3a, x9_3b⟩, e9_3, ej1⟩ := bnd ej1
      obtain ⟨⟨x9_6a, x9_6b⟩, e9_6, ej1⟩ := bnd ej1
      obtain ⟨⟨x9_9a, x9_9b⟩, e9_9, ej1⟩ := bnd ej1
      obtain ⟨x9_10, e9_10, ej1⟩ := bnd ej1
      refine WC.region ?_
      refine mv ?_
      refine WL.heavy rfl rfl rfl (OpH.callX (ec rfl (ec rfl e0)) ca_130 (fun w hs => w_spec_l05Image e9_1 hs (fun w hs => (r0_0 _ (St.tl (F := [_, _]) hs)))) ?_)
      rintro _ _ ⟨a9_100, n9_100, c9_100, f9_100, rfl, rfl⟩
      refine mv ?_
      refine WL.wkF (fun _ h => h.pm 1) ?_
      refine WL.heavy rfl rfl rfl (OpH.callX (ec rfl (ec rfl e0)) ca_105 (fun w hs => w_spec_l01Below e9_3 hs (fun w hs => (r0_0 _ (St.tl (F := [_, _, _]) hs)))) ?_)
      rintro _ _ ⟨rfl, rfl⟩
      refine sp (OpV.subR rfl rfl) ?_
      refine mv ?_
      refine WL.heavy rfl rfl rfl (OpH.callX (ec rfl (ec rfl e0)) ca_105 (fun w hs => w_spec_l01Below e9_6 hs (fun w hs => (r0_0 _ (St.tl (F := [_, _, _]) hs)))) ?_)
      rintro _ _ ⟨rfl, rfl⟩
      refine sp (OpV.subR rfl rfl) ?_
      refine mv ?_
      refine WL.heavy rfl rfl rfl (OpH.callX (ec rfl (ec rfl e0)) ca_105 (fun w hs => w_spec_l01Below e9_9 hs (fun w hs => (r0_0 _ (St.tl (F := [_, _, _]) hs)))) ?_)
      rintro _ _ ⟨rfl, rfl⟩
      refine WL.heavy rfl rfl rfl (OpH.callR (ec rfl (ec rfl (ec rfl (ec rfl e0)))) ca_82 (fun w hs => w_spec_PlaneOf e9_10 (Ow.rd (hs.mem mq1))) ?_)
      rintro _ _ ⟨a9_1000, n9_1000, c9_1000, f9_1000, rfl, rfl⟩
      refine WL.heavy0 rfl rfl (OpH.storeTo (A := [_, _, _]) [_, _, _, _, _, _, _, _, _, _, _] rfl rfl rfl ts_61 rfl rfl rfl ?_)
      refine WL.nil (En.next (WC.sr ?_))
      refine mv ?_
      refine sp (OpV.lss rfl rfl) ?_
      refine WL.nil (En.next ?_)
      refine WC.cond rfl ?_ ?_
      ·
       intro hc_3
       replace ej1 := ifO_t hc_3 ej1
       refine WC.seq ?_
       obtain ⟨⟨x11_2a, x11_2b⟩, e11_2, ej1⟩ := bnd ej1
       refine WC.region ?_
       refine mv ?_
       refine WL.heavy rfl rfl rfl (OpH.litF (A := tInt) (xs := [255, 100]) tInt_flat (evps.cons rfl (evps.cons rfl (evps.nil))) (bs_23_2_0_1 _ _) rfl rfl (Nat.le_of_ble_eq_true rfl) ?_)
       intro b11_1
       refine WL.wkF (fun _ h => h.pm 2) ?_
       refine WL.heavy rfl rfl rfl (OpH.callX (ec rfl (ec rfl e0)) ca_131 (fun w hs => w_spec_l01PickInt e11_2 hs (fun w hs => (r0_0 _ (St.tl (F := [_, _, _, _, _]) hs))) (fun w hs => (Ow.rd (hs.mem mq0)))) ?_)
       rintro _ _ ⟨rfl, rfl⟩
       refine sp (OpV.fieldAddr rfl fo_61_7) ?_
       refine WL.heavy0 rfl rfl (OpH.storeTo (A := [_, _, _, _]) [_, _, _, _, _, _, _, _, _, _, _] rfl rfl rfl ts_3 rfl rfl rfl ?_)
       refine WL.nil (En.next (WC.seq ?_))
       obtain ⟨⟨x12_1a, x12_1b⟩, e12_1, ej1⟩ := bnd ej1
       refine WC.region ?_
       refine mv ?_
       refine WL.heavy rfl rfl rfl (OpH.callX (ec rfl (ec rfl e0)) ca_105 (fun w hs => w_spec_l01Below e12_1 hs (fun w hs => (r0_0 _ (St.tl (F := [_, _, _, _, _]) hs)))) ?_)
       rintro _ _ ⟨rfl, rfl⟩
       refine sp (OpV.fieldAddr rfl fo_61_8) ?_
       refine WL.heavy0 rfl rfl (OpH.storeTo (A := [_, _, _, _]) [_, _, _, _, _, _, _, _, _, _, _] rfl rfl rfl ts_3 rfl rfl rfl ?_)
       refine WL.nil (En.next (WC.seq ?_))
       obtain ⟨⟨q13_5, y13_5_0, y13_5_1⟩, e13_5, ej1⟩ := bnd ej1
       refine WC.region ?_
       refine mv ?_
       refine sp (OpV.eql rfl rfl) ?_
       refine mv ?_
       refine WL.mid 3 (E' := [(0, .pointer (some ⟨b0, 0, .none⟩)), (8, .slice av_0 nv_0 cv_0), (9, .int .i64 v1_0), (10, .pointer (some ⟨b7_1, 0, .none⟩)), (62, .bool q13_5)]) (F' := (Chunk.box b0 128 [.slice q0_0 a_p0.b.length k0_0, .int .i64 y13_5_0, .int .i64 y13_5_1] :: Chunk.own tInt [b11_1] (some ⟨b11_1, 0, .none⟩) 2 2 [255, 100] :: Chunk.own tInt f9_1000 a9_1000 n9_1000 c9_1000 x9_10.Words :: Chunk.own tInt f9_100 a9_100 n9_100 c9_100 x9_1a.Data :: Chunk.box b7_1 61 [.bool x9_10.On, .int .i64 x9_10.X, .int .i64 x9_10.Y, .int .i64 x9_10.W, .int .i64 x9_10.H, .int .i64 x9_10.Layout, .slice a9_1000 n9_1000 c9_1000, .int .i64 x11_2a, .int .i64 x12_1a, .int .i64 x9_10.ToW, .int .i64 x9_10.ToH] :: Chunk.own tPlane fv_0 av_0 nv_0 cv_0 v_0 :: C)) (fun KGz1 => ?_) ?_
       ·
        refine WL.split (t := 59) rfl (fun hAz1 => ?_) (fun hAz1 => ?_)
        ·
         have hqz1 := ifO_t hAz1 e13_5
         obtain ⟨⟨x13_4a, x13_4b⟩, e13_4, hqz1⟩ := bnd hqz1
         replace hqz1 := Option.some.inj hqz1
         simp only [Prod.mk.injEq] at hqz1
         obtain ⟨rfl, rfl, rfl⟩ := hqz1
         refine mv ?_
         refine WL.heavy rfl rfl rfl (OpH.callX (ec rfl (ec rfl e0)) ca_109 (fun w hs => w_spec_l01Once e13_4 hs (fun w hs => (r0_0 _ (St.tl (F := [_, _, _, _, _]) hs)))) ?_)
         rintro _ _ ⟨rfl, rfl⟩
         refine sp (OpV.pickT rfl rfl) ?_
         exact WL.wk (sc (sc (sc (sc (sc sn))))) (fun _ h => h) KGz1
        ·
         have hqz1 := ifO_f hAz1 e13_5
         replace hqz1 := Option.some.inj hqz1
         simp only [Prod.mk.injEq] at hqz1
         obtain ⟨rfl, rfl, rfl⟩ := hqz1
         refine sk ?_
         refine sk ?_
         refine sp (OpV.pickF rfl rfl) ?_
         exact WL.wk (sc (sc (sc (sc (sc sn))))) (fun _ h => h) KGz1
       refine WL.nil (En.next ?_)
       refine WC.cond rfl ?_ ?_
       ·
        intro hc_4
        replace ej1 := ifO_t hc_4 ej1
        refine WC.seq ?_
        obtain ⟨⟨x14_1a, x14_1b⟩, e14_1, ej1⟩ := bnd ej1
        refine WC.region ?_
        refine mv ?_
        refine WL.heavy rfl rfl rfl (OpH.callX (ec rfl (ec rfl e0)) ca_105 (fun w hs => w_spec_l01Below e14_1 hs (fun w hs => (r0_0 _ (St.tl (F := [_, _, _, _, _]) hs)))) ?_)
        rintro _ _ ⟨rfl, rfl⟩
        refine sp (OpV.addR rfl rfl) ?_
        refine sp (OpV.fieldAddr rfl fo_61_9) ?_
        refine WL.heavy0 rfl rfl (OpH.storeTo (A := [_, _, _, _]) [_, _, _, _, _, _, _, _, _, _, _] rfl rfl rfl ts_3 rfl rfl rfl ?_)
        refine WL.nil (En.next ?_)
        obtain ⟨⟨x15_1a, x15_1b⟩, e15_1, ej1⟩ := bnd ej1
        refine WC.region ?_
        refine mv ?_
        refine WL.heavy rfl rfl rfl (OpH.callX (ec rfl (ec rfl e0)) ca_105 (fun w hs => w_spec_l01Below e15_1 hs (fun w hs => (r0_0 _ (St.tl (F := [_, _, _, _, _]) hs)))) ?_)
        rintro _ _ ⟨rfl, rfl⟩
        refine sp (OpV.addR rfl rfl) ?_
        refine sp (OpV.fieldAddr rfl fo_61_10) ?_
        refine WL.heavy0 rfl rfl (OpH.storeTo (A := [_, _, _, _]) [_, _, _, _, _, _, _, _, _, _, _] rfl rfl rfl ts_3 rfl rfl rfl ?_)
        refine WL.nil (En.next ?_)
        obtain ⟨x16_3, e16_3, ej1⟩ := bnd ej1
        refine WC.region ?_
        refine mv ?_
        refine sp (OpV.loadAll rfl mq4 ag_61) ?_
        refine WL.heavy rfl rfl rfl (OpH.buildSlice (evps.cons rfl (evps.nil)) (bs_36_1_0 _ _ _ _ _ _ _ _ _ _ _ _ _) ?_)
        intro b16_2
        refine WL.wkF (fun _ h => h.pm 3) ?_
        refine WL.wkF (fun _ h => tPlane_mk x9_10.On x9_10.X x9_10.Y x9_10.W x9_10.H x9_10.Layout x9_10.Words x11_2a x12_1a (wr (1 + x14_1a)) (wr (1 + x15_1a)) h) ?_
        refine WL.wkF (fun _ h => h.pm 6) ?_
        refine WL.wkF (fun _ h => h.pm 1) ?_
        refine WL.heavy rfl rfl rfl (OpH.push (A := tPlane) rfl rfl rfl mi_36 rfl (by decide) mq0 e16_3 ?_)
        intro f16_3 a16_3 c16_3
        refine ag ?_
        refine WL.nil (En.block_norm ?_)
        exact En.wk _ _ (sc (sc (sc sn))) (fun _ h => ((h).pm 2).sub (.cons_cons _ (.cons_cons _ (.cons _ (.cons _ (.cons _ (.cons _ (List.Sublist.refl _)))))))) (zK1 ((x15_1b.i, x15_1b.h, x16_3), (a16_3, x16_3.length, c16_3, f16_3)) (Option.some.inj ej1).symm)
       ·
        intro hc_4
        replace ej1 := ifO_f hc_4 ej1
        refine WC.skip (En.next ?_)
        obtain ⟨x16_3, e16_3, ej1⟩ := bnd ej1
        refine WC.region ?_
        refine mv ?_
        refine sp (OpV.loadAll rfl mq4 ag_61) ?_
        refine WL.heavy rfl rfl rfl (OpH.buildSlice (evps.cons rfl (evps.nil)) (bs_36_1_0 _ _ _ _ _ _ _ _ _ _ _ _ _) ?_)
        intro b16_2
        refine WL.wkF (fun _ h => h.pm 3) ?_
        refine WL.wkF (fun _ h => tPlane_mk x9_10.On x9_10.X x9_10.Y x9_10.W x9_10.H x9_10.Layout x9_10.Words x11_2a x12_1a x9_10.ToW x9_10.ToH h) ?_
        refine WL.wkF (fun _ h => h.pm 6) ?_
        refine WL.wkF (fun _ h => h.pm 1) ?_
        refine WL.heavy rfl rfl rfl (OpH.push (A := tPlane) rfl rfl rfl mi_36 rfl (by decide) mq0 e16_3 ?_)
        intro f16_3 a16_3 c16_3
        refine ag ?_
        refine WL.nil (En.block_norm ?_)
        exact En.wk _ _ (sc (sc (sc sn))) (fun _ h => ((h).pm 2).sub (.cons_cons _ (.cons_cons _ (.cons _ (.cons _ (.cons _ (.cons _ (List.Sublist.refl _)))))))) (zK1 ((y13_5_0, y13_5_1, x16_3), (a16_3, x16_3.length, c16_3, f16_3)) (Option.some.inj ej1).symm)
      ·
       intro hc_3
       replace ej1 := ifO_f hc_3 ej1
       refine WC.skip (En.next ?_)
       obtain ⟨x16_3, e16_3, ej1⟩ := bnd ej1
       refine WC.region ?_
       refine mv ?_
       refine sp (OpV.loadAll rfl mq3 ag_61) ?_
       refine WL.heavy rfl rfl rfl (OpH.buildSlice (evps.cons rfl (evps.nil)) (bs_36_1_0 _ _ _ _ _ _ _ _ _ _ _ _ _) ?_)
       intro b16_2
       refine WL.wkF (fun _ h => h.pm 1) ?_
       refine WL.wkF (fun _ h => tPlane_mk x9_10.On x9_10.X x9_10.Y x9_10.W x9_10.H x9_10.Layout x9_10.Words x9_10.Alpha x9_10.Orient x9_10.ToW x9_10.ToH h) ?_
       refine WL.wkF (fun _ h => h.pm 5) ?_
       refine WL.wkF (fun _ h => h.pm 1) ?_
       refine WL.heavy rfl rfl rfl (OpH.push (A := tPlane) rfl rfl rfl mi_36 rfl (by decide) mq0 e16_3 ?_)
       intro f16_3 a16_3 c16_3
       refine ag ?_
       refine WL.nil (En.block_norm ?_)
       exact En.wk _ _ (sc (sc (sc sn))) (fun _ h => ((h).pm 2).sub (.cons_cons _ (.cons_cons _ (.cons _ (.cons _ (.cons _ (List.Sublist.refl _))))))) (zK1 ((x9_9b.i, x9_9b.h, x16_3), (a16_3, x16_3.length, c16_3, f16_3)) (Option.some.inj ej1).symm)
     ·
      intro hc_2
      replace ej1 := ifO_f hc_2 ej1
      refine WC.skip (En.next ?_)
      obtain ⟨x16_3, e16_3, ej1⟩ := bnd ej1
      refine WC.region ?_
      refine mv ?_
      refine sp (OpV.loadAll rfl mq1 ag_61) ?_
      refine WL.heavy rfl rfl rfl (OpH.buildSlice (evps.cons rfl (evps.nil)) (bs_36_1_0 _ _ _ _ _ _ _ _ _ _ _ _ _) ?_)
      intro b16_2
      refine WL.wkF (fun _ h => h.ownNil (A := tInt)) ?_
      refine WL.wkF (fun _ h => tPlane_mk false 0 0 0 0 0 ([] : List Int) 0 0 0 0 h) ?_
      refine WL.wkF (fun _ h => h.pm 4) ?_
      refine WL.wkF (fun _ h => h.pm 1) ?_
      refine WL.heavy rfl rfl rfl (OpH.push (A := tPlane) rfl rfl rfl mi_36 rfl (by decide) mq0 e16_3 ?_)
      intro f16_3 a16_3 c16_3
      refine ag ?_
      refine WL.nil (En.block_norm ?_)
      exact En.wk _ _ (sc (sc (sc sn))) (fun _ h => ((h).pm 2).sub (.cons_cons _ (.cons_cons _ (.cons _ (.cons _ (List.Sublist.refl _)))))) (zK1 ((x8_1b.i, x8_1b.h, x16_3), (a16_3, x16_3.length, c16_3, f16_3)) (Option.some.inj ej1).symm)
   ·
    intro hc_1
    replace zh0 := ifO_f hc_1 zh0
    refine WC.exit (En.then_exit (En.then_exit ?_))
    have hx := exitP ze0 zh0
    exact En.wk _ _ (sc sn) (fun _ h => (h).pm 1) (zK0_0 ((v_0, x_0, x1_0), (av_0, nv_0, cv_0, fv_0)) hx.symm)
 ·
  refine OpH.wkF (fun _ h => h.pm 1) ?_
  refine OpH.callX (ec rfl e0) ca_129 (fun w hs => w_spec_l02Rect e2_2 hs (fun w hs => (r0_0 _ (St.tl (F := [_, _]) hs)))) ?_
  rintro _ _ ⟨rfl, rfl⟩
  refine ⟨[_, _], rfl, ?_⟩
  refine WAE.all (rs := [0, 4]) (by kernel_rfl) rfl (AllR.cons rfl rfl rfl rfl ?_ (AllR.cons rfl rfl rfl rfl ?_ AllR.nil))
  ·
   refine OpH.light (OpV.loadAll rfl mq1 ag_107) ?_
   refine ⟨[_, _], rfl, ?_⟩
   refine al1 4 rfl ?_
   refine OpH.callX (ec rfl e0) ca_127 (fun w hs => w_spec_l04Draw e2_4 hs (fun w hs => (r0_0 _ (St.tl (F := [_, _]) hs)))) ?_
   rintro _ _ ⟨rfl, rfl⟩
   refine ⟨[_, _], rfl, ?_⟩
   refine tk 5 rfl (OpV.orR rfl rfl) ?_
   refine al1 6 rfl ?_
   refine OpH.callR (ec rfl (ec rfl (ec rfl e0))) ca_128 (fun w hs => w_spec_FillRect e2_6 (Ow.rd (hs.mem mq2))) ?_
   rintro _ _ ⟨a2_600, n2_600, c2_600, f2_600, rfl, rfl⟩
   refine ⟨[_, _, _], rfl, ?_⟩
   refine al0 7 rfl ?_
   refine OpH.storeTo (A := [_, _]) [_, _, _] rfl rfl rfl ts_107 rfl rfl rfl ?_
   refine ⟨[_, _, _], rfl, ?_⟩
   refine WAE.rebase (H := []) ?_
   refine WAE.done (by kernel_rfl) ?_ _
   refine En.next (WC.seq ?_)
   obtain ⟨⟨x3_2a, x3_2b⟩, e3_2, h⟩ := bnd h
   obtain ⟨x3_3, e3_3, h⟩ := bnd h
   refine WC.wkF (fun _ h => h.pm 1) ?_
   refine WC.drawnH [_] (_ :: _ :: _ :: C) (fun _ h => h) (by kernel_rfl) ?_
   refine tk 0 rfl (OpV.loadAll rfl mq1 ag_107) ?_
   refine tk 1 rfl (OpV.move rfl) ?_
   refine al1 2 rfl ?_
   refine OpH.callX (ec rfl (ec rfl e0)) ca_105 (fun w hs => w_spec_l01Below e3_2 hs (fun w hs => (r0_0 _ (St.tl (F := [_, _, _]) hs)))) ?_
   rintro _ _ ⟨rfl, rfl⟩
   refine ⟨[_], rfl, ?_⟩
   refine WAE.rebase (H := []) ?_
   refine al1 3 rfl ?_
   refine OpH.callR (ec rfl (ec rfl (ec rfl (ec rfl e0)))) ca_82 (fun w hs => w_spec_PlaneOf e3_3 (Ow.rd (hs.mem mq1))) ?_
   rintro _ _ ⟨a3_300, n3_300, c3_300, f3_300, rfl, rfl⟩
   refine ⟨[_], rfl, ?_⟩
   refine al1 4 rfl ?_
   refine OpH.wkF (fun _ h => h.innNil (A := tPlane)) ?_
   refine OpH.wkF (fun _ h => h.pm 1) ?_
   refine OpH.wkF (fun _ h => tPlane_mk x3_3.On x3_3.X x3_3.Y x3_3.W x3_3.H x3_3.Layout x3_3.Words x3_3.Alpha x3_3.Orient x3_3.ToW x3_3.ToH h) ?_
   refine OpH.wkF (fun _ h => h.innSnoc) ?_
   refine OpH.litN (A := tPlane) (evps.cons rfl (evps.nil)) (bs_36_1_0 _ _ _ _ _ _ _ _ _ _ _ _ _) rfl rfl (Nat.le_of_ble_eq_true rfl) ?_
   intro b3_4 f3_4
   refine ⟨[_], rfl, ?_⟩
   refine WAE.rebase (H := []) ?_
   refine tk 5 rfl (OpV.assign rfl) ?_
   refine WAE.done (by kernel_rfl) ?_ _
   refine En.next (WC.seq (WC.sr ?_))
   refine ag ?_
   refine WL.nil (En.next (WC.block ?_))
   obtain ⟨zy2, ezy2, h⟩ := bnd h
   refine WC.cut (X := ((List PlaneT) × Int × Int) × ((Option Addr) × Nat × Nat × (List Nat))) (.exit 0) (fun x => zy2 = x.1) (fun x => match x with | ((v_2e, x_2e, x1_2e), (av_2e, nv_2e, cv_2e, fv_2e)) => [(8, .slice av_2e nv_2e cv_2e)]) (fun x => match x with | ((v_2e, x_2e, x1_2e), (av_2e, nv_2e, cv_2e, fv_2e)) => (Chunk.own tPlane fv_2e av_2e nv_2e cv_2e v_2e :: Chunk.box b0 128 [.slice q0_0 a_p0.b.length k0_0, .int .i64 x_2e, .int .i64 x1_2e] :: C)) ?_ ?_
   ·
    rintro ⟨⟨v_2e, x_2e, x1_2e⟩, ⟨av_2e, nv_2e, cv_2e, fv_2e⟩⟩ hx
    replace hx : (v_2e, x_2e, x1_2e) = zy2 := hx.symm
    subst hx
    show En _ _ _ _ [(8, .slice av_2e nv_2e cv_2e)] (Chunk.own tPlane fv_2e av_2e nv_2e cv_2e v_2e :: Chunk.box b0 128 [.slice q0_0 a_p0.b.length k0_0, .int .i64 x_2e, .int .i64 x1_2e] :: C)
    refine En.block_exit (En.next (WC.sr ?_))
    refine mv ?_
    refine ag ?_
    refine WL.nil (En.next (WC.ret ?_))
    refine En.ret1 rfl (Res.tmp rfl) ?_
    obtain rfl := Option.some.inj h
    intro w' hs
    have hs := hs
    exact ⟨_, _, rfl, ⟨av_2e, nv_2e, cv_2e, fv_2e, rfl, rfl⟩, hs⟩
   ·
    intro zK2_0
    refine WC.loopP (G := (Option Addr) × Nat × Nat × (List Nat)) (fun s g => match s, g with | (x_2, x1_2, v_2, v1_2), (av_2, nv_2, cv_2, fv_2) => [(0, .pointer (some ⟨b0, 0, .none⟩)), (8, .slice av_2 nv_2 cv_2), (9, .int .i64 v1_2)]) (fun s g => match s, g with | (x_2, x1_2, v_2, v1_2), (av_2, nv_2, cv_2, fv_2) => (Chunk.box b0 128 [.slice q0_0 a_p0.b.length k0_0, .int .i64 x_2, .int .i64 x1_2] :: Chunk.own tPlane fv_2 av_2 nv_2 cv_2 v_2 :: C)) (x3_2b.i, x3_2b.h, [x3_3], 1) ((some ⟨b3_4, 0, .none⟩), 1, 1, f3_4) ezy2 (by exact sc (sc (sc sn))) (by exact (fun _ h => ((h).pm 1).sub (.cons_cons _ (.cons_cons _ (.cons _ (.cons _ (.cons _ (List.Sublist.refl _)))))))) ?_
    rintro zm2 ⟨x_2, x1_2, v_2, v1_2⟩ ⟨av_2, nv_2, cv_2, fv_2⟩ zo2 zf2 zb2 ze2
    have zh2 : spec_l19Planes_L2 a_p0 x_2 x1_2 v_2 v1_2 = some zo2 := zf2
    unfold spec_l19Planes_L2 at zh2
    show WC _ _ _ _ _ [(0, .pointer (some ⟨b0, 0, .none⟩)), (8, .slice av_2 nv_2 cv_2), (9, .int .i64 v1_2)] (Chunk.box b0 128 [.slice q0_0 a_p0.b.length k0_0, .int .i64 x_2, .int .i64 x1_2] :: Chunk.own tPlane fv_2 av_2 nv_2 cv_2 v_2 :: C)
    refine WC.seq (WC.sr ?_)
    refine mv ?_
    refine sp (OpV.lss rfl rfl) ?_
    refine WL.nil (En.next ?_)
    refine WC.cond rfl ?_ ?_
    ·
     intro hc_5
     replace zh2 := ifO_t hc_5 zh2
     refine WC.skip (En.next (WC.seq ?_))
     obtain ⟨zy3, ej3, zh2⟩ := bnd zh2
     refine WC.cut (X := (Int × Int × (List PlaneT)) × ((Option Addr) × Nat × Nat × (List Nat))) .normal (fun x => zy3 = x.1) (fun x => match x with | ((x_3j, x1_3j, v_3j), (av_3j, nv_3j, cv_3j, fv_3j)) => [(0, .pointer (some ⟨b0, 0, .none⟩)), (8, .slice av_3j nv_3j cv_3j), (9, .int .i64 v1_2)]) (fun x => match x with | ((x_3j, x1_3j, v_3j), (av_3j, nv_3j, cv_3j, fv_3j)) => (Chunk.box b0 128 [.slice q0_0 a_p0.b.length k0_0, .int .i64 x_3j, .int .i64 x1_3j] :: Chunk.own tPlane fv_3j av_3j nv_3j cv_3j v_3j :: C)) ?_ ?_
     ·
      rintro ⟨⟨x_3j, x1_3j, v_3j⟩, ⟨av_3j, nv_3j, cv_3j, fv_3j⟩⟩ hx
      replace hx : (x_3j, x1_3j, v_3j) = zy3 := hx.symm
      subst hx
      show En _ _ _ _ [(0, .pointer (some ⟨b0, 0, .none⟩)), (8, .slice av_3j nv_3j cv_3j), (9, .int .i64 v1_2)] (Chunk.box b0 128 [.slice q0_0 a_p0.b.length k0_0, .int .i64 x_3j, .int .i64 x1_3j] :: Chunk.own tPlane fv_3j av_3j nv_3j cv_3j v_3j :: C)
      refine En.next (WC.region ?_)
      refine mv ?_
      refine sp (OpV.addR rfl rfl) ?_
      refine ag ?_
      refine WL.nil ?_
      exact En.backP zb2 zh2 (av_3j, nv_3j, cv_3j, fv_3j) (sc (sc (sc sn))) (fun _ h => h)
     ·
      intro zK3
      refine WC.block (WC.sr ?_)
      refine sp (OpV.build (evps.nil) bd_61_) ?_
      refine WL.heavy rfl rfl rfl (OpH.alloc zc_61 ?_)
      intro b7_1
      refine WL.heavy0 rfl rfl (OpH.storeTo (A := []) [_, _, _, _, _, _, _, _, _, _, _] rfl rfl rfl ts_61 rfl rfl rfl ?_)
      refine WL.nil (En.next (WC.seq (WC.seq ?_)))
      obtain ⟨⟨x8_1a, x8_1b⟩, e8_1, ej3⟩ := bnd ej3
      refine WC.region ?_
      refine mv ?_
      refine WL.wkF (fun _ h => h.pm 1) ?_
      refine WL.heavy rfl rfl rfl (OpH.callX (ec rfl (ec rfl e0)) ca_109 (fun w hs => w_spec_l01Once e8_1 hs (fun w hs => (r0_0 _ (St.tl (F := [_, _]) hs)))) ?_)
      rintro _ _ ⟨rfl, rfl⟩
      refine sp (OpV.not rfl) ?_
      refine WL.nil (En.next ?_)
      refine WC.cond rfl ?_ ?_
      ·
       intro hc_6
       replace ej3 := ifO_t hc_6 ej3
       refine WC.seq ?_
       obtain ⟨⟨x9_1a, x9_1b⟩, e9_1, ej3⟩ := bnd ej3
       obtain ⟨⟨x9_3a, x9_3b⟩, e9_3, ej3⟩ := bnd ej3
       obtain ⟨⟨x9_6a, x9_6b⟩, e9_6, ej3⟩ := bnd ej3
       obtain ⟨⟨x9_9a, x9_9b⟩, e9_9, ej3⟩ := bnd ej3
       obtain ⟨x9_10, e9_10, ej3⟩ := bnd ej3
       refine WC.region ?_
       refine mv ?_
       refine WL.heavy rfl rfl rfl (OpH.callX (ec rfl (ec rfl e0)) ca_130 (fun w hs => w_spec_l05Image e9_1 hs (fun w hs => (r0_0 _ (St.tl (F := [_, _]) hs)))) ?_)
       rintro _ _ ⟨a9_100, n9_100, c9_100, f9_100, rfl, rfl⟩
       refine mv ?_
       refine WL.wkF (fun _ h => h.pm 1) ?_
       refine WL.heavy rfl rfl rfl (OpH.callX (ec rfl (ec rfl e0)) ca_105 (fun w hs => w_spec_l01Below e9_3 hs (fun w hs => (r0_0 _ (St.tl (F := [_, _, _]) hs)))) ?_)
       rintro _ _ ⟨rfl, rfl⟩
       refine sp (OpV.subR rfl rfl) ?_
       refine mv ?_
       refine WL.heavy rfl rfl rfl (OpH.callX (ec rfl (ec rfl e0)) ca_105 (fun w hs => w_spec_l01Below e9_6 hs (fun w hs => (r0_0 _ (St.tl (F := [_, _, _]) hs)))) ?_)
       rintro _ _ ⟨rfl, rfl⟩
       refine sp (OpV.subR rfl rfl) ?_
       refine mv ?_
       refine WL.heavy rfl rfl rfl (OpH.callX (ec rfl (ec rfl e0)) ca_105 (fun w hs => w_spec_l01Below e9_9 hs (fun w hs => (r0_0 _ (St.tl (F := [_, _, _]) hs)))) ?_)
       rintro _ _ ⟨rfl, rfl⟩
       refine WL.heavy rfl rfl rfl (OpH.callR (ec rfl (ec rfl (ec rfl (ec rfl e0)))) ca_82 (fun w hs => w_spec_PlaneOf e9_10 (Ow.rd (hs.mem mq1))) ?_)
       rintro _ _ ⟨a9_1000, n9_1000, c9_1000, f9_1000, rfl, rfl⟩
       refine WL.heavy0 rfl rfl (OpH.storeTo (A := [_, _, _]) [_, _, _, _, _, _, _, _, _, _, _] rfl rfl rfl ts_61 rfl rfl rfl ?_)
       refine WL.nil (En.next (WC.sr ?_))
       refine mv ?_
       refine sp (OpV.lss rfl rfl) ?_
       refine WL.nil (En.next ?_)
       refine WC.cond rfl ?_ ?_
       ·
        intro hc_7
        replace ej3 := ifO_t hc_7 ej3
        refine WC.seq ?_
        obtain ⟨⟨x11_2a, x11_2b⟩, e11_2, ej3⟩ := bnd ej3
        refine WC.region ?_
        refine mv ?_
        refine WL.heavy rfl rfl rfl (OpH.litF (A := tInt) (xs := [255, 100]) tInt_flat (evps.cons rfl (evps.cons rfl (evps.nil))) (bs_23_2_0_1 _ _) rfl rfl (Nat.le_of_ble_eq_true rfl) ?_)
        intro b11_1
        refine WL.wkF (fun _ h => h.pm 2) ?_
        refine WL.heavy rfl rfl rfl (OpH.callX (ec rfl (ec rfl e0)) ca_131 (fun w hs => w_spec_l01PickInt e11_2 hs (fun w hs => (r0_0 _ (St.tl (F := [_, _, _, _, _]) hs))) (fun w hs => (Ow.rd (hs.mem mq0)))) ?_)
        rintro _ _ ⟨rfl, rfl⟩
        refine sp (OpV.fieldAddr rfl fo_61_7) ?_
        refine WL.heavy0 rfl rfl (OpH.storeTo (A := [_, _, _, _]) [_, _, _, _, _, _, _, _, _, _, _] rfl rfl rfl ts_3 rfl rfl rfl ?_)
        refine WL.nil (En.next (WC.seq ?_))
        obtain ⟨⟨x12_1a, x12_1b⟩, e12_1, ej3⟩ := bnd ej3
        refine WC.region ?_
        refine mv ?_
        refine WL.heavy rfl rfl rfl (OpH.callX (ec rfl (ec rfl e0)) ca_105 (fun w hs => w_spec_l01Below e12_1 hs (fun w hs => (r0_0 _ (St.tl (F := [_, _, _, _, _]) hs)))) ?_)
        rintro _ _ ⟨rfl, rfl⟩
        refine sp (OpV.fieldAddr rfl fo_61_8) ?_
        refine WL.heavy0 rfl rfl (OpH.storeTo (A := [_, _, _, _]) [_, _, _, _, _, _, _, _, _, _, _] rfl rfl rfl ts_3 rfl rfl rfl ?_)
        refine WL.nil (En.next (WC.seq ?_))
        obtain ⟨⟨q13_5, y13_5_0, y13_5_1⟩, e13_5, ej3⟩ := bnd ej3
        refine WC.region ?_
        refine mv ?_
        refine sp (OpV.eql rfl rfl) ?_
        refine mv ?_
        refine WL.mid 3 (E' := [(0, .pointer (some ⟨b0, 0, .none⟩)), (8, .slice av_2 nv_2 cv_2), (9, .int .i64 v1_2), (10, .pointer (some ⟨b7_1, 0, .none⟩)), (62, .bool q13_5)]) (F' := (Chunk.box b0 128 [.slice q0_0 a_p0.b.length k0_0, .int .i64 y13_5_0, .int .i64 y13_5_1] :: Chunk.own tInt [b11_1] (some ⟨b11_1, 0, .none⟩) 2 2 [255, 100] :: Chunk.own tInt f9_1000 a9_1000 n9_1000 c9_1000 x9_10.Words :: Chunk.own tInt f9_100 a9_100 n9_100 c9_100 x9_1a.Data :: Chunk.box b7_1 61 [.bool x9_10.On, .int .i64 x9_10.X, .int .i64 x9_10.Y, .int .i64 x9_10.W, .int .i64 x9_10.H, .int .i64 x9_10.Layout, .slice a9_1000 n9_1000 c9_1000, .int .i64 x11_2a, .int .i64 x12_1a, .int .i64 x9_10.ToW, .int .i64 x9_10.ToH] :: Chunk.own tPlane fv_2 av_2 nv_2 cv_2 v_2 :: C)) (fun KGz2 => ?_) ?_
        ·
         refine WL.split (t := 59) rfl (fun hAz2 => ?_) (fun hAz2 => ?_)
         ·
          have hqz2 := ifO_t hAz2 e13_5
          obtain ⟨⟨x13_4a, x13_4b⟩, e13_4, hqz2⟩ := bnd hqz2
          replace hqz2 := Option.some.inj hqz2
          simp only [Prod.mk.injEq] at hqz2
          obtain ⟨rfl, rfl, rfl⟩ := hqz2
          refine mv ?_
          refine WL.heavy rfl rfl rfl (OpH.callX (ec rfl (ec rfl e0)) ca_109 (fun w hs => w_spec_l01Once e13_4 hs (fun w hs => (r0_0 _ (St.tl (F := [_, _, _, _, _]) hs)))) ?_)
          rintro _ _ ⟨rfl, rfl⟩
          refine sp (OpV.pickT rfl rfl) ?_
          exact WL.wk (sc (sc (sc (sc (sc sn))))) (fun _ h => h) KGz2
         ·
          have hqz2 := ifO_f hAz2 e13_5
          replace hqz2 := Option.some.inj hqz2
          simp only [Prod.mk.injEq] at hqz2
          obtain ⟨rfl, rfl, rfl⟩ := hqz2
          refine sk ?_
          refine sk ?_
          refine sp (OpV.pickF rfl rfl) ?_
          exact WL.wk (sc (sc (sc (sc (sc sn))))) (fun _ h => h) KGz2
        refine WL.nil (En.next ?_)
        refine WC.cond rfl ?_ ?_
        ·
         intro hc_8
         replace ej3 := ifO_t hc_8 ej3
         refine WC.seq ?_
         obtain ⟨⟨x14_1a, x14_1b⟩, e14_1, ej3⟩ := bnd ej3
         refine WC.region ?_
         refine mv ?_
         refine WL.heavy rfl rfl rfl (OpH.callX (ec rfl (ec rfl e0)) ca_105 (fun w hs => w_spec_l01Below e14_1 hs (fun w hs => (r0_0 _ (St.tl (F := [_, _, _, _, _]) hs)))) ?_)
         rintro _ _ ⟨rfl, rfl⟩
         refine sp (OpV.addR rfl rfl) ?_
         refine sp (OpV.fieldAddr rfl fo_61_9) ?_
         refine WL.heavy0 rfl rfl (OpH.storeTo (A := [_, _, _, _]) [_, _, _, _, _, _, _, _, _, _, _] rfl rfl rfl ts_3 rfl rfl rfl ?_)
         refine WL.nil (En.next ?_)
         obtain ⟨⟨x15_1a, x15_1b⟩, e15_1, ej3⟩ := bnd ej3
         refine WC.region ?_
         refine mv ?_
         refine WL.heavy rfl rfl rfl (OpH.callX (ec rfl (ec rfl e0)) ca_105 (fun w hs => w_spec_l01Below e15_1 hs (fun w hs => (r0_0 _ (St.tl (F := [_, _, _, _, _]) hs)))) ?_)
         rintro _ _ ⟨rfl, rfl⟩
         refine sp (OpV.addR rfl rfl) ?_
         refine sp (OpV.fieldAddr rfl fo_61_10) ?_
         refine WL.heavy0 rfl rfl (OpH.storeTo (A := [_, _, _, _]) [_, _, _, _, _, _, _, _, _, _, _] rfl rfl rfl ts_3 rfl rfl rfl ?_)
         refine WL.nil (En.next ?_)
         obtain ⟨x16_3, e16_3, ej3⟩ := bnd ej3
         refine WC.region ?_
         refine mv ?_
         refine sp (OpV.loadAll rfl mq4 ag_61) ?_
         refine WL.heavy rfl rfl rfl (OpH.buildSlice (evps.cons rfl (evps.nil)) (bs_36_1_0 _ _ _ _ _ _ _ _ _ _ _ _ _) ?_)
         intro b16_2
         refine WL.wkF (fun _ h => h.pm 3) ?_
         refine WL.wkF (fun _ h => tPlane_mk x9_10.On x9_10.X x9_10.Y x9_10.W x9_10.H x9_10.Layout x9_10.Words x11_2a x12_1a (wr (1 + x14_1a)) (wr (1 + x15_1a)) h) ?_
         refine WL.wkF (fun _ h => h.pm 6) ?_
         refine WL.wkF (fun _ h => h.pm 1) ?_
         refine WL.heavy rfl rfl rfl (OpH.push (A := tPlane) rfl rfl rfl mi_36 rfl (by decide) mq0 e16_3 ?_)
         intro f16_3 a16_3 c16_3
         refine ag ?_
         refine WL.nil (En.block_norm ?_)
         exact En.wk _ _ (sc (sc (sc sn))) (fun _ h => ((h).pm 2).sub (.cons_cons _ (.cons_cons _ (.cons _ (.cons _ (.cons _ (.cons _ (List.Sublist.refl _)))))))) (zK3 ((x15_1b.i, x15_1b.h, x16_3), (a16_3, x16_3.length, c16_3, f16_3)) (Option.some.inj ej3).symm)
        ·
         intro hc_8
         replace ej3 := ifO_f hc_8 ej3
         refine WC.skip (En.next ?_)
         obtain ⟨x16_3, e16_3, ej3⟩ := bnd ej3
         refine WC.region ?_
         refine mv ?_
         refine sp (OpV.loadAll rfl mq4 ag_61) ?_
         refine WL.heavy rfl rfl rfl (OpH.buildSlice (evps.cons rfl (evps.nil)) (bs_36_1_0 _ _ _ _ _ _ _ _ _ _ _ _ _) ?_)
         intro b16_2
         refine WL.wkF (fun _ h => h.pm 3) ?_
         refine WL.wkF (fun _ h => tPlane_mk x9_10.On x9_10.X x9_10.Y x9_10.W x9_10.H x9_10.Layout x9_10.Words x11_2a x12_1a x9_10.ToW x9_10.ToH h) ?_
         refine WL.wkF (fun _ h => h.pm 6) ?_
         refine WL.wkF (fun _ h => h.pm 1) ?_
         refine WL.heavy rfl rfl rfl (OpH.push (A := tPlane) rfl rfl rfl mi_36 rfl (by decide) mq0 e16_3 ?_)
         intro f16_3 a16_3 c16_3
         refine ag ?_
         refine WL.nil (En.block_norm ?_)
         exact En.wk _ _ (sc (sc (sc sn))) (fun _ h => ((h).pm 2).sub (.cons_cons _ (.cons_cons _ (.cons _ (.cons _ (.cons _ (.cons _ (List.Sublist.refl _)))))))) (zK3 ((y13_5_0, y13_5_1, x16_3), (a16_3, x16_3.length, c16_3, f16_3)) (Option.some.inj ej3).symm)
       ·
        intro hc_7
        replace ej3 := ifO_f hc_7 ej3
        refine WC.skip (En.next ?_)
        obtain ⟨x16_3, e16_3, ej3⟩ := bnd ej3
        refine WC.region ?_
        refine mv ?_
        refine sp (OpV.loadAll rfl mq3 ag_61) ?_
        refine WL.heavy rfl rfl rfl (OpH.buildSlice (evps.cons rfl (evps.nil)) (bs_36_1_0 _ _ _ _ _ _ _ _ _ _ _ _ _) ?_)
        intro b16_2
        refine WL.wkF (fun _ h => h.pm 1) ?_
        refine WL.wkF (fun _ h => tPlane_mk x9_10.On x9_10.X x9_10.Y x9_10.W x9_10.H x9_10.Layout x9_10.Words x9_10.Alpha x9_10.Orient x9_10.ToW x9_10.ToH h) ?_
        refine WL.wkF (fun _ h => h.pm 5) ?_
        refine WL.wkF (fun _ h => h.pm 1) ?_
        refine WL.heavy rfl rfl rfl (OpH.push (A := tPlane) rfl rfl rfl mi_36 rfl (by decide) mq0 e16_3 ?_)
        intro f16_3 a16_3 c16_3
        refine ag ?_
        refine WL.nil (En.block_norm ?_)
        exact En.wk _ _ (sc (sc (sc sn))) (fun _ h => ((h).pm 2).sub (.cons_cons _ (.cons_cons _ (.cons _ (.cons _ (.cons _ (List.Sublist.refl _))))))) (zK3 ((x9_9b.i, x9_9b.h, x16_3), (a16_3, x16_3.length, c16_3, f16_3)) (Option.some.inj ej3).symm)
      ·
       intro hc_6
       replace ej3 := ifO_f hc_6 ej3
       refine WC.skip (En.next ?_)
       obtain ⟨x16_3, e16_3, ej3⟩ := bnd ej3
       refine WC.region ?_
       refine mv ?_
       refine sp (OpV.loadAll rfl mq1 ag_61) ?_
       refine WL.heavy rfl rfl rfl (OpH.buildSlice (evps.cons rfl (evps.nil)) (bs_36_1_0 _ _ _ _ _ _ _ _ _ _ _ _ _) ?_)
       intro b16_2
       refine WL.wkF (fun _ h => h.ownNil (A := tInt)) ?_
       refine WL.wkF (fun _ h => tPlane_mk false 0 0 0 0 0 ([] : List Int) 0 0 0 0 h) ?_
       refine WL.wkF (fun _ h => h.pm 4) ?_
       refine WL.wkF (fun _ h => h.pm 1) ?_
       refine WL.heavy rfl rfl rfl (OpH.push (A := tPlane) rfl rfl rfl mi_36 rfl (by decide) mq0 e16_3 ?_)
       intro f16_3 a16_3 c16_3
       refine ag ?_
       refine WL.nil (En.block_norm ?_)
       exact En.wk _ _ (sc (sc (sc sn))) (fun _ h => ((h).pm 2).sub (.cons_cons _ (.cons_cons _ (.cons _ (.cons _ (List.Sublist.refl _)))))) (zK3 ((x8_1b.i, x8_1b.h, x16_3), (a16_3, x16_3.length, c16_3, f16_3)) (Option.some.inj ej3).symm)
    ·
     intro hc_5
     replace zh2 := ifO_f hc_5 zh2
     refine WC.exit (En.then_exit (En.then_exit ?_))
     have hx := exitP ze2 zh2
     exact En.wk _ _ (sc sn) (fun _ h => (h).pm 1) (zK2_0 ((v_2, x_2, x1_2), (av_2, nv_2, cv_2, fv_2)) hx.symm)
  ·
   refine OpH.callX (ec rfl e0) ca_127 (fun w hs => w_spec_l04Draw e2_4 hs (fun w hs => (r0_0 _ (St.tl (F := [_, _]) hs)))) ?_
   rintro _ _ ⟨rfl, rfl⟩
   refine ⟨[_, _], rfl, ?_⟩
   refine tk 5 rfl (OpV.orR rfl rfl) ?_
   refine al1 0 rfl ?_
   refine OpH.light (OpV.loadAll rfl mq1 ag_107) ?_
   refine ⟨[_, _], rfl, ?_⟩
   refine al1 6 rfl ?_
   refine OpH.callR (ec rfl (ec rfl (ec rfl e0))) ca_128 (fun w hs => w_spec_FillRect e2_6 (Ow.rd (hs.mem mq2))) ?_
   rintro _ _ ⟨a2_600, n2_600, c2_600, f2_600, rfl, rfl⟩
   refine ⟨[_, _, _], rfl, ?_⟩
   refine al0 7 rfl ?_
   refine OpH.storeTo (A := [_, _]) [_, _, _] rfl rfl rfl ts_107 rfl rfl rfl ?_
   refine ⟨[_, _, _], rfl, ?_⟩
   refine WAE.rebase (H := []) ?_
   refine WAE.done (by kernel_rfl) ?_ _
   refine En.next (WC.seq ?_)
   obtain ⟨⟨x3_2a, x3_2b⟩, e3_2, h⟩ := bnd h
   obtain ⟨x3_3, e3_3, h⟩ := bnd h
   refine WC.wkF (fun _ h => h.pm 1) ?_
   refine WC.drawnH [_] (_ :: _ :: _ :: C) (fun _ h => h) (by kernel_rfl) ?_
   refine tk 0 rfl (OpV.loadAll rfl mq1 ag_107) ?_
   refine tk 1 rfl (OpV.move rfl) ?_
   refine al1 2 rfl ?_
   refine OpH.callX (ec rfl (ec rfl e0)) ca_105 (fun w hs => w_spec_l01Below e3_2 hs (fun w hs => (r0_0 _ (St.tl (F := [_, _, _]) hs)))) ?_
   rintro _ _ ⟨rfl, rfl⟩
   refine ⟨[_], rfl, ?_⟩
   refine WAE.rebase (H := []) ?_
   refine al1 3 rfl ?_
   refine OpH.callR (ec rfl (ec rfl (ec rfl (ec rfl e0)))) ca_82 (fun w hs => w_spec_PlaneOf e3_3 (Ow.rd (hs.mem mq1))) ?_
   rintro _ _ ⟨a3_300, n3_300, c3_300, f3_300, rfl, rfl⟩
   refine ⟨[_], rfl, ?_⟩
   refine al1 4 rfl ?_
   refine OpH.wkF (fun _ h => h.innNil (A := tPlane)) ?_
   refine OpH.wkF (fun _ h => h.pm 1) ?_
   refine OpH.wkF (fun _ h => tPlane_mk x3_3.On x3_3.X x3_3.Y x3_3.W x3_3.H x3_3.Layout x3_3.Words x3_3.Alpha x3_3.Orient x3_3.ToW x3_3.ToH h) ?_
   refine OpH.wkF (fun _ h => h.innSnoc) ?_
   refine OpH.litN (A := tPlane) (evps.cons rfl (evps.nil)) (bs_36_1_0 _ _ _ _ _ _ _ _ _ _ _ _ _) rfl rfl (Nat.le_of_ble_eq_true rfl) ?_
   intro b3_4 f3_4
   refine ⟨[_], rfl, ?_⟩
   refine WAE.rebase (H := []) ?_
   refine tk 5 rfl (OpV.assign rfl) ?_
   refine WAE.done (by kernel_rfl) ?_ _
   refine En.next (WC.seq (WC.sr ?_))
   refine ag ?_
   refine WL.nil (En.next (WC.block ?_))
   obtain ⟨zy4, ezy4, h⟩ := bnd h
   refine WC.cut (X := ((List PlaneT) × Int × Int) × ((Option Addr) × Nat × Nat × (List Nat))) (.exit 0) (fun x => zy4 = x.1) (fun x => match x with | ((v_4e, x_4e, x1_4e), (av_4e, nv_4e, cv_4e, fv_4e)) => [(8, .slice av_4e nv_4e cv_4e)]) (fun x => match x with | ((v_4e, x_4e, x1_4e), (av_4e, nv_4e, cv_4e, fv_4e)) => (Chunk.own tPlane fv_4e av_4e nv_4e cv_4e v_4e :: Chunk.box b0 128 [.slice q0_0 a_p0.b.length k0_0, .int .i64 x_4e, .int .i64 x1_4e] :: C)) ?_ ?_
   ·
    rintro ⟨⟨v_4e, x_4e, x1_4e⟩, ⟨av_4e, nv_4e, cv_4e, fv_4e⟩⟩ hx
    replace hx : (v_4e, x_4e, x1_4e) = zy4 := hx.symm
    subst hx
    show En _ _ _ _ [(8, .slice av_4e nv_4e cv_4e)] (Chunk.own tPlane fv_4e av_4e nv_4e cv_4e v_4e :: Chunk.box b0 128 [.slice q0_0 a_p0.b.length k0_0, .int .i64 x_4e, .int .i64 x1_4e] :: C)
    refine En.block_exit (En.next (WC.sr ?_))
    refine mv ?_
    refine ag ?_
    refine WL.nil (En.next (WC.ret ?_))
    refine En.ret1 rfl (Res.tmp rfl) ?_
    obtain rfl := Option.some.inj h
    intro w' hs
    have hs := hs
    exact ⟨_, _, rfl, ⟨av_4e, nv_4e, cv_4e, fv_4e, rfl, rfl⟩, hs⟩
   ·
    intro zK4_0
    refine WC.loopP (G := (Option Addr) × Nat × Nat × (List Nat)) (fun s g => match s, g with | (x_4, x1_4, v_4, v1_4), (av_4, nv_4, cv_4, fv_4) => [(0, .pointer (some ⟨b0, 0, .none⟩)), (8, .slice av_4 nv_4 cv_4), (9, .int .i64 v1_4)]) (fun s g => match s, g with | (x_4, x1_4, v_4, v1_4), (av_4, nv_4, cv_4, fv_4) => (Chunk.box b0 128 [.slice q0_0 a_p0.b.length k0_0, .int .i64 x_4, .int .i64 x1_4] :: Chunk.own tPlane fv_4 av_4 nv_4 cv_4 v_4 :: C)) (x3_2b.i, x3_2b.h, [x3_3], 1) ((some ⟨b3_4, 0, .none⟩), 1, 1, f3_4) ezy4 (by exact sc (sc (sc sn))) (by exact (fun _ h => ((h).pm 1).sub (.cons_cons _ (.cons_cons _ (.cons _ (.cons _ (.cons _ (List.Sublist.refl _)))))))) ?_
    rintro zm4 ⟨x_4, x1_4, v_4, v1_4⟩ ⟨av_4, nv_4, cv_4, fv_4⟩ zo4 zf4 zb4 ze4
    have zh4 : spec_l19Planes_L4 a_p0 x_4 x1_4 v_4 v1_4 = some zo4 := zf4
    unfold spec_l19Planes_L4 at zh4
    show WC _ _ _ _ _ [(0, .pointer (some ⟨b0, 0, .none⟩)), (8, .slice av_4 nv_4 cv_4), (9, .int .i64 v1_4)] (Chunk.box b0 128 [.slice q0_0 a_p0.b.length k0_0, .int .i64 x_4, .int .i64 x1_4] :: Chunk.own tPlane fv_4 av_4 nv_4 cv_4 v_4 :: C)
    refine WC.seq (WC.sr ?_)
    refine mv ?_
    refine sp (OpV.lss rfl rfl) ?_
    refine WL.nil (En.next ?_)
    refine WC.cond rfl ?_ ?_
    ·
     intro hc_9
     replace zh4 := ifO_t hc_9 zh4
     refine WC.skip (En.next (WC.seq ?_))
     obtain ⟨zy5, ej5, zh4⟩ := bnd zh4
     refine WC.cut (X := (Int × Int × (List PlaneT)) × ((Option Addr) × Nat × Nat × (List Nat))) .normal (fun x => zy5 = x.1) (fun x => match x with | ((x_5j, x1_5j, v_5j), (av_5j, nv_5j, cv_5j, fv_5j)) => [(0, .pointer (some ⟨b0, 0, .none⟩)), (8, .slice av_5j nv_5j cv_5j), (9, .int .i64 v1_4)]) (fun x => match x with | ((x_5j, x1_5j, v_5j), (av_5j, nv_5j, cv_5j, fv_5j)) => (Chunk.box b0 128 [.slice q0_0 a_p0.b.length k0_0, .int .i64 x_5j, .int .i64 x1_5j] :: Chunk.own tPlane fv_5j av_5j nv_5j cv_5j v_5j :: C)) ?_ ?_
     ·
      rintro ⟨⟨x_5j, x1_5j, v_5j⟩, ⟨av_5j, nv_5j, cv_5j, fv_5j⟩⟩ hx
      replace hx : (x_5j, x1_5j, v_5j) = zy5 := hx.symm
      subst hx
      show En _ _ _ _ [(0, .pointer (some ⟨b0, 0, .none⟩)), (8, .slice av_5j nv_5j cv_5j), (9, .int .i64 v1_4)] (Chunk.box b0 128 [.slice q0_0 a_p0.b.length k0_0, .int .i64 x_5j, .int .i64 x1_5j] :: Chunk.own tPlane fv_5j av_5j nv_5j cv_5j v_5j :: C)
      refine En.next (WC.region ?_)
      refine mv ?_
      refine sp (OpV.addR rfl rfl) ?_
      refine ag ?_
      refine WL.nil ?_
      exact En.backP zb4 zh4 (av_5j, nv_5j, cv_5j, fv_5j) (sc (sc (sc sn))) (fun _ h => h)
     ·
      intro zK5
      refine WC.block (WC.sr ?_)
      refine sp (OpV.build (evps.nil) bd_61_) ?_
      refine WL.heavy rfl rfl rfl (OpH.alloc zc_61 ?_)
      intro b7_1
      refine WL.heavy0 rfl rfl (OpH.storeTo (A := []) [_, _, _, _, _, _, _, _, _, _, _] rfl rfl rfl ts_61 rfl rfl rfl ?_)
      refine WL.nil (En.next (WC.seq (WC.seq ?_)))
      obtain ⟨⟨x8_1a, x8_1b⟩, e8_1, ej5⟩ := bnd ej5
      refine WC.region ?_
      refine mv ?_
      refine WL.wkF (fun _ h => h.pm 1) ?_
      refine WL.heavy rfl rfl rfl (OpH.callX (ec rfl (ec rfl e0)) ca_109 (fun w hs => w_spec_l01Once e8_1 hs (fun w hs => (r0_0 _ (St.tl (F := [_, _]) hs)))) ?_)
      rintro _ _ ⟨rfl, rfl⟩
      refine sp (OpV.not rfl) ?_
      refine WL.nil (En.next ?_)
      refine WC.cond rfl ?_ ?_
      ·
       intro hc_10
       replace ej5 := ifO_t hc_10 ej5
       refine WC.seq ?_
       obtain ⟨⟨x9_1a, x9_1b⟩, e9_1, ej5⟩ := bnd ej5
       obtain ⟨⟨x9_3a, x9_3b⟩, e9_3, ej5⟩ := bnd ej5
       obtain ⟨⟨x9_6a, x9_6b⟩, e9_6, ej5⟩ := bnd ej5
       obtain ⟨⟨x9_9a, x9_9b⟩, e9_9, ej5⟩ := bnd ej5
       obtain ⟨x9_10, e9_10, ej5⟩ := bnd ej5
       refine WC.region ?_
       refine mv ?_
       refine WL.heavy rfl rfl rfl (OpH.callX (ec rfl (ec rfl e0)) ca_130 (fun w hs => w_spec_l05Image e9_1 hs (fun w hs => (r0_0 _ (St.tl (F := [_, _]) hs)))) ?_)
       rintro _ _ ⟨a9_100, n9_100, c9_100, f9_100, rfl, rfl⟩
       refine mv ?_
       refine WL.wkF (fun _ h => h.pm 1) ?_
       refine WL.heavy rfl rfl rfl (OpH.callX (ec rfl (ec rfl e0)) ca_105 (fun w hs => w_spec_l01Below e9_3 hs (fun w hs => (r0_0 _ (St.tl (F := [_, _, _]) hs)))) ?_)
       rintro _ _ ⟨rfl, rfl⟩
       refine sp (OpV.subR rfl rfl) ?_
       refine mv ?_
       refine WL.heavy rfl rfl rfl (OpH.callX (ec rfl (ec rfl e0)) ca_105 (fun w hs => w_spec_l01Below e9_6 hs (fun w hs => (r0_0 _ (St.tl (F := [_, _, _]) hs)))) ?_)
       rintro _ _ ⟨rfl, rfl⟩
       refine sp (OpV.subR rfl rfl) ?_
       refine mv ?_
       refine WL.heavy rfl rfl rfl (OpH.callX (ec rfl (ec rfl e0)) ca_105 (fun w hs => w_spec_l01Below e9_9 hs (fun w hs => (r0_0 _ (St.tl (F := [_, _, _]) hs)))) ?_)
       rintro _ _ ⟨rfl, rfl⟩
       refine WL.heavy rfl rfl rfl (OpH.callR (ec rfl (ec rfl (ec rfl (ec rfl e0)))) ca_82 (fun w hs => w_spec_PlaneOf e9_10 (Ow.rd (hs.mem mq1))) ?_)
       rintro _ _ ⟨a9_1000, n9_1000, c9_1000, f9_1000, rfl, rfl⟩
       refine WL.heavy0 rfl rfl (OpH.storeTo (A := [_, _, _]) [_, _, _, _, _, _, _, _, _, _, _] rfl rfl rfl ts_61 rfl rfl rfl ?_)
       refine WL.nil (En.next (WC.sr ?_))
       refine mv ?_
       refine sp (OpV.lss rfl rfl) ?_
       refine WL.nil (En.next ?_)
       refine WC.cond rfl ?_ ?_
       ·
        intro hc_11
        replace ej5 := ifO_t hc_11 ej5
        refine WC.seq ?_
        obtain ⟨⟨x11_2a, x11_2b⟩, e11_2, ej5⟩ := bnd ej5
        refine WC.region ?_
        refine mv ?_
        refine WL.heavy rfl rfl rfl (OpH.litF (A := tInt) (xs := [255, 100]) tInt_flat (evps.cons rfl (evps.cons rfl (evps.nil))) (bs_23_2_0_1 _ _) rfl rfl (Nat.le_of_ble_eq_true rfl) ?_)
        intro b11_1
        refine WL.wkF (fun _ h => h.pm 2) ?_
        refine WL.heavy rfl rfl rfl (OpH.callX (ec rfl (ec rfl e0)) ca_131 (fun w hs => w_spec_l01PickInt e11_2 hs (fun w hs => (r0_0 _ (St.tl (F := [_, _, _, _, _]) hs))) (fun w hs => (Ow.rd (hs.mem mq0)))) ?_)
        rintro _ _ ⟨rfl, rfl⟩
        refine sp (OpV.fieldAddr rfl fo_61_7) ?_
        refine WL.heavy0 rfl rfl (OpH.storeTo (A := [_, _, _, _]) [_, _, _, _, _, _, _, _, _, _, _] rfl rfl rfl ts_3 rfl rfl rfl ?_)
        refine WL.nil (En.next (WC.seq ?_))
        obtain ⟨⟨x12_1a, x12_1b⟩, e12_1, ej5⟩ := bnd ej5
        refine WC.region ?_
        refine mv ?_
        refine WL.heavy rfl rfl rfl (OpH.callX (ec rfl (ec rfl e0)) ca_105 (fun w hs => w_spec_l01Below e12_1 hs (fun w hs => (r0_0 _ (St.tl (F := [_, _, _, _, _]) hs)))) ?_)
        rintro _ _ ⟨rfl, rfl⟩
        refine sp (OpV.fieldAddr rfl fo_61_8) ?_
        refine WL.heavy0 rfl rfl (OpH.storeTo (A := [_, _, _, _]) [_, _, _, _, _, _, _, _, _, _, _] rfl rfl rfl ts_3 rfl rfl rfl ?_)
        refine WL.nil (En.next (WC.seq ?_))
        obtain ⟨⟨q13_5, y13_5_0, y13_5_1⟩, e13_5, ej5⟩ := bnd ej5
        refine WC.region ?_
        refine mv ?_
        refine sp (OpV.eql rfl rfl) ?_
        refine mv ?_
        refine WL.mid 3 (E' := [(0, .pointer (some ⟨b0, 0, .none⟩)), (8, .slice av_4 nv_4 cv_4), (9, .int .i64 v1_4), (10, .pointer (some ⟨b7_1, 0, .none⟩)), (62, .bool q13_5)]) (F' := (Chunk.box b0 128 [.slice q0_0 a_p0.b.length k0_0, .int .i64 y13_5_0, .int .i64 y13_5_1] :: Chunk.own tInt [b11_1] (some ⟨b11_1, 0, .none⟩) 2 2 [255, 100] :: Chunk.own tInt f9_1000 a9_1000 n9_1000 c9_1000 x9_10.Words :: Chunk.own tInt f9_100 a9_100 n9_100 c9_100 x9_1a.Data :: Chunk.box b7_1 61 [.bool x9_10.On, .int .i64 x9_10.X, .int .i64 x9_10.Y, .int .i64 x9_10.W, .int .i64 x9_10.H, .int .i64 x9_10.Layout, .slice a9_1000 n9_1000 c9_1000, .int .i64 x11_2a, .int .i64 x12_1a, .int .i64 x9_10.ToW, .int .i64 x9_10.ToH] :: Chunk.own tPlane fv_4 av_4 nv_4 cv_4 v_4 :: C)) (fun KGz3 => ?_) ?_
        ·
         refine WL.split (t := 59) rfl (fun hAz3 => ?_) (fun hAz3 => ?_)
         ·
          have hqz3 := ifO_t hAz3 e13_5
          obtain ⟨⟨x13_4a, x13_4b⟩, e13_4, hqz3⟩ := bnd hqz3
          replace hqz3 := Option.some.inj hqz3
          simp only [Prod.mk.injEq] at hqz3
          obtain ⟨rfl, rfl, rfl⟩ := hqz3
          refine mv ?_
          refine WL.heavy rfl rfl rfl (OpH.callX (ec rfl (ec rfl e0)) ca_109 (fun w hs => w_spec_l01Once e13_4 hs (fun w hs => (r0_0 _ (St.tl (F := [_, _, _, _, _]) hs)))) ?_)
          rintro _ _ ⟨rfl, rfl⟩
          refine sp (OpV.pickT rfl rfl) ?_
          exact WL.wk (sc (sc (sc (sc (sc sn))))) (fun _ h => h) KGz3
         ·
          have hqz3 := ifO_f hAz3 e13_5
          replace hqz3 := Option.some.inj hqz3
          simp only [Prod.mk.injEq] at hqz3
          obtain ⟨rfl, rfl, rfl⟩ := hqz3
          refine sk ?_
          refine sk ?_
          refine sp (OpV.pickF rfl rfl) ?_
          exact WL.wk (sc (sc (sc (sc (sc sn))))) (fun _ h => h) KGz3
        refine WL.nil (En.next ?_)
        refine WC.cond rfl ?_ ?_
        ·
         intro hc_12
         replace ej5 := ifO_t hc_12 ej5
         refine WC.seq ?_
         obtain ⟨⟨x14_1a, x14_1b⟩, e14_1, ej5⟩ := bnd ej5
         refine WC.region ?_
         refine mv ?_
         refine WL.heavy rfl rfl rfl (OpH.callX (ec rfl (ec rfl e0)) ca_105 (fun w hs => w_spec_l01Below e14_1 hs (fun w hs => (r0_0 _ (St.tl (F := [_, _, _, _, _]) hs)))) ?_)
         rintro _ _ ⟨rfl, rfl⟩
         refine sp (OpV.addR rfl rfl) ?_
         refine sp (OpV.fieldAddr rfl fo_61_9) ?_
         refine WL.heavy0 rfl rfl (OpH.storeTo (A := [_, _, _, _]) [_, _, _, _, _, _, _, _, _, _, _] rfl rfl rfl ts_3 rfl rfl rfl ?_)
         refine WL.nil (En.next ?_)
         obtain ⟨⟨x15_1a, x15_1b⟩, e15_1, ej5⟩ := bnd ej5
         refine WC.region ?_
         refine mv ?_
         refine WL.heavy rfl rfl rfl (OpH.callX (ec rfl (ec rfl e0)) ca_105 (fun w hs => w_spec_l01Below e15_1 hs (fun w hs => (r0_0 _ (St.tl (F := [_, _, _, _, _]) hs)))) ?_)
         rintro _ _ ⟨rfl, rfl⟩
         refine sp (OpV.addR rfl rfl) ?_
         refine sp (OpV.fieldAddr rfl fo_61_10) ?_
         refine WL.heavy0 rfl rfl (OpH.storeTo (A := [_, _, _, _]) [_, _, _, _, _, _, _, _, _, _, _] rfl rfl rfl ts_3 rfl rfl rfl ?_)
         refine WL.nil (En.next ?_)
         obtain ⟨x16_3, e16_3, ej5⟩ := bnd ej5
         refine WC.region ?_
         refine mv ?_
         refine sp (OpV.loadAll rfl mq4 ag_61) ?_
         refine WL.heavy rfl rfl rfl (OpH.buildSlice (evps.cons rfl (evps.nil)) (bs_36_1_0 _ _ _ _ _ _ _ _ _ _ _ _ _) ?_)
         intro b16_2
         refine WL.wkF (fun _ h => h.pm 3) ?_
         refine WL.wkF (fun _ h => tPlane_mk x9_10.On x9_10.X x9_10.Y x9_10.W x9_10.H x9_10.Layout x9_10.Words x11_2a x12_1a (wr (1 + x14_1a)) (wr (1 + x15_1a)) h) ?_
         refine WL.wkF (fun _ h => h.pm 6) ?_
         refine WL.wkF (fun _ h => h.pm 1) ?_
         refine WL.heavy rfl rfl rfl (OpH.push (A := tPlane) rfl rfl rfl mi_36 rfl (by decide) mq0 e16_3 ?_)
         intro f16_3 a16_3 c16_3
         refine ag ?_
         refine WL.nil (En.block_norm ?_)
         exact En.wk _ _ (sc (sc (sc sn))) (fun _ h => ((h).pm 2).sub (.cons_cons _ (.cons_cons _ (.cons _ (.cons _ (.cons _ (.cons _ (List.Sublist.refl _)))))))) (zK5 ((x15_1b.i, x15_1b.h, x16_3), (a16_3, x16_3.length, c16_3, f16_3)) (Option.some.inj ej5).symm)
        ·
         intro hc_12
         replace ej5 := ifO_f hc_12 ej5
         refine WC.skip (En.next ?_)
         obtain ⟨x16_3, e16_3, ej5⟩ := bnd ej5
         refine WC.region ?_
         refine mv ?_
         refine sp (OpV.loadAll rfl mq4 ag_61) ?_
         refine WL.heavy rfl rfl rfl (OpH.buildSlice (evps.cons rfl (evps.nil)) (bs_36_1_0 _ _ _ _ _ _ _ _ _ _ _ _ _) ?_)
         intro b16_2
         refine WL.wkF (fun _ h => h.pm 3) ?_
         refine WL.wkF (fun _ h => tPlane_mk x9_10.On x9_10.X x9_10.Y x9_10.W x9_10.H x9_10.Layout x9_10.Words x11_2a x12_1a x9_10.ToW x9_10.ToH h) ?_
         refine WL.wkF (fun _ h => h.pm 6) ?_
         refine WL.wkF (fun _ h => h.pm 1) ?_
         refine WL.heavy rfl rfl rfl (OpH.push (A := tPlane) rfl rfl rfl mi_36 rfl (by decide) mq0 e16_3 ?_)
         intro f16_3 a16_3 c16_3
         refine ag ?_
         refine WL.nil (En.block_norm ?_)
         exact En.wk _ _ (sc (sc (sc sn))) (fun _ h => ((h).pm 2).sub (.cons_cons _ (.cons_cons _ (.cons _ (.cons _ (.cons _ (.cons _ (List.Sublist.refl _)))))))) (zK5 ((y13_5_0, y13_5_1, x16_3), (a16_3, x16_3.length, c16_3, f16_3)) (Option.some.inj ej5).symm)
       ·
        intro hc_11
        replace ej5 := ifO_f hc_11 ej5
        refine WC.skip (En.next ?_)
        obtain ⟨x16_3, e16_3, ej5⟩ := bnd ej5
        refine WC.region ?_
        refine mv ?_
        refine sp (OpV.loadAll rfl mq3 ag_61) ?_
        refine WL.heavy rfl rfl rfl (OpH.buildSlice (evps.cons rfl (evps.nil)) (bs_36_1_0 _ _ _ _ _ _ _ _ _ _ _ _ _) ?_)
        intro b16_2
        refine WL.wkF (fun _ h => h.pm 1) ?_
        refine WL.wkF (fun _ h => tPlane_mk x9_10.On x9_10.X x9_10.Y x9_10.W x9_10.H x9_10.Layout x9_10.Words x9_10.Alpha x9_10.Orient x9_10.ToW x9_10.ToH h) ?_
        refine WL.wkF (fun _ h => h.pm 5) ?_
        refine WL.wkF (fun _ h => h.pm 1) ?_
        refine WL.heavy rfl rfl rfl (OpH.push (A := tPlane) rfl rfl rfl mi_36 rfl (by decide) mq0 e16_3 ?_)
        intro f16_3 a16_3 c16_3
        refine ag ?_
        refine WL.nil (En.block_norm ?_)
        exact En.wk _ _ (sc (sc (sc sn))) (fun _ h => ((h).pm 2).sub (.cons_cons _ (.cons_cons _ (.cons _ (.cons _ (.cons _ (List.Sublist.refl _))))))) (zK5 ((x9_9b.i, x9_9b.h, x16_3), (a16_3, x16_3.length, c16_3, f16_3)) (Option.some.inj ej5).symm)
      ·
       intro hc_10
       replace ej5 := ifO_f hc_10 ej5
       refine WC.skip (En.next ?_)
       obtain ⟨x16_3, e16_3, ej5⟩ := bnd ej5
       refine WC.region ?_
       refine mv ?_
       refine sp (OpV.loadAll rfl mq1 ag_61) ?_
       refine WL.heavy rfl rfl rfl (OpH.buildSlice (evps.cons rfl (evps.nil)) (bs_36_1_0 _ _ _ _ _ _ _ _ _ _ _ _ _) ?_)
       intro b16_2
       refine WL.wkF (fun _ h => h.ownNil (A := tInt)) ?_
       refine WL.wkF (fun _ h => tPlane_mk false 0 0 0 0 0 ([] : List Int) 0 0 0 0 h) ?_
       refine WL.wkF (fun _ h => h.pm 4) ?_
       refine WL.wkF (fun _ h => h.pm 1) ?_
       refine WL.heavy rfl rfl rfl (OpH.push (A := tPlane) rfl rfl rfl mi_36 rfl (by decide) mq0 e16_3 ?_)
       intro f16_3 a16_3 c16_3
       refine ag ?_
       refine WL.nil (En.block_norm ?_)
       exact En.wk _ _ (sc (sc (sc sn))) (fun _ h => ((h).pm 2).sub (.cons_cons _ (.cons_cons _ (.cons _ (.cons _ (List.Sublist.refl _)))))) (zK5 ((x8_1b.i, x8_1b.h, x16_3), (a16_3, x16_3.length, c16_3, f16_3)) (Option.some.inj ej5).symm)
    ·
     intro hc_9
     replace zh4 := ifO_f hc_9 zh4
     refine WC.exit (En.then_exit (En.then_exit ?_))
     have hx := exitP ze4 zh4
     exact En.wk _ _ (sc sn) (fun _ h => (h).pm 1) (zK4_0 ((v_4, x_4, x1_4), (av_4, nv_4, cv_4, fv_4)) hx.symm)

theorem w_spec_IdentityColor  {r : ColorMapT}  (h : spec_IdentityColor = some r) {w : World}    :
    Calls Tryz.prog 84 #[] w (fun en w' => ∃ rv G, en = .returned rv ∧ (∃ (a0_0 : Option Addr) (n0_0 : Nat) (c0_0 : Nat) (f0_0 : List Nat) (a0_1 : Option Addr) (n0_1 : Nat) (c0_1 : Nat) (f0_1 : List Nat), rv = .agg #[.slice a0_0 n0_0 c0_0, .slice a0_1 n0_1 c0_1] ∧ G = [Chunk.own tInt f0_0 a0_0 n0_0 c0_0 r.Matrix, Chunk.own tInt f0_1 a0_1 n0_1 c0_1 r.Curve]) ∧ St w G w') := by
 unfold spec_IdentityColor at h
 refine enter (vs := []) Tryz.func84 rfl rfl rfl rfl ?_
 refine WC.sr ?_
 refine WL.heavy rfl rfl rfl (OpH.alloc zc_37 ?_)
 intro b0_0
 refine WL.nil (En.next (WC.sr ?_))
 refine WL.heavy rfl rfl rfl (OpH.litF (A := tInt) (xs := [256, 0, 0, 0, 256, 0, 0, 0, 256]) tInt_flat (evps.cons rfl (evps.cons rfl (evps.cons rfl (evps.cons rfl (evps.cons rfl (evps.cons rfl (evps.cons rfl (evps.cons rfl (evps.cons rfl (evps.nil)))))))))) (bs_23_9_0_1_2_3_4_5_6_7_8 _ _ _ _ _ _ _ _ _) rfl rfl (Nat.le_of_ble_eq_true rfl) ?_)
 intro b1_0
 refine sp (OpV.build (evps.cons rfl (evps.nil)) (bd_37_0 _ _ _)) ?_
 refine WL.heavy rfl rfl rfl (OpH.alloc zc_37 ?_)
 intro b1_2
 refine WL.heavy0 rfl rfl (OpH.storeTo (A := []) [_, _] rfl rfl rfl ts_37 rfl rfl rfl ?_)
 refine WL.nil (En.next (WC.seq (WC.sr ?_)))
 refine ag ?_
 refine WL.nil (En.next (WC.block ?_))
 obtain ⟨zy0, ezy0, h⟩ := bnd h
 refine WC.cut (X := ((List Int)) × ((Option Addr) × Nat × Nat × (List Nat))) (.exit 0) (fun x => zy0 = x.1) (fun x => match x with | (m_0e, (am_0e, nm_0e, cm_0e, fm_0e)) => [(0, .pointer (some ⟨b0_0, 0, .none⟩)), (1, .pointer (some ⟨b1_2, 0, .none⟩))]) (fun x => match x with | (m_0e, (am_0e, nm_0e, cm_0e, fm_0e)) => [Chunk.box b0_0 37 [.slice .none 0 0, .slice .none 0 0], Chunk.box b1_2 37 [.slice (some ⟨b1_0, 0, .none⟩) 9 9, .slice am_0e nm_0e cm_0e], Chunk.own tInt [b1_0] (some ⟨b1_0, 0, .none⟩) 9 9 [256, 0, 0, 0, 256, 0, 0, 0, 256], Chunk.own tInt fm_0e am_0e nm_0e cm_0e m_0e]) ?_ ?_
 ·
  rintro ⟨m_0e, ⟨am_0e, nm_0e, cm_0e, fm_0e⟩⟩ hx
  replace hx : m_0e = zy0 := hx.symm
  subst hx
  show En _ _ _ _ [(0, .pointer (some ⟨b0_0, 0, .none⟩)), (1, .pointer (some ⟨b1_2, 0, .none⟩))] [Chunk.box b0_0 37 [.slice .none 0 0, .slice .none 0 0], Chunk.box b1_2 37 [.slice (some ⟨b1_0, 0, .none⟩) 9 9, .slice am_0e nm_0e cm_0e], Chunk.own tInt [b1_0] (some ⟨b1_0, 0, .none⟩) 9 9 [256, 0, 0, 0, 256, 0, 0, 0, 256], Chunk.own tInt fm_0e am_0e nm_0e cm_0e m_0e]
  refine En.block_exit (En.next (WC.sr ?_))
  refine sp (OpV.loadAll rfl mq1 ag_37) ?_
  refine WL.heavy0 rfl rfl (OpH.storeTo (A := []) [_, _] rfl rfl rfl ts_37 rfl rfl rfl ?_)
  refine WL.nil (En.next (WC.ret ?_))
  refine En.ret1 rfl (Res.cell rfl mq0 ag_37) ?_
  obtain rfl := Option.some.inj h
  intro w' hs
  have hs := (((hs).pm 3).pm 3).sub (.cons_cons _ (.cons_cons _ (.cons _ (.cons _ (.slnil)))))
  exact ⟨_, _, rfl, ⟨(some ⟨b1_0, 0, .none⟩), 9, 9, [b1_0], am_0e, nm_0e, cm_0e, fm_0e, rfl, rfl⟩, hs⟩
 ·
  intro zK0_0
  refine WC.loopP (G := (Option Addr) × Nat × Nat × (List Nat)) (fun s g => match s, g with | (m_0, k_0), (am_0, nm_0, cm_0, fm_0) => [(0, .pointer (some ⟨b0_0, 0, .none⟩)), (1, .pointer (some ⟨b1_2, 0, .none⟩)), (2, .int .i64 k_0)]) (fun s g => match s, g with | (m_0, k_0), (am_0, nm_0, cm_0, fm_0) => [Chunk.box b0_0 37 [.slice .none 0 0, .slice .none 0 0], Chunk.box b1_2 37 [.slice (some ⟨b1_0, 0, .none⟩) 9 9, .slice am_0 nm_0 cm_0], Chunk.own tInt [b1_0] (some ⟨b1_0, 0, .none⟩) 9 9 [256, 0, 0, 0, 256, 0, 0, 0, 256], Chunk.own tInt fm_0 am_0 nm_0 cm_0 m_0]) ([], 0) (.none, 0, 0, []) ezy0 (by exact sc (sc (sc sn))) (by exact (fun _ h => ((((h).ownNil (A := tInt)).pm 2).pm 2).pm 3)) ?_
  rintro zm0 ⟨m_0, k_0⟩ ⟨am_0, nm_0, cm_0, fm_0⟩ zo0 zf0 zb0 ze0
  have zh0 : spec_IdentityColor_L0 m_0 k_0 = some zo0 := zf0
  unfold spec_IdentityColor_L0 at zh0
  show WC _ _ _ _ _ [(0, .pointer (some ⟨b0_0, 0, .none⟩)), (1, .pointer (some ⟨b1_2, 0, .none⟩)), (2, .int .i64 k_0)] [Chunk.box b0_0 37 [.slice .none 0 0, .slice .none 0 0], Chunk.box b1_2 37 [.slice (some ⟨b1_0, 0, .none⟩) 9 9, .slice am_0 nm_0 cm_0], Chunk.own tInt [b1_0] (some ⟨b1_0, 0, .none⟩) 9 9 [256, 0, 0, 0, 256, 0, 0, 0, 256], Chunk.own tInt fm_0 am_0 nm_0 cm_0 m_0]
  refine WC.seq (WC.sr ?_)
  refine mv ?_
  refine sp (OpV.lss rfl rfl) ?_
  refine WL.nil (En.next ?_)
  refine WC.cond rfl ?_ ?_
  ·
   intro hc_1
   replace zh0 := ifO_t hc_1 zh0
   refine WC.skip (En.next (WC.seq (WC.block ?_)))
   obtain ⟨x5_5, e5_5, zh0⟩ := bnd zh0
   refine WC.region ?_
   refine sp (OpV.fieldAddr rfl fo_37_1) ?_
   refine sp (OpV.loadBox rfl pt_23 mq1 rfl) ?_
   refine mv ?_
   refine sp (OpV.mulR rfl rfl) ?_
   refine WL.heavy rfl rfl rfl (OpH.litF (A := tInt) (xs := [(wr (16 * k_0))]) tInt_flat (evps.cons rfl (evps.nil)) (bs_23_1_0 _) rfl rfl (Nat.le_of_ble_eq_true rfl) ?_)
   intro b5_4
   refine WL.heavy rfl rfl rfl (OpH.appS (F := [_, _, _, _]) (A := tInt) tInt_flat rfl rfl rfl mi_23 rfl (by decide) (fun w hs => (Ow.rd (hs.mem mq0))) e5_5 ?_)
   intro f5_5 a5_5 c5_5
   refine sp (OpV.fieldAddr rfl fo_37_1) ?_
   refine WL.heavy0 rfl rfl (OpH.storeTo (A := [_, _]) [_, _] rfl rfl rfl ts_23 rfl rfl rfl ?_)
   refine WL.nil (En.block_norm (En.next (WC.region ?_)))
   refine mv ?_
   refine sp (OpV.addR rfl rfl) ?_
   refine ag ?_
   refine WL.nil ?_
   exact En.backP zb0 zh0 (a5_5, x5_5.length, c5_5, f5_5) (sc (sc (sc sn))) (fun _ h => (((((h).pm 4).pm 4).pm 4).pm 4).sub (.cons_cons _ (.cons_cons _ (.cons_cons _ (.cons_cons _ (.cons _ (.slnil)))))))
  ·
   intro hc_1
   replace zh0 := ifO_f hc_1 zh0
   refine WC.exit (En.then_exit (En.then_exit ?_))
   have hx := exitP ze0 zh0
   exact En.wk _ _ (sc (sc sn)) (fun _ h => h) (zK0_0 (m_0, (am_0, nm_0, cm_0, fm_0)) hx.symm)

theorem w_spec_l08Map {c_p0 : L01CurT} {r : ColorMapT × L01CurT} {b0 : Nat} {q0_0 : Option Addr} {l0_0 k0_0 : Nat} (h : spec_l08Map c_p0 = some r) {w0 w : World} {C : List Chunk} (hs0 : St w0 (Chunk.box b0 128 [.slice q0_0 l0_0 k0_0, .int .i64 c_p0.i, .int .i64 c_p0.h] :: C) w) (r0_0 : ∀ w, St w0 C w → Rd tU8 w q0_0 l0_0 k0_0 c_p0.b) :
    Calls Tryz.prog 107 #[.pointer (some ⟨b0, 0, .none⟩)] w (fun en w' => ∃ rv G, en = .returned rv ∧ (∃ (a0_0 : Option Addr) (n0_0 : Nat) (c0_0 : Nat) (f0_0 : List Nat) (a0_1 : Option Addr) (n0_1 : Nat) (c0_1 : Nat) (f0_1 : List Nat), rv = .agg #[.slice a0_0 n0_0 c0_0, .slice a0_1 n0_1 c0_1] ∧ G = Chunk.own tInt f0_0 a0_0 n0_0 c0_0 r.1.Matrix :: Chunk.own tInt f0_1 a0_1 n0_1 c0_1 r.1.Curve :: Chunk.box b0 128 [.slice q0_0 l0_0 k0_0, .int .i64 r.2.i, .int .i64 r.2.h] :: C) ∧ St w0 G w') := by
 obtain rfl := (r0_0 _ (St.tl (F := [_]) hs0)).1
 unfold spec_l08Map at h
 refine enterF hs0 (vs := [_]) Tryz.func107 rfl rfl rfl rfl ?_
 refine WC.sr ?_
 refine WL.heavy rfl rfl rfl (OpH.alloc zc_37 ?_)
 intro b0_0
 refine WL.nil (En.next (WC.seq ?_))
 obtain ⟨x1_0, e1_0, h⟩ := bnd h
 refine WC.region ?_
 refine WL.heavy rfl rfl rfl (OpH.callR e0 ca_84 (fun w hs => w_spec_IdentityColor e1_0) ?_)
 rintro _ _ ⟨a1_000, n1_000, c1_000, f1_000, a1_001, n1_001, c1_001, f1_001, rfl, rfl⟩
 refine WL.heavy rfl rfl rfl (OpH.alloc zc_37 ?_)
 intro b1_1
 refine WL.heavy0 rfl rfl (OpH.storeTo (A := []) [_, _] rfl rfl rfl ts_37 rfl rfl rfl ?_)
 refine WL.nil (En.next (WC.seq (WC.seq ?_)))
 obtain ⟨⟨x2_1a, x2_1b⟩, e2_1, h⟩ := bnd h
 refine WC.region ?_
 refine mv ?_
 refine WL.wkF (fun _ h => h.pm 4) ?_
 refine WL.heavy rfl rfl rfl (OpH.callX (ec rfl (ec rfl e0)) ca_109 (fun w hs => w_spec_l01Once e2_1 hs (fun w hs => (r0_0 _ (St.tl (F := [_, _, _, _]) hs)))) ?_)
 rintro _ _ ⟨rfl, rfl⟩
 refine WL.nil (En.next ?_)
 refine WC.cond rfl ?_ ?_
 ·
  intro hc_1
  replace h := ifO_t hc_1 h
  refine WC.sr ?_
  refine ag ?_
  refine WL.nil (En.next (WC.block ?_))
  obtain ⟨zy0, ezy0, h⟩ := bnd h
  refine WC.cut (X := (Int × Int × (List Int)) × ((List Nat))) (.exit 0) (fun x => zy0 = x.1) (fun x => match x with | ((c_0e, c1_0e, m_0e), fm_0e) => [(0, .pointer (some ⟨b0, 0, .none⟩)), (2, .pointer (some ⟨b0_0, 0, .none⟩)), (3, .pointer (some ⟨b1_1, 0, .none⟩))]) (fun x => match x with | ((c_0e, c1_0e, m_0e), fm_0e) => (Chunk.box b0 128 [.slice q0_0 c_p0.b.length k0_0, .int .i64 c_0e, .int .i64 c1_0e] :: Chunk.box b0_0 37 [.slice .none 0 0, .slice .none 0 0] :: Chunk.box b1_1 37 [.slice a1_000 n1_000 c1_000, .slice a1_001 n1_001 c1_001] :: Chunk.own tInt fm_0e a1_000 n1_000 c1_000 m_0e :: Chunk.own tInt f1_001 a1_001 n1_001 c1_001 x1_0.Curve :: C)) ?_ ?_
  ·
   rintro ⟨⟨c_0e, c1_0e, m_0e⟩, fm_0e⟩ hx
   replace hx : (c_0e, c1_0e, m_0e) = zy0 := hx.symm
   subst hx
   show En _ _ _ _ [(0, .pointer (some ⟨b0, 0, .none⟩)), (2, .pointer (some ⟨b0_0, 0, .none⟩)), (3, .pointer (some ⟨b1_1, 0, .none⟩))] (Chunk.box b0 128 [.slice q0_0 c_p0.b.length k0_0, .int .i64 c_0e, .int .i64 c1_0e] :: Chunk.box b0_0 37 [.slice .none 0 0, .slice .none 0 0] :: Chunk.box b1_1 37 [.slice a1_000 n1_000 c1_000, .slice a1_001 n1_001 c1_001] :: Chunk.own tInt fm_0e a1_000 n1_000 c1_000 m_0e :: Chunk.own tInt f1_001 a1_001 n1_001 c1_001 x1_0.Curve :: C)
   refine En.block_exit (En.next (WC.seq (WC.seq ?_)))
   obtain ⟨⟨x7_1a, x7_1b⟩, e7_1, h⟩ := bnd h
   refine WC.region ?_
   refine mv ?_
   refine WL.heavy rfl rfl rfl (OpH.callX (ec rfl (ec rfl e0)) ca_109 (fun w hs => w_spec_l01Once e7_1 hs (fun w hs => (r0_0 _ (St.tl (F := [_, _, _, _]) hs)))) ?_)
   rintro _ _ ⟨rfl, rfl⟩
   refine WL.nil (En.next ?_)
   refine WC.cond rfl ?_ ?_
   ·
    intro hc_2
    replace h := ifO_t hc_2 h
    refine WC.sr ?_
    refine ag ?_
    refine WL.nil (En.next (WC.sr ?_))
    refine ag ?_
    refine WL.nil (En.next (WC.block ?_))
    obtain ⟨zy1, ezy1, h⟩ := bnd h
    refine WC.cut (X := ((List Int) × Int × Int) × ((List Nat))) (.exit 2) (fun x => zy1 = x.1) (fun x => match x with | ((m_1e, c_1e, c1_1e), fm_1e) => [(2, .pointer (some ⟨b0_0, 0, .none⟩)), (3, .pointer (some ⟨b1_1, 0, .none⟩))]) (fun x => match x with | ((m_1e, c_1e, c1_1e), fm_1e) => (Chunk.box b0_0 37 [.slice .none 0 0, .slice .none 0 0] :: Chunk.box b1_1 37 [.slice a1_000 n1_000 c1_000, .slice a1_001 n1_001 c1_001] :: Chunk.own tInt fm_0e a1_000 n1_000 c1_000 m_0e :: Chunk.own tInt fm_1e a1_001 n1_001 c1_001 m_1e :: Chunk.box b0 128 [.slice q0_0 c_p0.b.length k0_0, .int .i64 c_1e, .int .i64 c1_1e] :: C)) ?_ ?_
    ·
     rintro ⟨⟨m_1e, c_1e, c1_1e⟩, fm_1e⟩ hx
     replace hx : (m_1e, c_1e, c1_1e) = zy1 := hx.symm
     subst hx
     show En _ _ _ _ [(2, .pointer (some ⟨b0_0, 0, .none⟩)), (3, .pointer (some ⟨b1_1, 0, .none⟩))] (Chunk.box b0_0 37 [.slice .none 0 0, .slice .none 0 0] :: Chunk.box b1_1 37 [.slice a1_000 n1_000 c1_000, .slice a1_001 n1_001 c1_001] :: Chunk.own tInt fm_0e a1_000 n1_000 c1_000 m_0e :: Chunk.own tInt fm_1e a1_001 n1_001 c1_001 m_1e :: Chunk.box b0 128 [.slice q0_0 c_p0.b.length k0_0, .int .i64 c_1e, .int .i64 c1_1e] :: C)
     refine En.block_exit (En.next (WC.sr ?_))
     refine sp (OpV.loadAll rfl mq1 ag_37) ?_
     refine WL.heavy0 rfl rfl (OpH.storeTo (A := []) [_, _] rfl rfl rfl ts_37 rfl rfl rfl ?_)
     refine WL.nil (En.next (WC.ret ?_))
     refine En.ret1 rfl (Res.cell rfl mq0 ag_37) ?_
     obtain rfl := Option.some.inj h
     intro w' hs
     have hs := ((((hs).pm 4).pm 4).pm 4).sub (.cons_cons _ (.cons_cons _ (.cons_cons _ (.cons _ (.cons _ (List.Sublist.refl _))))))
     exact ⟨_, _, rfl, ⟨a1_000, n1_000, c1_000, fm_0e, a1_001, n1_001, c1_001, fm_1e, rfl, rfl⟩, hs⟩
    ·
     intro zK1_0
     refine WC.loopP (G := (List Nat)) (fun s g => match s, g with | (c_1, c1_1, m_1, v_1, k_1), fm_1 => [(0, .pointer (some ⟨b0, 0, .none⟩)), (2, .pointer (some ⟨b0_0, 0, .none⟩)), (3, .pointer (some ⟨b1_1, 0, .none⟩)), (5, .int .i64 v_1), (6, .int .i64 k_1)]) (fun s g => match s, g with | (c_1, c1_1, m_1, v_1, k_1), fm_1 => (Chunk.box b0 128 [.slice q0_0 c_p0.b.length k0_0, .int .i64 c_1, .int .i64 c1_1] :: Chunk.box b0_0 37 [.slice .none 0 0, .slice .none 0 0] :: Chunk.box b1_1 37 [.slice a1_000 n1_000 c1_000, .slice a1_001 n1_001 c1_001] :: Chunk.own tInt fm_0e a1_000 n1_000 c1_000 m_0e :: Chunk.own tInt fm_1 a1_001 n1_001 c1_001 m_1 :: C)) (x7_1b.i, x7_1b.h, x1_0.Curve, 0, 0) f1_001 ezy1 (by exact sc (sc (sc (sc (sc sn))))) (by exact (fun _ h => h)) ?_
     rintro zm1 ⟨c_1, c1_1, m_1, v_1, k_1⟩ fm_1 zo1 zf1 zb1 ze1
     have zh1 : spec_l08Map_L1 c_p0 c_1 c1_1 m_1 v_1 k_1 = some zo1 := zf1
     unfold spec_l08Map_L1 at zh1
     show WC _ _ _ _ _ [(0, .pointer (some ⟨b0, 0, .none⟩)), (2, .pointer (some ⟨b0_0, 0, .none⟩)), (3, .pointer (some ⟨b1_1, 0, .none⟩)), (5, .int .i64 v_1), (6, .int .i64 k_1)] (Chunk.box b0 128 [.slice q0_0 c_p0.b.length k0_0, .int .i64 c_1, .int .i64 c1_1] :: Chunk.box b0_0 37 [.slice .none 0 0, .slice .none 0 0] :: Chunk.box b1_1 37 [.slice a1_000 n1_000 c1_000, .slice a1_001 n1_001 c1_001] :: Chunk.own tInt fm_0e a1_000 n1_000 c1_000 m_0e :: Chunk.own tInt fm_1 a1_001 n1_001 c1_001 m_1 :: C)
     refine WC.seq (WC.sr ?_)
     refine mv ?_
     refine sp (OpV.lss rfl rfl) ?_
     refine WL.nil (En.next ?_)
     refine WC.cond rfl ?_ ?_
     ·
      intro hc_3
      replace zh1 := ifO_t hc_3 zh1
      refine WC.skip (En.next (WC.seq (WC.block (WC.seq ?_))))
      obtain ⟨⟨x12_2a, x12_2b⟩, e12_2, zh1⟩ := bnd zh1
      refine WC.region ?_
      refine mv ?_
      refine mv ?_
      refine WL.heavy rfl rfl rfl (OpH.callX (ec rfl (ec rfl e0)) ca_105 (fun w hs => w_spec_l01Below e12_2 hs (fun w hs => (r0_0 _ (St.tl (F := [_, _, _, _]) hs)))) ?_)
      rintro _ _ ⟨rfl, rfl⟩
      refine sp (OpV.addR rfl rfl) ?_
      refine sp (OpV.min2 rfl rfl) ?_
      refine ag ?_
      refine WL.nil (En.next ?_)
      refine WC.inh fun hin13 => ?_
      have hn13_4 := ownLen hin13 mq4
      obtain ⟨x13_5, e13_5, zh1⟩ := bnd zh1
      obtain ⟨g13_4, o13_4, ha13_4⟩ := ownAddrU hin13 mq4 e13_5
      refine WC.region ?_
      refine sp (OpV.fieldAddr rfl fo_37_1) ?_
      refine sp (OpV.loadBox rfl pt_23 mq2 rfl) ?_
      refine mv ?_
      refine mv ?_
      refine sp (OpV.idxA rfl rfl se_23 ha13_4 ⟨(upd_some e13_5).1.1, by rw [hn13_4]; exact (upd_some e13_5).1.2⟩) ?_
      refine WL.wkF (fun _ h => St.elFlat tInt_flat (min 256 (wr (v_1 + x12_2a))) h) ?_
      refine WL.wkF (fun _ h => h.pm 5) ?_
      refine WL.wkF (fun _ h => h.pm 1) ?_
      refine WL.heavy0 rfl rfl (OpH.setEl (A := tInt) ha13_4 rfl rfl rfl ts_3 e13_5 ?_)
      intro f13_5
      refine WL.nil (En.block_norm (En.next (WC.region ?_)))
      refine mv ?_
      refine sp (OpV.addR rfl rfl) ?_
      refine ag ?_
      refine WL.nil ?_
      exact En.backP zb1 zh1 f13_5 (sc (sc (sc (sc (sc sn))))) (fun _ h => ((((h).pm 4).pm 4).pm 4).pm 4)
     ·
      intro hc_3
      replace zh1 := ifO_f hc_3 zh1
      refine WC.exit (En.then_exit (En.then_exit ?_))
      have hx := exitP ze1 zh1
      exact En.wk _ _ (sc (sc sn)) (fun _ h => ((((h).pm 4).pm 4).pm 4).pm 4) (zK1_0 ((m_1, c_1, c1_1), fm_1) hx.symm)
   ·
    intro hc_2
    replace h := ifO_f hc_2 h
    refine WC.skip (En.next (WC.sr ?_))
    refine sp (OpV.loadAll rfl mq2 ag_37) ?_
    refine WL.heavy0 rfl rfl (OpH.storeTo (A := [_]) [_, _] rfl rfl rfl ts_37 rfl rfl rfl ?_)
    refine WL.nil (En.next (WC.ret ?_))
    refine En.ret1 rfl (Res.cell rfl mq1 ag_37) ?_
    obtain rfl := Option.some.inj h
    intro w' hs
    have hs := (((hs).pm 4).pm 4).sub (.cons_cons _ (.cons_cons _ (.cons_cons _ (.cons _ (.cons _ (List.Sublist.refl _))))))
    exact ⟨_, _, rfl, ⟨a1_000, n1_000, c1_000, fm_0e, a1_001, n1_001, c1_001, f1_001, rfl, rfl⟩, hs⟩
  ·
   intro zK0_0
   refine WC.loopP (G := (List Nat)) (fun s g => match s, g with | (c_0, c1_0, m_0, k_0), fm_0 => [(0, .pointer (some ⟨b0, 0, .none⟩)), (2, .pointer (some ⟨b0_0, 0, .none⟩)), (3, .pointer (some ⟨b1_1, 0, .none⟩)), (4, .int .i64 k_0)]) (fun s g => match s, g with | (c_0, c1_0, m_0, k_0), fm_0 => (Chunk.box b0 128 [.slice q0_0 c_p0.b.length k0_0, .int .i64 c_0, .int .i64 c1_0] :: Chunk.box b0_0 37 [.slice .none 0 0, .slice .none 0 0] :: Chunk.box b1_1 37 [.slice a1_000 n1_000 c1_000, .slice a1_001 n1_001 c1_001] :: Chunk.own tInt fm_0 a1_000 n1_000 c1_000 m_0 :: Chunk.own tInt f1_001 a1_001 n1_001 c1_001 x1_0.Curve :: C)) (x2_1b.i, x2_1b.h, x1_0.Matrix, 0) f1_000 ezy0 (by exact sc (sc (sc (sc sn)))) (by exact (fun _ h => (((((h).pm 3).pm 3).pm 3).pm 4).pm 4)) ?_
   rintro zm0 ⟨c_0, c1_0, m_0, k_0⟩ fm_0 zo0 zf0 zb0 ze0
   have zh0 : spec_l08Map_L0 c_p0 c_0 c1_0 m_0 k_0 = some zo0 := zf0
   unfold spec_l08Map_L0 at zh0
   show WC _ _ _ _ _ [(0, .pointer (some ⟨b0, 0, .none⟩)), (2, .pointer (some ⟨b0_0, 0, .none⟩)), (3, .pointer (some ⟨b1_1, 0, .none⟩)), (4, .int .i64 k_0)] (Chunk.box b0 128 [.slice q0_0 c_p0.b.length k0_0, .int .i64 c_0, .int .i64 c1_0] :: Chunk.box b0_0 37 [.slice .none 0 0, .slice .none 0 0] :: Chunk.box b1_1 37 [.slice a1_000 n1_000 c1_000, .slice a1_001 n1_001 c1_001] :: Chunk.own tInt fm_0 a1_000 n1_000 c1_000 m_0 :: Chunk.own tInt f1_001 a1_001 n1_001 c1_001 x1_0.Curve :: C)
   refine WC.seq (WC.sr ?_)
   refine mv ?_
   refine sp (OpV.lss rfl rfl) ?_
   refine WL.nil (En.next ?_)
   refine WC.cond rfl ?_ ?_
   ·
    intro hc_4
    replace zh0 := ifO_t hc_4 zh0
    refine WC.skip (En.next (WC.seq (WC.block ?_)))
    refine WC.inh fun hin6 => ?_
    obtain ⟨⟨x6_5a, x6_5b⟩, e6_5, zh0⟩ := bnd zh0
    have hn6_6 := ownLen hin6 mq3
    obtain ⟨x6_7, e6_7, zh0⟩ := bnd zh0
    obtain ⟨g6_6, o6_6, ha6_6⟩ := ownAddrU hin6 mq3 e6_7
    refine WC.wkF (fun _ h => h.pm 3) ?_
    refine WC.wkF (fun _ h => h.pm 1) ?_
    refine WC.drawnH [_, _] (_ :: _ :: _ :: C) (fun _ h => h) (by kernel_rfl) ?_
    refine tk 0 rfl (OpV.fieldAddr rfl fo_37_0) ?_
    refine tk 1 rfl (OpV.loadBox rfl pt_23 mq1 rfl) ?_
    refine tk 2 rfl (OpV.move rfl) ?_
    refine tk 3 rfl (OpV.move rfl) ?_
    refine al1 4 rfl ?_
    refine OpH.litF (A := tInt) (xs := [0, 85, 256, (-64), 128, 1024, (-1024)]) tInt_flat (evps.cons rfl (evps.cons rfl (evps.cons rfl (evps.cons rfl (evps.cons rfl (evps.cons rfl (evps.cons rfl (evps.nil)))))))) (bs_23_7_0_1_2_3_4_5_6 _ _ _ _ _ _ _) rfl rfl (Nat.le_of_ble_eq_true rfl) ?_
    intro b6_4
    refine ⟨[_, _, _], rfl, ?_⟩
    refine al1 5 rfl ?_
    refine OpH.wkF (fun _ h => h.pm 1) ?_
    refine OpH.callX (ec rfl (ec rfl e0)) ca_131 (fun w hs => w_spec_l01PickInt e6_5 hs (fun w hs => (r0_0 _ (St.tl (F := [_, _, _, _, _]) hs))) (fun w hs => (Ow.rd (hs.mem mq0)))) ?_
    rintro _ _ ⟨rfl, rfl⟩
    refine ⟨[_, _, _], rfl, ?_⟩
    refine tk 6 rfl (OpV.idxA rfl rfl se_23 ha6_6 ⟨(upd_some e6_7).1.1, by rw [hn6_6]; exact (upd_some e6_7).1.2⟩) ?_
    refine al0 7 rfl ?_
    refine OpH.wkF (fun _ h => St.elFlat tInt_flat x6_5a h) ?_
    refine OpH.wkF (fun _ h => h.pm 3) ?_
    refine OpH.wkF (fun _ h => h.pm 1) ?_
    refine OpH.setEl (A := tInt) ha6_6 rfl rfl rfl ts_3 e6_7 ?_
    intro f6_7
    refine ⟨[_, _, _], rfl, ?_⟩
    refine WAE.rebase (H := []) ?_
    refine WAE.done (by kernel_rfl) ?_ _
    refine En.block_norm (En.next (WC.region ?_))
    refine mv ?_
    refine sp (OpV.addR rfl rfl) ?_
    refine ag ?_
    refine WL.nil ?_
    exact En.backP zb0 zh0 f6_7 (sc (sc (sc (sc sn)))) (fun _ h => ((((((h).pm 5).pm 1).pm 5).pm 5).pm 4).sub (.cons_cons _ (.cons_cons _ (.cons_cons _ (.cons_cons _ (.cons_cons _ (.cons _ (List.Sublist.refl _))))))))
   ·
    intro hc_4
    replace zh0 := ifO_f hc_4 zh0
    refine WC.exit (En.then_exit (En.then_exit ?_))
    have hx := exitP ze0 zh0
    exact En.wk _ _ (sc (sc (sc sn))) (fun _ h => h) (zK0_0 ((c_0, c1_0, m_0), fm_0) hx.symm)
 ·
  intro hc_1
  replace h := ifO_f hc_1 h
  refine WC.skip (En.next (WC.seq (WC.seq ?_)))
  obtain ⟨⟨x7_1a, x7_1b⟩, e7_1, h⟩ := bnd h
  refine WC.region ?_
  refine mv ?_
  refine WL.heavy rfl rfl rfl (OpH.callX (ec rfl (ec rfl e0)) ca_109 (fun w hs => w_spec_l01Once e7_1 hs (fun w hs => (r0_0 _ (St.tl (F := [_, _, _, _]) hs)))) ?_)
  rintro _ _ ⟨rfl, rfl⟩
  refine WL.nil (En.next ?_)
  refine WC.cond rfl ?_ ?_
  ·
   intro hc_5
   replace h := ifO_t hc_5 h
   refine WC.sr ?_
   refine ag ?_
   refine WL.nil (En.next (WC.sr ?_))
   refine ag ?_
   refine WL.nil (En.next (WC.block ?_))
   obtain ⟨zy2, ezy2, h⟩ := bnd h
   refine WC.cut (X := ((List Int) × Int × Int) × ((List Nat))) (.exit 2) (fun x => zy2 = x.1) (fun x => match x with | ((m_2e, c_2e, c1_2e), fm_2e) => [(2, .pointer (some ⟨b0_0, 0, .none⟩)), (3, .pointer (some ⟨b1_1, 0, .none⟩))]) (fun x => match x with | ((m_2e, c_2e, c1_2e), fm_2e) => (Chunk.box b0_0 37 [.slice .none 0 0, .slice .none 0 0] :: Chunk.box b1_1 37 [.slice a1_000 n1_000 c1_000, .slice a1_001 n1_001 c1_001] :: Chunk.own tInt f1_000 a1_000 n1_000 c1_000 x1_0.Matrix :: Chunk.own tInt fm_2e a1_001 n1_001 c1_001 m_2e :: Chunk.box b0 128 [.slice q0_0 c_p0.b.length k0_0, .int .i64 c_2e, .int .i64 c1_2e] :: C)) ?_ ?_
   ·
    rintro ⟨⟨m_2e, c_2e, c1_2e⟩, fm_2e⟩ hx
    replace hx : (m_2e, c_2e, c1_2e) = zy2 := hx.symm
    subst hx
    show En _ _ _ _ [(2, .pointer (some ⟨b0_0, 0, .none⟩)), (3, .pointer (some ⟨b1_1, 0, .none⟩))] (Chunk.box b0_0 37 [.slice .none 0 0, .slice .none 0 0] :: Chunk.box b1_1 37 [.slice a1_000 n1_000 c1_000, .slice a1_001 n1_001 c1_001] :: Chunk.own tInt f1_000 a1_000 n1_000 c1_000 x1_0.Matrix :: Chunk.own tInt fm_2e a1_001 n1_001 c1_001 m_2e :: Chunk.box b0 128 [.slice q0_0 c_p0.b.length k0_0, .int .i64 c_2e, .int .i64 c1_2e] :: C)
    refine En.block_exit (En.next (WC.sr ?_))
    refine sp (OpV.loadAll rfl mq1 ag_37) ?_
    refine WL.heavy0 rfl rfl (OpH.storeTo (A := []) [_, _] rfl rfl rfl ts_37 rfl rfl rfl ?_)
    refine WL.nil (En.next (WC.ret ?_))
    refine En.ret1 rfl (Res.cell rfl mq0 ag_37) ?_
    obtain rfl := Option.some.inj h
    intro w' hs
    have hs := ((((hs).pm 4).pm 4).pm 4).sub (.cons_cons _ (.cons_cons _ (.cons_cons _ (.cons _ (.cons _ (List.Sublist.refl _))))))
    exact ⟨_, _, rfl, ⟨a1_000, n1_000, c1_000, f1_000, a1_001, n1_001, c1_001, fm_2e, rfl, rfl⟩, hs⟩
   ·
    intro zK2_0
    refine WC.loopP (G := (List Nat)) (fun s g => match s, g with | (c_2, c1_2, m_2, v_2, k_2), fm_2 => [(0, .pointer (some ⟨b0, 0, .none⟩)), (2, .pointer (some ⟨b0_0, 0, .none⟩)), (3, .pointer (some ⟨b1_1, 0, .none⟩)), (5, .int .i64 v_2), (6, .int .i64 k_2)]) (fun s g => match s, g with | (c_2, c1_2, m_2, v_2, k_2), fm_2 => (Chunk.box b0 128 [.slice q0_0 c_p0.b.length k0_0, .int .i64 c_2, .int .i64 c1_2] :: Chunk.box b0_0 37 [.slice .none 0 0, .slice .none 0 0] :: Chunk.box b1_1 37 [.slice a1_000 n1_000 c1_000, .slice a1_001 n1_001 c1_001] :: Chunk.own tInt f1_000 a1_000 n1_000 c1_000 x1_0.Matrix :: Chunk.own tInt fm_2 a1_001 n1_001 c1_001 m_2 :: C)) (x7_1b.i, x7_1b.h, x1_0.Curve, 0, 0) f1_001 ezy2 (by exact sc (sc (sc (sc (sc sn))))) (by exact (fun _ h => (((((h).pm 3).pm 3).pm 3).pm 4).pm 4)) ?_
    rintro zm2 ⟨c_2, c1_2, m_2, v_2, k_2⟩ fm_2 zo2 zf2 zb2 ze2
    have zh2 : spec_l08Map_L2 c_p0 c_2 c1_2 m_2 v_2 k_2 = some zo2 := zf2
    unfold spec_l08Map_L2 at zh2
    show WC _ _ _ _ _ [(0, .pointer (some ⟨b0, 0, .none⟩)), (2, .pointer (some ⟨b0_0, 0, .none⟩)), (3, .pointer (some ⟨b1_1, 0, .none⟩)), (5, .int .i64 v_2), (6, .int .i64 k_2)] (Chunk.box b0 128 [.slice q0_0 c_p0.b.length k0_0, .int .i64 c_2, .int .i64 c1_2] :: Chunk.box b0_0 37 [.slice .none 0 0, .slice .none 0 0] :: Chunk.box b1_1 37 [.slice a1_000 n1_000 c1_000, .slice a1_001 n1_001 c1_001] :: Chunk.own tInt f1_000 a1_000 n1_000 c1_000 x1_0.Matrix :: Chunk.own tInt fm_2 a1_001 n1_001 c1_001 m_2 :: C)
    refine WC.seq (WC.sr ?_)
    refine mv ?_
    refine sp (OpV.lss rfl rfl) ?_
    refine WL.nil (En.next ?_)
    refine WC.cond rfl ?_ ?_
    ·
     intro hc_6
     replace zh2 := ifO_t hc_6 zh2
     refine WC.skip (En.next (WC.seq (WC.block (WC.seq ?_))))
     obtain ⟨⟨x12_2a, x12_2b⟩, e12_2, zh2⟩ := bnd zh2
     refine WC.region ?_
     refine mv ?_
     refine mv ?_
     refine WL.heavy rfl rfl rfl (OpH.callX (ec rfl (ec rfl e0)) ca_105 (fun w hs => w_spec_l01Below e12_2 hs (fun w hs => (r0_0 _ (St.tl (F := [_, _, _, _]) hs)))) ?_)
     rintro _ _ ⟨rfl, rfl⟩
     refine sp (OpV.addR rfl rfl) ?_
     refine sp (OpV.min2 rfl rfl) ?_
     refine ag ?_
     refine WL.nil (En.next ?_)
     refine WC.inh fun hin13 => ?_
     have hn13_4 := ownLen hin13 mq4
     obtain ⟨x13_5, e13_5, zh2⟩ := bnd zh2
     obtain ⟨g13_4, o13_4, ha13_4⟩ := ownAddrU hin13 mq4 e13_5
     refine WC.region ?_
     refine sp (OpV.fieldAddr rfl fo_37_1) ?_
     refine sp (OpV.loadBox rfl pt_23 mq2 rfl) ?_
     refine mv ?_
     refine mv ?_
     refine sp (OpV.idxA rfl rfl se_23 ha13_4 ⟨(upd_some e13_5).1.1, by rw [hn13_4]; exact (upd_some e13_5).1.2⟩) ?_
     refine WL.wkF (fun _ h => St.elFlat tInt_flat (min 256 (wr (v_2 + x12_2a))) h) ?_
     refine WL.wkF (fun _ h => h.pm 5) ?_
     refine WL.wkF (fun _ h => h.pm 1) ?_
     refine WL.heavy0 rfl rfl (OpH.setEl (A := tInt) ha13_4 rfl rfl rfl ts_3 e13_5 ?_)
     intro f13_5
     refine WL.nil (En.block_norm (En.next (WC.region ?_)))
     refine mv ?_
     refine sp (OpV.addR rfl rfl) ?_
     refine ag ?_
     refine WL.nil ?_
     exact En.backP zb2 zh2 f13_5 (sc (sc (sc (sc (sc sn))))) (fun _ h => ((((h).pm 4).pm 4).pm 4).pm 4)
    ·
     intro hc_6
     replace zh2 := ifO_f hc_6 zh2
     refine WC.exit (En.then_exit (En.then_exit ?_))
     have hx := exitP ze2 zh2
     exact En.wk _ _ (sc (sc sn)) (fun _ h => ((((h).pm 4).pm 4).pm 4).pm 4) (zK2_0 ((m_2, c_2, c1_2), fm_2) hx.symm)
  ·
   intro hc_5
   replace h := ifO_f hc_5 h
   refine WC.skip (En.next (WC.sr ?_))
   refine sp (OpV.loadAll rfl mq1 ag_37) ?_
   refine WL.heavy0 rfl rfl (OpH.storeTo (A := [_, _, _, _]) [_, _] rfl rfl rfl ts_37 rfl rfl rfl ?_)
   refine WL.nil (En.next (WC.ret ?_))
   refine En.ret1 rfl (Res.cell rfl mq4 ag_37) ?_
   obtain rfl := Option.some.inj h
   intro w' hs
   have hs := (((hs).pm 3).pm 3).sub (.cons_cons _ (.cons_cons _ (.cons_cons _ (.cons _ (.cons _ (List.Sublist.refl _))))))
   exact ⟨_, _, rfl, ⟨a1_000, n1_000, c1_000, f1_000, a1_001, n1_001, c1_001, f1_001, rfl, rfl⟩, hs⟩

theorem w_spec_l22Crtc {c_p0 : L01CurT} {r : CrtcT × L01CurT} {b0 : Nat} {q0_0 : Option Addr} {l0_0 k0_0 : Nat} (h : spec_l22Crtc c_p0 = some r) {w0 w : World} {C : List Chunk} (hs0 : St w0 (Chunk.box b0 128 [.slice q0_0 l0_0 k0_0, .int .i64 c_p0.i, .int .i64 c_p0.h] :: C) w) (r0_0 : ∀ w, St w0 C w → Rd tU8 w q0_0 l0_0 k0_0 c_p0.b) :
    Calls Tryz.prog 70 #[.pointer (some ⟨b0, 0, .none⟩)] w (fun en w' => ∃ rv G, en = .returned rv ∧ (∃ (a0_0 : Option Addr) (n0_0 : Nat) (c0_0 : Nat) (f0_0 : List Nat) (a0_1 : Option Addr) (n0_1 : Nat) (c0_1 : Nat) (f0_1 : List Nat) (a0_2 : Option Addr) (n0_2 : Nat) (c0_2 : Nat) (f0_2 : List Nat), rv = .agg #[.int .i64 r.1.W, .int .i64 r.1.H, .slice a0_0 n0_0 c0_0, .slice a0_1 n0_1 c0_1, .slice a0_2 n0_2 c0_2] ∧ G = Chunk.own tPlane f0_0 a0_0 n0_0 c0_0 r.1.Planes :: Chunk.own tInt f0_1 a0_1 n0_1 c0_1 r.1.Color.Matrix :: Chunk.own tInt f0_2 a0_2 n0_2 c0_2 r.1.Color.Curve :: Chunk.box b0 128 [.slice q0_0 l0_0 k0_0, .int .i64 r.2.i, .int .i64 r.2.h] :: C) ∧ St w0 G w') := by
 obtain rfl := (r0_0 _ (St.tl (F := [_]) hs0)).1
 unfold spec_l22Crtc at h
 refine enterF hs0 (vs := [_]) Tryz.func70 rfl rfl rfl rfl ?_
 refine WC.sr ?_
 refine WL.heavy rfl rfl rfl (OpH.alloc zc_39 ?_)
 intro b0_0
 refine WL.nil (En.next (WC.seq ?_))
 obtain ⟨⟨x1_1a, x1_1b⟩, e1_1, h⟩ := bnd h
 refine WC.region ?_
 refine mv ?_
 refine WL.wkF (fun _ h => h.pm 1) ?_
 refine WL.heavy rfl rfl rfl (OpH.callX (ec rfl (ec rfl e0)) ca_105 (fun w hs => w_spec_l01Below e1_1 hs (fun w hs => (r0_0 _ (St.tl (F := [_]) hs)))) ?_)
 rintro _ _ ⟨rfl, rfl⟩
 refine sp (OpV.addR rfl rfl) ?_
 refine ag ?_
 refine WL.nil (En.next (WC.seq ?_))
 obtain ⟨⟨x2_1a, x2_1b⟩, e2_1, h⟩ := bnd h
 refine WC.region ?_
 refine mv ?_
 refine WL.heavy rfl rfl rfl (OpH.callX (ec rfl (ec rfl e0)) ca_105 (fun w hs => w_spec_l01Below e2_1 hs (fun w hs => (r0_0 _ (St.tl (F := [_]) hs)))) ?_)
 rintro _ _ ⟨rfl, rfl⟩
 refine sp (OpV.addR rfl rfl) ?_
 refine ag ?_
 refine WL.nil (En.next (WC.seq ?_))
 obtain ⟨⟨x3_5a, x3_5b⟩, e3_5, h⟩ := bnd h
 obtain ⟨⟨x3_7a, x3_7b⟩, e3_7, h⟩ := bnd h
 refine WC.region ?_
 refine mv ?_
 refine mv ?_
 refine mv ?_
 refine mv ?_
 refine mv ?_
 refine WL.heavy rfl rfl rfl (OpH.callX (ec rfl (ec rfl (ec rfl e0))) ca_106 (fun w hs => w_spec_l19Planes e3_5 hs (fun w hs => (r0_0 _ (St.tl (F := [_]) hs)))) ?_)
 rintro _ _ ⟨a3_500, n3_500, c3_500, f3_500, rfl, rfl⟩
 refine mv ?_
 refine WL.wkF (fun _ h => h.pm 1) ?_
 refine WL.heavy rfl rfl rfl (OpH.callX (ec rfl e0) ca_107 (fun w hs => w_spec_l08Map e3_7 hs (fun w hs => (r0_0 _ (St.tl (F := [_, _]) hs)))) ?_)
 rintro _ _ ⟨a3_700, n3_700, c3_700, f3_700, a3_701, n3_701, c3_701, f3_701, rfl, rfl⟩
 refine sp (OpV.build (evps.cons rfl (evps.cons rfl (evps.cons rfl (evps.cons rfl (evps.nil))))) (bd_39_0_1_2_3 _ _ _ _ _ _ _ _ _ _ _)) ?_
 refine WL.heavy0 rfl rfl (OpH.storeTo (A := [_, _, _, _]) [_, _, _, _, _] rfl rfl rfl ts_39 rfl rfl rfl ?_)
 refine WL.nil (En.next (WC.ret ?_))
 refine En.ret1 rfl (Res.cell rfl mq4 ag_39) ?_
 obtain rfl := Option.some.inj h
 intro w' hs
 have hs := (((((hs).pm 2).pm 2).pm 2).pm 3).sub (.cons_cons _ (.cons_cons _ (.cons_cons _ (.cons_cons _ (.cons _ (List.Sublist.refl _))))))
 exact ⟨_, _, rfl, ⟨a3_500, n3_500, c3_500, f3_500, a3_700, n3_700, c3_700, f3_700, a3_701, n3_701, c3_701, f3_701, rfl, rfl⟩, hs⟩

theorem w_spec_l08Any {c_p0 : L01CurT} {r : ColorMapT × L01CurT} {b0 : Nat} {q0_0 : Option Addr} {l0_0 k0_0 : Nat} (h : spec_l08Any c_p0 = some r) {w0 w : World} {C : List Chunk} (hs0 : St w0 (Chunk.box b0 128 [.slice q0_0 l0_0 k0_0, .int .i64 c_p0.i, .int .i64 c_p0.h] :: C) w) (r0_0 : ∀ w, St w0 C w → Rd tU8 w q0_0 l0_0 k0_0 c_p0.b) :
    Calls Tryz.prog 108 #[.pointer (some ⟨b0, 0, .none⟩)] w (fun en w' => ∃ rv G, en = .returned rv ∧ (∃ (a0_0 : Option Addr) (n0_0 : Nat) (c0_0 : Nat) (f0_0 : List Nat) (a0_1 : Option Addr) (n0_1 : Nat) (c0_1 : Nat) (f0_1 : List Nat), rv = .agg #[.slice a0_0 n0_0 c0_0, .slice a0_1 n0_1 c0_1] ∧ G = Chunk.own tInt f0_0 a0_0 n0_0 c0_0 r.1.Matrix :: Chunk.own tInt f0_1 a0_1 n0_1 c0_1 r.1.Curve :: Chunk.box b0 128 [.slice q0_0 l0_0 k0_0, .int .i64 r.2.i, .int .i64 r.2.h] :: C) ∧ St w0 G w') := by
 obtain rfl := (r0_0 _ (St.tl (F := [_]) hs0)).1
 unfold spec_l08Any at h
 refine enterF hs0 (vs := [_]) Tryz.func108 rfl rfl rfl rfl ?_
 refine WC.sr ?_
 refine WL.heavy rfl rfl rfl (OpH.alloc zc_37 ?_)
 intro b0_0
 refine WL.nil (En.next (WC.seq ?_))
 obtain ⟨⟨x1_1a, x1_1b⟩, e1_1, h⟩ := bnd h
 refine WC.region ?_
 refine mv ?_
 refine WL.wkF (fun _ h => h.pm 1) ?_
 refine WL.heavy rfl rfl rfl (OpH.callX (ec rfl e0) ca_107 (fun w hs => w_spec_l08Map e1_1 hs (fun w hs => (r0_0 _ (St.tl (F := [_]) hs)))) ?_)
 rintro _ _ ⟨a1_100, n1_100, c1_100, f1_100, a1_101, n1_101, c1_101, f1_101, rfl, rfl⟩
 refine WL.heavy rfl rfl rfl (OpH.alloc zc_37 ?_)
 intro b1_2
 refine WL.heavy0 rfl rfl (OpH.storeTo (A := []) [_, _] rfl rfl rfl ts_37 rfl rfl rfl ?_)
 refine WL.nil (En.next (WC.seq (WC.seq ?_)))
 obtain ⟨⟨x2_1a, x2_1b⟩, e2_1, h⟩ := bnd h
 refine WC.region ?_
 refine mv ?_
 refine WL.wkF (fun _ h => h.pm 3) ?_
 refine WL.heavy rfl rfl rfl (OpH.callX (ec rfl (ec rfl e0)) ca_105 (fun w hs => w_spec_l01Below e2_1 hs (fun w hs => (r0_0 _ (St.tl (F := [_, _, _, _]) hs)))) ?_)
 rintro _ _ ⟨rfl, rfl⟩
 refine WL.nil (En.next (WC.block (WC.sr ?_)))
 refine sp (OpV.eql rfl rfl) ?_
 refine ag ?_
 refine WL.nil (En.next ?_)
 refine WC.cond rfl ?_ ?_
 ·
  intro hc_1
  replace h := ifO_t hc_1 h
  refine WC.inh fun hin4 => ?_
  obtain ⟨⟨x4_3a, x4_3b⟩, e4_3, h⟩ := bnd h
  obtain ⟨⟨x4_6a, x4_6b⟩, e4_6, h⟩ := bnd h
  have hn4_7 := ownLen hin4 mq2
  obtain ⟨x4_8, e4_8, h⟩ := bnd h
  obtain ⟨g4_7, o4_7, ha4_7⟩ := ownAddrU hin4 mq2 e4_8
  refine WC.wkF (fun _ h => h.pm 2) ?_
  refine WC.wkF (fun _ h => h.pm 1) ?_
  refine WC.cut (X := (List Nat)) .normal (fun _ => True) (fun x => match x with | f4_8 => [(2, .pointer (some ⟨b0_0, 0, .none⟩)), (3, .pointer (some ⟨b1_2, 0, .none⟩))]) (fun x => match x with | f4_8 => (Chunk.own tInt f4_8 a1_100 n1_100 c1_100 x4_8 :: Chunk.box b0 128 [.slice q0_0 c_p0.b.length k0_0, .int .i64 x4_6b.i, .int .i64 x4_6b.h] :: Chunk.box b1_2 37 [.slice a1_100 n1_100 c1_100, .slice a1_101 n1_101 c1_101] :: Chunk.own tInt f1_101 a1_101 n1_101 c1_101 x1_1a.Curve :: Chunk.box b0_0 37 [.slice .none 0 0, .slice .none 0 0] :: C)) ?_ ?_
  ·
   rintro f4_8 _
   show En _ _ _ _ [(2, .pointer (some ⟨b0_0, 0, .none⟩)), (3, .pointer (some ⟨b1_2, 0, .none⟩))] (Chunk.own tInt f4_8 a1_100 n1_100 c1_100 x4_8 :: Chunk.box b0 128 [.slice q0_0 c_p0.b.length k0_0, .int .i64 x4_6b.i, .int .i64 x4_6b.h] :: Chunk.box b1_2 37 [.slice a1_100 n1_100 c1_100, .slice a1_101 n1_101 c1_101] :: Chunk.own tInt f1_101 a1_101 n1_101 c1_101 x1_1a.Curve :: Chunk.box b0_0 37 [.slice .none 0 0, .slice .none 0 0] :: C)
   refine En.block_norm (En.next (WC.sr ?_))
   refine sp (OpV.loadAll rfl mq2 ag_37) ?_
   refine WL.heavy0 rfl rfl (OpH.storeTo (A := [_, _, _, _]) [_, _] rfl rfl rfl ts_37 rfl rfl rfl ?_)
   refine WL.nil (En.next (WC.ret ?_))
   refine En.ret1 rfl (Res.cell rfl mq4 ag_37) ?_
   obtain rfl := Option.some.inj h
   intro w' hs
   have hs := ((((hs).pm 1).pm 3).pm 2).sub (.cons_cons _ (.cons_cons _ (.cons_cons _ (.cons _ (.cons _ (List.Sublist.refl _))))))
   exact ⟨_, _, rfl, ⟨a1_100, n1_100, c1_100, f4_8, a1_101, n1_101, c1_101, f1_101, rfl, rfl⟩, hs⟩
  ·
   intro KR4
   refine WC.drawnH [_, _] (_ :: _ :: _ :: C) (fun _ h => h) (by kernel_rfl) ?_
   refine tk 0 rfl (OpV.fieldAddr rfl fo_37_0) ?_
   refine tk 1 rfl (OpV.loadBox rfl pt_23 mq0 rfl) ?_
   refine tk 2 rfl (OpV.move rfl) ?_
   refine tk 4 rfl (OpV.move rfl) ?_
   refine WAE.all (rs := [3, 5]) (by kernel_rfl) rfl (AllR.cons rfl rfl rfl rfl ?_ (AllR.cons rfl rfl rfl rfl ?_ AllR.nil))
   ·
    refine OpH.callX (ec rfl (ec rfl e0)) ca_105 (fun w hs => w_spec_l01Below e4_3 hs (fun w hs => (r0_0 _ (St.tl (F := [_, _, _, _]) hs)))) ?_
    rintro _ _ ⟨rfl, rfl⟩
    refine ⟨[_, _], rfl, ?_⟩
    refine al1 5 rfl ?_
    refine OpH.litF (A := tInt) (xs := [(-1025), 1025]) tInt_flat (evps.cons rfl (evps.cons rfl (evps.nil))) (bs_23_2_0_1 _ _) rfl rfl (Nat.le_of_ble_eq_true rfl) ?_
    intro b4_5
    refine ⟨[_, _, _], rfl, ?_⟩
    refine al1 6 rfl ?_
    refine OpH.wkF (fun _ h => h.pm 1) ?_
    refine OpH.callX (ec rfl (ec rfl e0)) ca_131 (fun w hs => w_spec_l01PickInt e4_6 hs (fun w hs => (r0_0 _ (St.tl (F := [_, _, _, _, _]) hs))) (fun w hs => (Ow.rd (hs.mem mq0)))) ?_
    rintro _ _ ⟨rfl, rfl⟩
    refine ⟨[_, _, _], rfl, ?_⟩
    refine tk 7 rfl (OpV.idxA rfl rfl se_23 ha4_7 ⟨(upd_some e4_8).1.1, by rw [hn4_7]; exact (upd_some e4_8).1.2⟩) ?_
    refine al0 8 rfl ?_
    refine OpH.wkF (fun _ h => St.elFlat tInt_flat x4_6a h) ?_
    refine OpH.wkF (fun _ h => h.pm 3) ?_
    refine OpH.wkF (fun _ h => h.pm 1) ?_
    refine OpH.setEl (A := tInt) ha4_7 rfl rfl rfl ts_3 e4_8 ?_
    intro f4_8
    refine ⟨[_, _, _], rfl, ?_⟩
    refine WAE.rebase (H := []) ?_
    refine WAE.done (by kernel_rfl) ?_ _
    exact En.wk _ _ (sc (sc sn)) (fun _ h => ((((((h).pm 5).pm 5).pm 5).pm 4).pm 4).sub (.cons_cons _ (.cons_cons _ (.cons_cons _ (.cons_cons _ (.cons_cons _ (.cons _ (List.Sublist.refl _)))))))) (KR4 f4_8 trivial)
   ·
    refine OpH.litF (A := tInt) (xs := [(-1025), 1025]) tInt_flat (evps.cons rfl (evps.cons rfl (evps.nil))) (bs_23_2_0_1 _ _) rfl rfl (Nat.le_of_ble_eq_true rfl) ?_
    intro b4_5
    refine ⟨[_, _, _], rfl, ?_⟩
    refine al1 3 rfl ?_
    refine OpH.wkF (fun _ h => h.pm 1) ?_
    refine OpH.callX (ec rfl (ec rfl e0)) ca_105 (fun w hs => w_spec_l01Below e4_3 hs (fun w hs => (r0_0 _ (St.tl (F := [_, _, _, _, _]) hs)))) ?_
    rintro _ _ ⟨rfl, rfl⟩
    refine ⟨[_, _, _], rfl, ?_⟩
    refine al1 6 rfl ?_
    refine OpH.callX (ec rfl (ec rfl e0)) ca_131 (fun w hs => w_spec_l01PickInt e4_6 hs (fun w hs => (r0_0 _ (St.tl (F := [_, _, _, _, _]) hs))) (fun w hs => (Ow.rd (hs.mem mq0)))) ?_
    rintro _ _ ⟨rfl, rfl⟩
    refine ⟨[_, _, _], rfl, ?_⟩
    refine tk 7 rfl (OpV.idxA rfl rfl se_23 ha4_7 ⟨(upd_some e4_8).1.1, by rw [hn4_7]; exact (upd_some e4_8).1.2⟩) ?_
    refine al0 8 rfl ?_
    refine OpH.wkF (fun _ h => St.elFlat tInt_flat x4_6a h) ?_
    refine OpH.wkF (fun _ h => h.pm 3) ?_
    refine OpH.wkF (fun _ h => h.pm 1) ?_
    refine OpH.setEl (A := tInt) ha4_7 rfl rfl rfl ts_3 e4_8 ?_
    intro f4_8
    refine ⟨[_, _, _], rfl, ?_⟩
    refine WAE.rebase (H := []) ?_
    refine WAE.done (by kernel_rfl) ?_ _
    exact En.wk _ _ (sc (sc sn)) (fun _ h => ((((((h).pm 5).pm 5).pm 5).pm 4).pm 4).sub (.cons_cons _ (.cons_cons _ (.cons_cons _ (.cons_cons _ (.cons_cons _ (.cons _ (List.Sublist.refl _)))))))) (KR4 f4_8 trivial)
 ·
  intro hc_1
  replace h := ifO_f hc_1 h
  refine WC.sr ?_
  refine sp (OpV.eql rfl rfl) ?_
  refine ag ?_
  refine WL.nil (En.next ?_)
  refine WC.cond rfl ?_ ?_
  ·
   intro hc_2
   replace h := ifO_t hc_2 h
   refine WC.inh fun hin6 => ?_
   obtain ⟨⟨x6_3a, x6_3b⟩, e6_3, h⟩ := bnd h
   obtain ⟨⟨x6_6a, x6_6b⟩, e6_6, h⟩ := bnd h
   have hn6_7 := ownLen hin6 mq3
   obtain ⟨x6_8, e6_8, h⟩ := bnd h
   obtain ⟨g6_7, o6_7, ha6_7⟩ := ownAddrU hin6 mq3 e6_8
   refine WC.wkF (fun _ h => h.pm 3) ?_
   refine WC.wkF (fun _ h => h.pm 1) ?_
   refine WC.cut (X := (List Nat)) .normal (fun _ => True) (fun x => match x with | f6_8 => [(2, .pointer (some ⟨b0_0, 0, .none⟩)), (3, .pointer (some ⟨b1_2, 0, .none⟩))]) (fun x => match x with | f6_8 => (Chunk.own tInt f6_8 a1_101 n1_101 c1_101 x6_8 :: Chunk.box b0 128 [.slice q0_0 c_p0.b.length k0_0, .int .i64 x6_6b.i, .int .i64 x6_6b.h] :: Chunk.box b1_2 37 [.slice a1_100 n1_100 c1_100, .slice a1_101 n1_101 c1_101] :: Chunk.own tInt f1_100 a1_100 n1_100 c1_100 x1_1a.Matrix :: Chunk.box b0_0 37 [.slice .none 0 0, .slice .none 0 0] :: C)) ?_ ?_
   ·
    rintro f6_8 _
    show En _ _ _ _ [(2, .pointer (some ⟨b0_0, 0, .none⟩)), (3, .pointer (some ⟨b1_2, 0, .none⟩))] (Chunk.own tInt f6_8 a1_101 n1_101 c1_101 x6_8 :: Chunk.box b0 128 [.slice q0_0 c_p0.b.length k0_0, .int .i64 x6_6b.i, .int .i64 x6_6b.h] :: Chunk.box b1_2 37 [.slice a1_100 n1_100 c1_100, .slice a1_101 n1_101 c1_101] :: Chunk.own tInt f1_100 a1_100 n1_100 c1_100 x1_1a.Matrix :: Chunk.box b0_0 37 [.slice .none 0 0, .slice .none 0 0] :: C)
    refine En.block_norm (En.next (WC.sr ?_))
    refine sp (OpV.loadAll rfl mq2 ag_37) ?_
    refine WL.heavy0 rfl rfl (OpH.storeTo (A := [_, _, _, _]) [_, _] rfl rfl rfl ts_37 rfl rfl rfl ?_)
    refine WL.nil (En.next (WC.ret ?_))
    refine En.ret1 rfl (Res.cell rfl mq4 ag_37) ?_
    obtain rfl := Option.some.inj h
    intro w' hs
    have hs := ((((hs).pm 1).pm 1).pm 3).sub (.cons_cons _ (.cons_cons _ (.cons_cons _ (.cons _ (.cons _ (List.Sublist.refl _))))))
    exact ⟨_, _, rfl, ⟨a1_100, n1_100, c1_100, f1_100, a1_101, n1_101, c1_101, f6_8, rfl, rfl⟩, hs⟩
   ·
    intro KR6
    refine WC.drawnH [_, _] (_ :: _ :: _ :: C) (fun _ h => h) (by kernel_rfl) ?_
    refine tk 0 rfl (OpV.fieldAddr rfl fo_37_1) ?_
    refine tk 1 rfl (OpV.loadBox rfl pt_23 mq0 rfl) ?_
    refine tk 2 rfl (OpV.move rfl) ?_
    refine tk 4 rfl (OpV.move rfl) ?_
    refine WAE.all (rs := [3, 5]) (by kernel_rfl) rfl (AllR.cons rfl rfl rfl rfl ?_ (AllR.cons rfl rfl rfl rfl ?_ AllR.nil))
    ·
     refine OpH.callX (ec rfl (ec rfl e0)) ca_105 (fun w hs => w_spec_l01Below e6_3 hs (fun w hs => (r0_0 _ (St.tl (F := [_, _, _, _]) hs)))) ?_
     rintro _ _ ⟨rfl, rfl⟩
     refine ⟨[_, _], rfl, ?_⟩
     refine al1 5 rfl ?_
     refine OpH.litF (A := tInt) (xs := [(-1), 0, 256, 257]) tInt_flat (evps.cons rfl (evps.cons rfl (evps.cons rfl (evps.cons rfl (evps.nil))))) (bs_23_4_0_1_2_3 _ _ _ _) rfl rfl (Nat.le_of_ble_eq_true rfl) ?_
     intro b6_5
     refine ⟨[_, _, _], rfl, ?_⟩
     refine al1 6 rfl ?_
     refine OpH.wkF (fun _ h => h.pm 1) ?_
     refine OpH.callX (ec rfl (ec rfl e0)) ca_131 (fun w hs => w_spec_l01PickInt e6_6 hs (fun w hs => (r0_0 _ (St.tl (F := [_, _, _, _, _]) hs))) (fun w hs => (Ow.rd (hs.mem mq0)))) ?_
     rintro _ _ ⟨rfl, rfl⟩
     refine ⟨[_, _, _], rfl, ?_⟩
     refine tk 7 rfl (OpV.idxA rfl rfl se_23 ha6_7 ⟨(upd_some e6_8).1.1, by rw [hn6_7]; exact (upd_some e6_8).1.2⟩) ?_
     refine al0 8 rfl ?_
     refine OpH.wkF (fun _ h => St.elFlat tInt_flat x6_6a h) ?_
     refine OpH.wkF (fun _ h => h.pm 3) ?_
     refine OpH.wkF (fun _ h => h.pm 1) ?_
     refine OpH.setEl (A := tInt) ha6_7 rfl rfl rfl ts_3 e6_8 ?_
     intro f6_8
     refine ⟨[_, _, _], rfl, ?_⟩
     refine WAE.rebase (H := []) ?_
     refine WAE.done (by kernel_rfl) ?_ _
     exact En.wk _ _ (sc (sc sn)) (fun _ h => ((((((h).pm 5).pm 5).pm 5).pm 4).pm 4).sub (.cons_cons _ (.cons_cons _ (.cons_cons _ (.cons_cons _ (.cons_cons _ (.cons _ (List.Sublist.refl _)))))))) (KR6 f6_8 trivial)
    ·
     refine OpH.litF (A := tInt) (xs := [(-1), 0, 256, 257]) tInt_flat (evps.cons rfl (evps.cons rfl (evps.cons rfl (evps.cons rfl (evps.nil))))) (bs_23_4_0_1_2_3 _ _ _ _) rfl rfl (Nat.le_of_ble_eq_true rfl) ?_
     intro b6_5
     refine ⟨[_, _, _], rfl, ?_⟩
     refine al1 3 rfl ?_
     refine OpH.wkF (fun _ h => h.pm 1) ?_
     refine OpH.callX (ec rfl (ec rfl e0)) ca_105 (fun w hs => w_spec_l01Below e6_3 hs (fun w hs => (r0_0 _ (St.tl (F := [_, _, _, _, _]) hs)))) ?_
     rintro _ _ ⟨rfl, rfl⟩
     refine ⟨[_, _, _], rfl, ?_⟩
     refine al1 6 rfl ?_
     refine OpH.callX (ec rfl (ec rfl e0)) ca_131 (fun w hs => w_spec_l01PickInt e6_6 hs (fun w hs => (r0_0 _ (St.tl (F := [_, _, _, _, _]) hs))) (fun w hs => (Ow.rd (hs.mem mq0)))) ?_
     rintro _ _ ⟨rfl, rfl⟩
     refine ⟨[_, _, _], rfl, ?_⟩
     refine tk 7 rfl (OpV.idxA rfl rfl se_23 ha6_7 ⟨(upd_some e6_8).1.1, by rw [hn6_7]; exact (upd_some e6_8).1.2⟩) ?_
     refine al0 8 rfl ?_
     refine OpH.wkF (fun _ h => St.elFlat tInt_flat x6_6a h) ?_
     refine OpH.wkF (fun _ h => h.pm 3) ?_
     refine OpH.wkF (fun _ h => h.pm 1) ?_
     refine OpH.setEl (A := tInt) ha6_7 rfl rfl rfl ts_3 e6_8 ?_
     intro f6_8
     refine ⟨[_, _, _], rfl, ?_⟩
     refine WAE.rebase (H := []) ?_
     refine WAE.done (by kernel_rfl) ?_ _
     exact En.wk _ _ (sc (sc sn)) (fun _ h => ((((((h).pm 5).pm 5).pm 5).pm 4).pm 4).sub (.cons_cons _ (.cons_cons _ (.cons_cons _ (.cons_cons _ (.cons_cons _ (.cons _ (List.Sublist.refl _)))))))) (KR6 f6_8 trivial)
  ·
   intro hc_2
   replace h := ifO_f hc_2 h
   refine WC.sr ?_
   refine sp (OpV.eql rfl rfl) ?_
   refine ag ?_
   refine WL.nil (En.next ?_)
   refine WC.cond rfl ?_ ?_
   ·
    intro hc_3
    replace h := ifO_t hc_3 h
    obtain ⟨x8_2, e8_2, h⟩ := bnd h
    refine WC.region ?_
    refine sp (OpV.fieldAddr rfl fo_37_1) ?_
    refine sp (OpV.loadBox rfl pt_23 mq1 rfl) ?_
    refine sp (OpV.inhF fun hin => OpV.subL (ownLen hin mq3) rfl rfl se_23 e8_2) ?_
    refine WL.exF (fun w h => St.ownTail (F := [_, _, _]) e8_2 h) ?_
    rintro f8_2 _
    refine sp (OpV.fieldAddr rfl fo_37_1) ?_
    refine WL.heavy0 rfl rfl (OpH.storeTo (A := [_]) [_, _] rfl rfl rfl ts_23 rfl rfl rfl ?_)
    refine WL.nil (En.block_norm (En.next (WC.sr ?_)))
    refine sp (OpV.loadAll rfl mq1 ag_37) ?_
    refine WL.heavy0 rfl rfl (OpH.storeTo (A := [_, _, _, _]) [_, _] rfl rfl rfl ts_37 rfl rfl rfl ?_)
    refine WL.nil (En.next (WC.ret ?_))
    refine En.ret1 rfl (Res.cell rfl mq4 ag_37) ?_
    obtain rfl := Option.some.inj h
    intro w' hs
    have hs := (((hs).pm 3).pm 3).sub (.cons_cons _ (.cons_cons _ (.cons_cons _ (.cons _ (.cons _ (List.Sublist.refl _))))))
    exact ⟨_, _, rfl, ⟨a1_100, n1_100, c1_100, f1_100, (subA a1_101 c1_101 (Int.toNat 1) 1), x8_2.length, (c1_101 - (Int.toNat 1)), f8_2, rfl, rfl⟩, hs⟩
   ·
    intro hc_3
    replace h := ifO_f hc_3 h
    refine WC.sr ?_
    refine sp (OpV.eql rfl rfl) ?_
    refine ag ?_
    refine WL.nil (En.next ?_)
    refine WC.cond rfl ?_ ?_
    ·
     intro hc_4
     replace h := ifO_t hc_4 h
     obtain ⟨x10_3, e10_3, h⟩ := bnd h
     refine WC.region ?_
     refine sp (OpV.fieldAddr rfl fo_37_0) ?_
     refine sp (OpV.loadBox rfl pt_23 mq1 rfl) ?_
     refine WL.heavy rfl rfl rfl (OpH.litF (A := tInt) (xs := [0]) tInt_flat (evps.cons rfl (evps.nil)) (bs_23_1_0 _) rfl rfl (Nat.le_of_ble_eq_true rfl) ?_)
     intro b10_2
     refine WL.heavy rfl rfl rfl (OpH.appS (F := [_, _, _]) (A := tInt) tInt_flat rfl rfl rfl mi_23 rfl (by decide) (fun w hs => (Ow.rd (hs.mem mq0))) e10_3 ?_)
     intro f10_3 a10_3 c10_3
     refine sp (OpV.fieldAddr rfl fo_37_0) ?_
     refine WL.heavy0 rfl rfl (OpH.storeTo (A := [_, _]) [_, _] rfl rfl rfl ts_23 rfl rfl rfl ?_)
     refine WL.nil (En.block_norm (En.next (WC.sr ?_)))
     refine sp (OpV.loadAll rfl mq2 ag_37) ?_
     refine WL.heavy0 rfl rfl (OpH.storeTo (A := [_, _, _, _, _]) [_, _] rfl rfl rfl ts_37 rfl rfl rfl ?_)
     refine WL.nil (En.next (WC.ret ?_))
     refine En.ret1 rfl (Res.cell rfl mq5 ag_37) ?_
     obtain rfl := Option.some.inj h
     intro w' hs
     have hs := ((((hs).pm 1).pm 4).pm 4).sub (.cons_cons _ (.cons_cons _ (.cons_cons _ (.cons _ (.cons _ (.cons _ (List.Sublist.refl _)))))))
     exact ⟨_, _, rfl, ⟨a10_3, x10_3.length, c10_3, f10_3, a1_101, n1_101, c1_101, f1_101, rfl, rfl⟩, hs⟩
    ·
     intro hc_4
     replace h := ifO_f hc_4 h
     refine WC.skip (En.block_norm (En.next (WC.sr ?_)))
     refine sp (OpV.loadAll rfl mq1 ag_37) ?_
     refine WL.heavy0 rfl rfl (OpH.storeTo (A := [_, _, _, _]) [_, _] rfl rfl rfl ts_37 rfl rfl rfl ?_)
     refine WL.nil (En.next (WC.ret ?_))
     refine En.ret1 rfl (Res.cell rfl mq4 ag_37) ?_
     obtain rfl := Option.some.inj h
     intro w' hs
     have hs := (((hs).pm 3).pm 3).sub (.cons_cons _ (.cons_cons _ (.cons_cons _ (.cons _ (.cons _ (List.Sublist.refl _))))))
     exact ⟨_, _, rfl, ⟨a1_100, n1_100, c1_100, f1_100, a1_101, n1_101, c1_101, f1_101, rfl, rfl⟩, hs⟩

end Go.Proofs.YtmhalmnbgkpmnaaGreat
