/- Walks: the program computes the pure functions. -/
import Derived.Test.YtmhalmnbgkpmnaaGreatDefs
import Derived.Test.YtmhalmnbgkpmnaaGreatFacts
import Derived.Test.YtmhalmnbgkpmnaaGreatRepeat
import Derived.Test.YtmhalmnbgkpmnaaGreatPlanes
import Derived.Test.YtmhalmnbgkpmnaaGreatInsert
namespace Go.Proofs.YtmhalmnbgkpmnaaGreat
open Go.RowKit K
set_option maxRecDepth 100000
set_option maxHeartbeats 4000000

theorem w_laws_big {code_p0 : List Int} {r : Bool} {q0_0 : Option Addr} {l0_0 k0_0 : Nat} (h : laws_big code_p0 = some r) {w : World} (r0_0 : Rd tU8 w q0_0 l0_0 k0_0 code_p0)   :
    Calls Tryz.prog 21 #[.slice q0_0 l0_0 k0_0] w (fun en w' => en = .returned (.bool r) ∧ Ext w w') := by
 obtain rfl := r0_0.1
 unfold laws_big at h
 refine enter (vs := [_]) Tryz.func21 rfl rfl rfl rfl ?_
 refine WC.sr ?_
 refine ag ?_
 refine WL.nil (En.next (WC.sr ?_))
 refine mv ?_
 refine sp (OpV.len rfl si_51 rfl) ?_
 refine sp (OpV.gtr rfl rfl) ?_
 refine ag ?_
 refine WL.nil (En.next (WC.ret ?_))
 refine En.ret1 rfl (Res.tmp rfl) ?_
 obtain rfl := Option.some.inj h
 intro w' hs
 exact ⟨rfl, hs.below⟩

theorem w_spec_l01In {x_p0 : Int} {least_p1 : Int} {most_p2 : Int} {r : Bool}  (h : spec_l01In x_p0 least_p1 most_p2 = some r) {w : World}    :
    Calls Tryz.prog 64 #[.int .i64 x_p0, .int .i64 least_p1, .int .i64 most_p2] w (fun en w' => en = .returned (.bool r) ∧ Ext w w') := by
 unfold spec_l01In at h
 refine enter (vs := [_, _, _]) Tryz.func64 rfl rfl rfl rfl ?_
 refine WC.sr ?_
 refine ag ?_
 refine WL.nil (En.next (WC.sr ?_))
 refine mv ?_
 refine mv ?_
 refine sp (OpV.geq rfl rfl) ?_
 refine mv ?_
 refine Lt.ofWL.and 10 14 13 (p := ?pz1) (rest := ?qz1) (B := ?Bz1) rfl ?Tz1 ?Fz1 ?az1 ?bz1 ?cz1 ?dz1 ?ez1
 case Tz1 =>
  intro hcz1 hkz1
  refine mv ?_
  refine mv ?_
  refine sp (OpV.leq rfl rfl) ?_
  refine hkz1 _ ?_ ?_
  exact rfl
  repeat (first | exact Sub.refl _ | refine Sub.skip rfl ?_)
 case Fz1 =>
  intro hcz1 hkz1
  refine sk ?_
  refine sk ?_
  refine sk ?_
  refine hkz1 _ ?_
  repeat (first | exact Sub.refl _ | refine Sub.skip rfl ?_)
 case az1 => exact rfl
 case bz1 => exact rfl
 case cz1 => exact rfl
 case dz1 => exact rfl
 refine ag ?_
 refine WL.nil (En.next (WC.ret ?_))
 refine En.ret1 rfl (Res.tmp rfl) ?_
 obtain rfl := Option.some.inj h
 intro w' hs
 exact ⟨rfl, hs.below⟩

theorem w_spec_l04Pixel {p_p0 : Int} {r : Bool}  (h : spec_l04Pixel p_p0 = some r) {w : World}    :
    Calls Tryz.prog 118 #[.int .i64 p_p0] w (fun en w' => en = .returned (.bool r) ∧ Ext w w') := by
 unfold spec_l04Pixel at h
 refine enter (vs := [_]) Tryz.func118 rfl rfl rfl rfl ?_
 refine WC.sr ?_
 refine ag ?_
 refine WL.nil (En.next (WC.seq ?_))
 obtain ⟨x1_1, e1_1, h⟩ := bnd h
 refine WC.region ?_
 refine mv ?_
 refine sp (OpV.call (ec rfl (ec rfl (ec rfl e0))) ca_64 (fun w hs => w_spec_l01In e1_1)) ?_
 refine ag ?_
 refine WL.nil (En.next (WC.ret ?_))
 refine En.ret1 rfl (Res.tmp rfl) ?_
 obtain rfl := Option.some.inj h
 intro w' hs
 exact ⟨rfl, hs.below⟩

theorem w_spec_NewImage {w_p0 : Int} {h_p1 : Int} {p_p2 : Int} {r : ImageT}  (h : spec_NewImage w_p0 h_p1 p_p2 = some r) {w : World}    :
    Calls Tryz.prog 83 #[.int .i64 w_p0, .int .i64 h_p1, .int .i64 p_p2] w (fun en w' => ∃ rv G, en = .returned rv ∧ (∃ (a0_0 : Option Addr) (n0_0 : Nat) (c0_0 : Nat) (f0_0 : List Nat), rv = .agg #[.int .i64 r.W, .int .i64 r.H, .slice a0_0 n0_0 c0_0] ∧ G = [Chunk.own tInt f0_0 a0_0 n0_0 c0_0 r.Data]) ∧ St w G w') := by
 unfold spec_NewImage at h
 refine enter (vs := [_, _, _]) Tryz.func83 rfl rfl rfl rfl ?_
 refine WC.sr ?_
 refine WL.heavy rfl rfl rfl (OpH.alloc zc_107 ?_)
 intro b0_0
 refine WL.nil (En.next (WC.seq (WC.seq ?_)))
 obtain ⟨x1_1, e1_1, h⟩ := bnd h
 obtain ⟨q1_7, e1_7, h⟩ := bnd h
 obtain ⟨q1_12, e1_12, h⟩ := bnd h
 refine WC.region ?_
 refine mv ?_
 refine sp (OpV.call (ec rfl (ec rfl (ec rfl e0))) ca_64 (fun w hs => w_spec_l01In e1_1)) ?_
 refine sp (OpV.not rfl) ?_
 refine mv ?_
 refine Lt.ofWL.orQ 12 16 15 (p := ?pz1) (rest := ?qz1) (B := q1_7) rfl (fun hz => orO_t e1_7 hz) ?Tz1 ?Fz1 ?az1 ?bz1 ?cz1 ?dz1 ?ez1
 case Tz1 =>
  intro hcz1 hkz1
  refine sk ?_
  refine sk ?_
  refine sk ?_
  refine hkz1 _ ?_
  repeat (first | exact Sub.refl _ | refine Sub.skip rfl ?_)
 case Fz1 =>
  intro hcz1 hkz1
  have hqz1 := orO_f e1_7 hcz1
  obtain ⟨x1_5, e1_5, hqz1⟩ := bnd hqz1
  obtain rfl := Option.some.inj hqz1
  refine mv ?_
  refine sp (OpV.call (ec rfl (ec rfl (ec rfl e0))) ca_64 (fun w hs => w_spec_l01In e1_5)) ?_
  refine sp (OpV.not rfl) ?_
  refine hkz1 _ ?_ ?_
  exact rfl
  repeat (first | exact Sub.refl _ | refine Sub.skip rfl ?_)
 case az1 => exact rfl
 case bz1 => exact rfl
 case cz1 => exact rfl
 case dz1 => exact rfl
 refine mv ?_
 refine Lt.ofWL.orQ 17 21 20 (p := ?pz2) (rest := ?qz2) (B := q1_12) rfl (fun hz => orO_t e1_12 hz) ?Tz2 ?Fz2 ?az2 ?bz2 ?cz2 ?dz2 ?ez2
 case Tz2 =>
  intro hcz2 hkz2
  refine sk ?_
  refine sk ?_
  refine sk ?_
  refine hkz2 _ ?_
  repeat (first | exact Sub.refl _ | refine Sub.skip rfl ?_)
 case Fz2 =>
  intro hcz2 hkz2
  have hqz2 := orO_f e1_12 hcz2
  obtain ⟨x1_10, e1_10, hqz2⟩ := bnd hqz2
  obtain rfl := Option.some.inj hqz2
  refine mv ?_
  refine sp (OpV.call (ec rfl e0) ca_118 (fun w hs => w_spec_l04Pixel e1_10)) ?_
  refine sp (OpV.not rfl) ?_
  refine hkz2 _ ?_ ?_
  exact rfl
  repeat (first | exact Sub.refl _ | refine Sub.skip rfl ?_)
 case az2 => exact rfl
 case bz2 => exact rfl
 case cz2 => exact rfl
 case dz2 => exact rfl
 refine WL.nil (En.next ?_)
 refine WC.cond rfl ?_ ?_
 ·
  intro hc_1
  replace h := ifO_t hc_1 h
  refine WC.sr ?_
  refine sp (OpV.build (evps.nil) bd_107_) ?_
  refine WL.heavy0 rfl rfl (OpH.storeTo (A := []) [_, _, _] rfl rfl rfl ts_107 rfl rfl rfl ?_)
  refine WL.nil (En.next (WC.ret (En.then_ret ?_)))
  refine En.ret1 rfl (Res.cell rfl mq0 ag_107) ?_
  obtain rfl := Option.some.inj h
  intro w' hs
  have hs := ((hs).ownNil (A := tInt)).sub (.cons_cons _ (.cons _ (.slnil)))
  exact ⟨_, _, rfl, ⟨.none, 0, 0, [], rfl, rfl⟩, hs⟩
 ·
  intro hc_1
  replace h := ifO_f hc_1 h
  refine WC.skip (En.next (WC.sr ?_))
  refine mv ?_
  refine mv ?_
  refine sp (OpV.build (evps.cons rfl (evps.cons rfl (evps.nil))) (bd_107_0_1 _ _)) ?_
  refine WL.heavy rfl rfl rfl (OpH.alloc zc_107 ?_)
  intro b3_3
  refine WL.heavy0 rfl rfl (OpH.storeTo (A := []) [_, _, _] rfl rfl rfl ts_107 rfl rfl rfl ?_)
  refine WL.nil (En.next (WC.seq (WC.sr ?_)))
  refine ag ?_
  refine WL.nil (En.next (WC.block ?_))
  obtain ⟨zy0, ezy0, h⟩ := bnd h
  refine WC.cut (X := ((List Int)) × ((Option Addr) × Nat × Nat × (List Nat))) (.exit 0) (fun x => zy0 = x.1) (fun x => match x with | (i_0e, (ai_0e, ni_0e, ci_0e, fi_0e)) => [(6, .pointer (some ⟨b0_0, 0, .none⟩)), (7, .pointer (some ⟨b3_3, 0, .none⟩))]) (fun x => match x with | (i_0e, (ai_0e, ni_0e, ci_0e, fi_0e)) => [Chunk.box b0_0 107 [.int .i64 0, .int .i64 0, .slice .none 0 0], Chunk.box b3_3 107 [.int .i64 w_p0, .int .i64 h_p1, .slice ai_0e ni_0e ci_0e], Chunk.own tInt fi_0e ai_0e ni_0e ci_0e i_0e]) ?_ ?_
  ·
   rintro ⟨i_0e, ⟨ai_0e, ni_0e, ci_0e, fi_0e⟩⟩ hx
   replace hx : i_0e = zy0 := hx.symm
   subst hx
   show En _ _ _ _ [(6, .pointer (some ⟨b0_0, 0, .none⟩)), (7, .pointer (some ⟨b3_3, 0, .none⟩))] [Chunk.box b0_0 107 [.int .i64 0, .int .i64 0, .slice .none 0 0], Chunk.box b3_3 107 [.int .i64 w_p0, .int .i64 h_p1, .slice ai_0e ni_0e ci_0e], Chunk.own tInt fi_0e ai_0e ni_0e ci_0e i_0e]
   refine En.block_exit (En.next (WC.sr ?_))
   refine sp (OpV.loadAll rfl mq1 ag_107) ?_
   refine WL.heavy0 rfl rfl (OpH.storeTo (A := []) [_, _, _] rfl rfl rfl ts_107 rfl rfl rfl ?_)
   refine WL.nil (En.next (WC.ret ?_))
   refine En.ret1 rfl (Res.cell rfl mq0 ag_107) ?_
   obtain rfl := Option.some.inj h
   intro w' hs
   have hs := ((hs).pm 2).sub (.cons_cons _ (.cons _ (.cons _ (.slnil))))
   exact ⟨_, _, rfl, ⟨ai_0e, ni_0e, ci_0e, fi_0e, rfl, rfl⟩, hs⟩
  ·
   intro zK0_0
   refine WC.loopP (G := (Option Addr) × Nat × Nat × (List Nat)) (fun s g => match s, g with | (i_0, k_0), (ai_0, ni_0, ci_0, fi_0) => [(0, .int .i64 w_p0), (1, .int .i64 h_p1), (2, .int .i64 p_p2), (6, .pointer (some ⟨b0_0, 0, .none⟩)), (7, .pointer (some ⟨b3_3, 0, .none⟩)), (8, .int .i64 k_0)]) (fun s g => match s, g with | (i_0, k_0), (ai_0, ni_0, ci_0, fi_0) => [Chunk.box b0_0 107 [.int .i64 0, .int .i64 0, .slice .none 0 0], Chunk.box b3_3 107 [.int .i64 w_p0, .int .i64 h_p1, .slice ai_0 ni_0 ci_0], Chunk.own tInt fi_0 ai_0 ni_0 ci_0 i_0]) ([], 0) (.none, 0, 0, []) ezy0 (by exact sc (sc (sc (sc (sc (sc sn)))))) (by exact (fun _ h => (((h).ownNil (A := tInt)).pm 1).pm 2)) ?_
   rintro zm0 ⟨i_0, k_0⟩ ⟨ai_0, ni_0, ci_0, fi_0⟩ zo0 zf0 zb0 ze0
   have zh0 : spec_NewImage_L0 w_p0 h_p1 p_p2 i_0 k_0 = some zo0 := zf0
   unfold spec_NewImage_L0 at zh0
   show WC _ _ _ _ _ [(0, .int .i64 w_p0), (1, .int .i64 h_p1), (2, .int .i64 p_p2), (6, .pointer (some ⟨b0_0, 0, .none⟩)), (7, .pointer (some ⟨b3_3, 0, .none⟩)), (8, .int .i64 k_0)] [Chunk.box b0_0 107 [.int .i64 0, .int .i64 0, .slice .none 0 0], Chunk.box b3_3 107 [.int .i64 w_p0, .int .i64 h_p1, .slice ai_0 ni_0 ci_0], Chunk.own tInt fi_0 ai_0 ni_0 ci_0 i_0]
   refine WC.seq (WC.sr ?_)
   refine mv ?_
   refine mv ?_
   refine mv ?_
   refine sp (OpV.mulR rfl rfl) ?_
   refine sp (OpV.lss rfl rfl) ?_
   refine WL.nil (En.next ?_)
   refine WC.cond rfl ?_ ?_
   ·
    intro hc_2
    replace zh0 := ifO_t hc_2 zh0
    refine WC.skip (En.next (WC.seq (WC.block ?_)))
    obtain ⟨x7_4, e7_4, zh0⟩ := bnd zh0
    refine WC.region ?_
    refine sp (OpV.fieldAddr rfl fo_107_2) ?_
    refine sp (OpV.loadBox rfl pt_23 mq1 rfl) ?_
    refine mv ?_
    refine WL.heavy rfl rfl rfl (OpH.litF (A := tInt) (xs := [p_p2]) tInt_flat (evps.cons rfl (evps.nil)) (bs_23_1_0 _) rfl rfl (Nat.le_of_ble_eq_true rfl) ?_)
    intro b7_3
    refine WL.heavy rfl rfl rfl (OpH.appS (F := [_, _, _]) (A := tInt) tInt_flat rfl rfl rfl mi_23 rfl (by decide) (fun w hs => (Ow.rd (hs.mem mq0))) e7_4 ?_)
    intro f7_4 a7_4 c7_4
    refine sp (OpV.fieldAddr rfl fo_107_2) ?_
    refine WL.heavy0 rfl rfl (OpH.storeTo (A := [_, _]) [_, _, _] rfl rfl rfl ts_23 rfl rfl rfl ?_)
    refine WL.nil (En.block_norm (En.next (WC.region ?_)))
    refine mv ?_
    refine sp (OpV.addR rfl rfl) ?_
    refine ag ?_
    refine WL.nil ?_
    exact En.backP zb0 zh0 (a7_4, x7_4.length, c7_4, f7_4) (sc (sc (sc (sc (sc (sc sn)))))) (fun _ h => ((((h).pm 3).pm 3).pm 3).sub (.cons_cons _ (.cons_cons _ (.cons_cons _ (.cons _ (.slnil))))))
   ·
    intro hc_2
    replace zh0 := ifO_f hc_2 zh0
    refine WC.exit (En.then_exit (En.then_exit ?_))
    have hx := exitP ze0 zh0
    exact En.wk _ _ (sc (sc sn)) (fun _ h => h) (zK0_0 (i_0, (ai_0, ni_0, ci_0, fi_0)) hx.symm)

theorem w_spec_ImageOk {i_p0 : ImageT} {r : Bool} {q0_0 : Option Addr} {l0_0 k0_0 : Nat} (h : spec_ImageOk i_p0 = some r) {w : World} (r0_0 : Rd tInt w q0_0 l0_0 k0_0 i_p0.Data)   :
    Calls Tryz.prog 133 #[.agg #[.int .i64 i_p0.W, .int .i64 i_p0.H, .slice q0_0 l0_0 k0_0]] w (fun en w' => en = .returned (.bool r) ∧ Ext w w') := by
 obtain rfl := r0_0.1
 unfold spec_ImageOk at h
 refine enter (vs := [_]) Tryz.func133 rfl rfl rfl rfl ?_
 refine WC.sr ?_
 refine WL.heavy rfl rfl rfl (OpH.box rfl rfl ?_)
 intro b0_0
 refine ag ?_
 refine WL.nil (En.next (WC.seq (WC.seq ?_)))
 obtain ⟨x1_2, e1_2, h⟩ := bnd h
 obtain ⟨q1_9, e1_9, h⟩ := bnd h
 refine WC.region ?_
 refine sp (OpV.fieldAddr rfl fo_107_0) ?_
 refine sp (OpV.loadBox rfl pt_3 mq0 rfl) ?_
 refine sp (OpV.call (ec rfl (ec rfl (ec rfl e0))) ca_64 (fun w hs => w_spec_l01In e1_2)) ?_
 refine sp (OpV.not rfl) ?_
 refine mv ?_
 refine Lt.ofWL.orQ 8 13 12 (p := ?pz1) (rest := ?qz1) (B := q1_9) rfl (fun hz => orO_t e1_9 hz) ?Tz1 ?Fz1 ?az1 ?bz1 ?cz1 ?dz1 ?ez1
 case Tz1 =>
  intro hcz1 hkz1
  refine sk ?_
  refine sk ?_
  refine sk ?_
  refine sk ?_
  refine hkz1 _ ?_
  repeat (first | exact Sub.refl _ | refine Sub.skip rfl ?_)
 case Fz1 =>
  intro hcz1 hkz1
  have hqz1 := orO_f e1_9 hcz1
  obtain ⟨x1_7, e1_7, hqz1⟩ := bnd hqz1
  obtain rfl := Option.some.inj hqz1
  refine sp (OpV.fieldAddr rfl fo_107_1) ?_
  refine sp (OpV.loadBox rfl pt_3 mq0 rfl) ?_
  refine sp (OpV.call (ec rfl (ec rfl (ec rfl e0))) ca_64 (fun w hs => w_spec_l01In e1_7)) ?_
  refine sp (OpV.not rfl) ?_
  refine hkz1 _ ?_ ?_
  exact rfl
  repeat (first | exact Sub.refl _ | refine Sub.skip rfl ?_)
 case az1 => exact rfl
 case bz1 => exact rfl
 case cz1 => exact rfl
 case dz1 => exact rfl
 refine mv ?_
 refine Lt.ofWL.or 14 24 23 (p := ?pz2) (rest := ?qz2) (B := ?Bz2) rfl ?Tz2 ?Fz2 ?az2 ?bz2 ?cz2 ?dz2 ?ez2
 case Tz2 =>
  intro hcz2 hkz2
  refine sk ?_
  refine sk ?_
  refine sk ?_
  refine sk ?_
  refine sk ?_
  refine sk ?_
  refine sk ?_
  refine sk ?_
  refine sk ?_
  refine hkz2 _ ?_
  repeat (first | exact Sub.refl _ | refine Sub.skip rfl ?_)
 case Fz2 =>
  intro hcz2 hkz2
  refine sp (OpV.fieldAddr rfl fo_107_2) ?_
  refine sp (OpV.loadBox rfl pt_23 mq0 rfl) ?_
  refine sp (OpV.len rfl si_23 rfl) ?_
  refine sp (OpV.fieldAddr rfl fo_107_0) ?_
  refine sp (OpV.loadBox rfl pt_3 mq0 rfl) ?_
  refine sp (OpV.fieldAddr rfl fo_107_1) ?_
  refine sp (OpV.loadBox rfl pt_3 mq0 rfl) ?_
  refine sp (OpV.mulR rfl rfl) ?_
  refine sp (OpV.neq rfl rfl) ?_
  refine hkz2 _ ?_ ?_
  exact rfl
  repeat (first | exact Sub.refl _ | refine Sub.skip rfl ?_)
 case az2 => exact rfl
 case bz2 => exact rfl
 case cz2 => exact rfl
 case dz2 => exact rfl
 refine WL.nil (En.next ?_)
 refine WC.cond rfl ?_ ?_
 ·
  intro hc_1
  replace h := ifO_t hc_1 h
  refine WC.sr ?_
  refine ag ?_
  refine WL.nil (En.next (WC.ret (En.then_ret ?_)))
  refine En.ret1 rfl (Res.tmp rfl) ?_
  obtain rfl := Option.some.inj h
  intro w' hs
  exact ⟨rfl, hs.below⟩
 ·
  intro hc_1
  replace h := ifO_f hc_1 h
  refine WC.skip (En.next (WC.seq (WC.sr ?_)))
  refine ag ?_
  refine WL.nil (En.next (WC.block ?_))
  obtain ⟨zy0, ezy0, h⟩ := bnd h
  refine WC.cut (X := (Unit) × (Unit)) (.exit 0) (fun x => zy0 = .inl x.1) (fun x => match x with | ((), ()) => []) (fun x => match x with | ((), ()) => []) ?_ ?_
  ·
   rintro ⟨⟨⟩, ⟨⟩⟩ hx
   replace hx : .inl () = zy0 := hx.symm
   subst hx
   replace h := fork_l h
   show En _ _ _ _ [] []
   refine En.block_exit (En.next (WC.sr ?_))
   refine ag ?_
   refine WL.nil (En.next (WC.ret ?_))
   refine En.ret1 rfl (Res.tmp rfl) ?_
   obtain rfl := Option.some.inj h
   intro w' hs
   exact ⟨rfl, hs.below⟩
  ·
   intro zK0_0
   refine WC.loopP (G := Unit) (fun s g => match s, g with | k_0, () => [(1, .pointer (some ⟨b0_0, 0, .none⟩)), (3, .int .i64 k_0)]) (fun s g => match s, g with | k_0, () => [Chunk.box b0_0 107 [.int .i64 i_p0.W, .int .i64 i_p0.H, .slice q0_0 i_p0.Data.length k0_0]]) 0 () ezy0 (by exact sc (sc sn)) (by exact (fun _ h => h)) ?_
   rintro zm0 k_0 ⟨⟩ zo0 zf0 zb0 ze0
   have zh0 : spec_ImageOk_L0 i_p0 k_0 = some zo0 := zf0
   unfold spec_ImageOk_L0 at zh0
   show WC _ _ _ _ _ [(1, .pointer (some ⟨b0_0, 0, .none⟩)), (3, .int .i64 k_0)] [Chunk.box b0_0 107 [.int .i64 i_p0.W, .int .i64 i_p0.H, .slice q0_0 i_p0.Data.length k0_0]]
   refine WC.seq (WC.sr ?_)
   refine mv ?_
   refine sp (OpV.fieldAddr rfl fo_107_2) ?_
   refine sp (OpV.loadBox rfl pt_23 mq0 rfl) ?_
   refine sp (OpV.len rfl si_23 rfl) ?_
   refine sp (OpV.lss rfl rfl) ?_
   refine WL.nil (En.next ?_)
   refine WC.cond rfl ?_ ?_
   ·
    intro hc_2
    replace zh0 := ifO_t hc_2 zh0
    refine WC.skip (En.next (WC.seq (WC.block (WC.seq ?_))))
    obtain ⟨x6_3, e6_3, zh0⟩ := bnd zh0
    obtain ⟨g6_3, o6_3, _, ha6_3, rfl, hd6_3⟩ := Rd.atIdx r0_0 e6_3
    replace hd6_3 : ∀ (j : Nat) v, ([.int .i64 x6_3] : List Value)[j]? = some v → w.cell? ⟨g6_3, o6_3 + k_0.toNat * 1 + j, .none⟩ = some v := hd6_3
    obtain ⟨x6_5, e6_5, zh0⟩ := bnd zh0
    refine WC.region ?_
    refine sp (OpV.fieldAddr rfl fo_107_2) ?_
    refine sp (OpV.loadBox rfl pt_23 mq0 rfl) ?_
    refine mv ?_
    refine sp (OpV.idxA rfl rfl se_23 ha6_3 ⟨(idx_some e6_3).1, (idx_some e6_3).2.1⟩) ?_
    refine sp (OpV.load1 rfl pt_3 (fun w hs => hs.cell (hd6_3 0 _ rfl))) ?_
    refine sp (OpV.call (ec rfl e0) ca_118 (fun w hs => w_spec_l04Pixel e6_5)) ?_
    refine sp (OpV.not rfl) ?_
    refine WL.nil (En.next ?_)
    refine WC.cond rfl ?_ ?_
    ·
     intro hc_3
     replace zh0 := ifO_t hc_3 zh0
     refine WC.sr ?_
     refine ag ?_
     refine WL.nil (En.next (WC.ret (En.block_ret (En.then_ret (En.then_ret (En.block_ret (En.then_ret ?_)))))))
     refine En.ret1 rfl (Res.tmp rfl) ?_
     have hx := exitP ze0 zh0
     subst hx
     replace h := fork_r h
     obtain rfl := Option.some.inj h
     intro w' hs
     exact ⟨rfl, hs.below⟩
    ·
     intro hc_3
     replace zh0 := ifO_f hc_3 zh0
     refine WC.skip (En.block_norm (En.next (WC.region ?_)))
     refine mv ?_
     refine sp (OpV.addR rfl rfl) ?_
     refine ag ?_
     refine WL.nil ?_
     exact En.backP zb0 zh0 () (sc (sc sn)) (fun _ h => h)
   ·
    intro hc_2
    replace zh0 := ifO_f hc_2 zh0
    refine WC.exit (En.then_exit (En.then_exit ?_))
    have hx := exitP ze0 zh0
    exact En.wk _ _ sn (fun _ h => (h).sub (.cons _ (.slnil))) (zK0_0 ((), ()) hx.symm)

theorem w_spec_WordCount {w_p0 : Int} {h_p1 : Int} {layout_p2 : Int} {r : Int}  (h : spec_WordCount w_p0 h_p1 layout_p2 = some r) {w : World}    :
    Calls Tryz.prog 134 #[.int .i64 w_p0, .int .i64 h_p1, .int .i64 layout_p2] w (fun en w' => en = .returned (.int .i64 r) ∧ Ext w w') := by
 unfold spec_WordCount at h
 refine enter (vs := [_, _, _]) Tryz.func134 rfl rfl rfl rfl ?_
 refine WC.sr ?_
 refine ag ?_
 refine WL.nil (En.next (WC.seq (WC.seq ?_)))
 obtain ⟨x1_1, e1_1, h⟩ := bnd h
 obtain ⟨q1_7, e1_7, h⟩ := bnd h
 refine WC.region ?_
 refine mv ?_
 refine sp (OpV.call (ec rfl (ec rfl (ec rfl e0))) ca_64 (fun w hs => w_spec_l01In e1_1)) ?_
 refine sp (OpV.not rfl) ?_
 refine mv ?_
 refine Lt.ofWL.orQ 10 14 13 (p := ?pz1) (rest := ?qz1) (B := q1_7) rfl (fun hz => orO_t e1_7 hz) ?Tz1 ?Fz1 ?az1 ?bz1 ?cz1 ?dz1 ?ez1
 case Tz1 =>
  intro hcz1 hkz1
  refine sk ?_
  refine sk ?_
  refine sk ?_
  refine hkz1 _ ?_
  repeat (first | exact Sub.refl _ | refine Sub.skip rfl ?_)
 case Fz1 =>
  intro hcz1 hkz1
  have hqz1 := orO_f e1_7 hcz1
  obtain ⟨x1_5, e1_5, hqz1⟩ := bnd hqz1
  obtain rfl := Option.some.inj hqz1
  refine mv ?_
  refine sp (OpV.call (ec rfl (ec rfl (ec rfl e0))) ca_64 (fun w hs => w_spec_l01In e1_5)) ?_
  refine sp (OpV.not rfl) ?_
  refine hkz1 _ ?_ ?_
  exact rfl
  repeat (first | exact Sub.refl _ | refine Sub.skip rfl ?_)
 case az1 => exact rfl
 case bz1 => exact rfl
 case cz1 => exact rfl
 case dz1 => exact rfl
 refine WL.nil (En.next ?_)
 refine WC.cond rfl ?_ ?_
 ·
  intro hc_1
  replace h := ifO_t hc_1 h
  refine WC.sr ?_
  refine ag ?_
  refine WL.nil (En.next (WC.ret (En.then_ret ?_)))
  refine En.ret1 rfl (Res.tmp rfl) ?_
  obtain rfl := Option.some.inj h
  intro w' hs
  exact ⟨rfl, hs.below⟩
 ·
  intro hc_1
  replace h := ifO_f hc_1 h
  refine WC.skip (En.next (WC.seq (WC.sr ?_)))
  refine mv ?_
  refine WL.nil (En.next (WC.block (WC.sr ?_)))
  refine sp (OpV.eql rfl rfl) ?_
  refine ag ?_
  refine WL.nil (En.next ?_)
  refine WC.cond rfl ?_ ?_
  ·
   intro hc_2
   replace h := ifO_t hc_2 h
   refine WC.sr ?_
   refine mv ?_
   refine mv ?_
   refine sp (OpV.mulR rfl rfl) ?_
   refine ag ?_
   refine WL.nil (En.next (WC.ret (En.block_ret (En.then_ret ?_))))
   refine En.ret1 rfl (Res.tmp rfl) ?_
   obtain rfl := Option.some.inj h
   intro w' hs
   exact ⟨rfl, hs.below⟩
  ·
   intro hc_2
   replace h := ifO_f hc_2 h
   refine WC.sr ?_
   refine sp (OpV.eql rfl rfl) ?_
   refine ag ?_
   refine WL.nil (En.next ?_)
   refine WC.cond rfl ?_ ?_
   ·
    intro hc_3
    replace h := ifO_t hc_3 h
    refine WC.sr ?_
    refine mv ?_
    refine sp (OpV.addR rfl rfl) ?_
    refine sp (OpV.quoR rfl rfl rfl) ?_
    refine sp (OpV.mulR rfl rfl) ?_
    refine mv ?_
    refine sp (OpV.addR rfl rfl) ?_
    refine sp (OpV.quoR rfl rfl rfl) ?_
    refine sp (OpV.mulR rfl rfl) ?_
    refine sp (OpV.mulR rfl rfl) ?_
    refine ag ?_
    refine WL.nil (En.next (WC.ret (En.block_ret (En.then_ret ?_))))
    refine En.ret1 rfl (Res.tmp rfl) ?_
    obtain rfl := Option.some.inj h
    intro w' hs
    exact ⟨rfl, hs.below⟩
   ·
    intro hc_3
    replace h := ifO_f hc_3 h
    refine WC.skip (En.block_norm (En.next (WC.sr ?_)))
    refine ag ?_
    refine WL.nil (En.next (WC.ret ?_))
    refine En.ret1 rfl (Res.tmp rfl) ?_
    obtain rfl := Option.some.inj h
    intro w' hs
    exact ⟨rfl, hs.below⟩

theorem w_spec_WordPlace {w_p0 : Int} {h_p1 : Int} {layout_p2 : Int} {x_p3 : Int} {y_p4 : Int} {r : Int}  (h : spec_WordPlace w_p0 h_p1 layout_p2 x_p3 y_p4 = some r) {w : World}    :
    Calls Tryz.prog 135 #[.int .i64 w_p0, .int .i64 h_p1, .int .i64 layout_p2, .int .i64 x_p3, .int .i64 y_p4] w (fun en w' => en = .returned (.int .i64 r) ∧ Ext w w') := by
 unfold spec_WordPlace at h
 refine enter (vs := [_, _, _, _, _]) Tryz.func135 rfl rfl rfl rfl ?_
 refine WC.sr ?_
 refine ag ?_
 refine WL.nil (En.next (WC.seq (WC.seq ?_)))
 obtain ⟨x1_3, e1_3, h⟩ := bnd h
 obtain ⟨q1_11, e1_11, h⟩ := bnd h
 obtain ⟨q1_18, e1_18, h⟩ := bnd h
 refine WC.region ?_
 refine mv ?_
 refine mv ?_
 refine mv ?_
 refine sp (OpV.call (ec rfl (ec rfl (ec rfl e0))) ca_134 (fun w hs => w_spec_WordCount e1_3)) ?_
 refine sp (OpV.lss rfl rfl) ?_
 refine mv ?_
 refine Lt.ofWL.orQ 16 22 21 (p := ?pz1) (rest := ?qz1) (B := q1_11) rfl (fun hz => orO_t e1_11 hz) ?Tz1 ?Fz1 ?az1 ?bz1 ?cz1 ?dz1 ?ez1
 case Tz1 =>
  intro hcz1 hkz1
  refine sk ?_
  refine sk ?_
  refine sk ?_
  refine sk ?_
  refine sk ?_
  refine hkz1 _ ?_
  repeat (first | exact Sub.refl _ | refine Sub.skip rfl ?_)
 case Fz1 =>
  intro hcz1 hkz1
  have hqz1 := orO_f e1_11 hcz1
  obtain ⟨x1_9, e1_9, hqz1⟩ := bnd hqz1
  obtain rfl := Option.some.inj hqz1
  refine mv ?_
  refine mv ?_
  refine sp (OpV.subR rfl rfl) ?_
  refine sp (OpV.call (ec rfl (ec rfl (ec rfl e0))) ca_64 (fun w hs => w_spec_l01In e1_9)) ?_
  refine sp (OpV.not rfl) ?_
  refine hkz1 _ ?_ ?_
  exact rfl
  repeat (first | exact Sub.refl _ | refine Sub.skip rfl ?_)
 case az1 => exact rfl
 case bz1 => exact rfl
 case cz1 => exact rfl
 case dz1 => exact rfl
 refine mv ?_
 refine Lt.ofWL.orQ 23 29 28 (p := ?pz2) (rest := ?qz2) (B := q1_18) rfl (fun hz => orO_t e1_18 hz) ?Tz2 ?Fz2 ?az2 ?bz2 ?cz2 ?dz2 ?ez2
 case Tz2 =>
  intro hcz2 hkz2
  refine sk ?_
  refine sk ?_
  refine sk ?_
  refine sk ?_
  refine sk ?_
  refine hkz2 _ ?_
  repeat (first | exact Sub.refl _ | refine Sub.skip rfl ?_)
 case Fz2 =>
  intro hcz2 hkz2
  have hqz2 := orO_f e1_18 hcz2
  obtain ⟨x1_16, e1_16, hqz2⟩ := bnd hqz2
  obtain rfl := Option.some.inj hqz2
  refine mv ?_
  refine mv ?_
  refine sp (OpV.subR rfl rfl) ?_
  refine sp (OpV.call (ec rfl (ec rfl (ec rfl e0))) ca_64 (fun w hs => w_spec_l01In e1_16)) ?_
  refine sp (OpV.not rfl) ?_
  refine hkz2 _ ?_ ?_
  exact rfl
  repeat (first | exact Sub.refl _ | refine Sub.skip rfl ?_)
 case az2 => exact rfl
 case bz2 => exact rfl
 case cz2 => exact rfl
 case dz2 => exact rfl
 refine WL.nil (En.next ?_)
 refine WC.cond rfl ?_ ?_
 ·
  intro hc_1
  replace h := ifO_t hc_1 h
  refine WC.sr ?_
  refine ag ?_
  refine WL.nil (En.next (WC.ret (En.then_ret ?_)))
  refine En.ret1 rfl (Res.tmp rfl) ?_
  obtain rfl := Option.some.inj h
  intro w' hs
  exact ⟨rfl, hs.below⟩
 ·
  intro hc_1
  replace h := ifO_f hc_1 h
  refine WC.skip (En.next (WC.seq (WC.sr ?_)))
  refine mv ?_
  refine sp (OpV.eql rfl rfl) ?_
  refine WL.nil (En.next ?_)
  refine WC.cond rfl ?_ ?_
  ·
   intro hc_2
   replace h := ifO_t hc_2 h
   refine WC.sr ?_
   refine mv ?_
   refine mv ?_
   refine sp (OpV.mulR rfl rfl) ?_
   refine mv ?_
   refine sp (OpV.addR rfl rfl) ?_
   refine ag ?_
   refine WL.nil (En.next (WC.ret (En.then_ret ?_)))
   refine En.ret1 rfl (Res.tmp rfl) ?_
   obtain rfl := Option.some.inj h
   intro w' hs
   exact ⟨rfl, hs.below⟩
  ·
   intro hc_2
   replace h := ifO_f hc_2 h
   refine WC.skip (En.next (WC.sr ?_))
   refine mv ?_
   refine sp (OpV.quoR rfl rfl rfl) ?_
   refine mv ?_
   refine sp (OpV.addR rfl rfl) ?_
   refine sp (OpV.quoR rfl rfl rfl) ?_
   refine sp (OpV.mulR rfl rfl) ?_
   refine mv ?_
   refine sp (OpV.quoR rfl rfl rfl) ?_
   refine sp (OpV.addR rfl rfl) ?_
   refine sp (OpV.mulR rfl rfl) ?_
   refine mv ?_
   refine sp (OpV.remR rfl rfl rfl) ?_
   refine sp (OpV.mulR rfl rfl) ?_
   refine sp (OpV.addR rfl rfl) ?_
   refine mv ?_
   refine sp (OpV.remR rfl rfl rfl) ?_
   refine sp (OpV.addR rfl rfl) ?_
   refine ag ?_
   refine WL.nil (En.next (WC.ret ?_))
   refine En.ret1 rfl (Res.tmp rfl) ?_
   obtain rfl := Option.some.inj h
   intro w' hs
   exact ⟨rfl, hs.below⟩

theorem w_spec_StoreImage {a_p0 : ImageT} {a_p1 : Int} {r : (List Int) × Bool} {q0_0 : Option Addr} {l0_0 k0_0 : Nat} (h : spec_StoreImage a_p0 a_p1 = some r) {w : World} (r0_0 : Rd tInt w q0_0 l0_0 k0_0 a_p0.Data)   :
    Calls Tryz.prog 117 #[.agg #[.int .i64 a_p0.W, .int .i64 a_p0.H, .slice q0_0 l0_0 k0_0], .int .i64 a_p1] w (fun en w' => ∃ rv G, en = .returned rv ∧ (∃ (a0_0 : Option Addr) (n0_0 : Nat) (c0_0 : Nat) (f0_0 : List Nat), rv = .tuple #[.slice a0_0 n0_0 c0_0, .bool r.2] ∧ G = [Chunk.own tInt f0_0 a0_0 n0_0 c0_0 r.1]) ∧ St w G w') := by
 obtain rfl := r0_0.1
 unfold spec_StoreImage at h
 refine enter (vs := [_, _]) Tryz.func117 rfl rfl rfl rfl ?_
 refine WC.sr ?_
 refine WL.heavy rfl rfl rfl (OpH.box rfl rfl ?_)
 intro b0_0
 refine ag ?_
 refine ag ?_
 refine WL.nil (En.next (WC.seq (WC.seq ?_)))
 obtain ⟨x1_1, e1_1, h⟩ := bnd h
 obtain ⟨q1_7, e1_7, h⟩ := bnd h
 refine WC.region ?_
 refine sp (OpV.loadAll rfl mq0 ag_107) ?_
 refine sp (OpV.call (ec rfl e0) ca_133 (fun w hs => w_spec_ImageOk e1_1 (r0_0.ext hs.below))) ?_
 refine sp (OpV.not rfl) ?_
 refine mv ?_
 refine Lt.ofWL.orQ 16 20 19 (p := ?pz1) (rest := ?qz1) (B := q1_7) rfl (fun hz => orO_t e1_7 hz) ?Tz1 ?Fz1 ?az1 ?bz1 ?cz1 ?dz1 ?ez1
 case Tz1 =>
  intro hcz1 hkz1
  refine sk ?_
  refine sk ?_
  refine sk ?_
  refine hkz1 _ ?_
  repeat (first | exact Sub.refl _ | refine Sub.skip rfl ?_)
 case Fz1 =>
  intro hcz1 hkz1
  have hqz1 := orO_f e1_7 hcz1
  obtain ⟨x1_5, e1_5, hqz1⟩ := bnd hqz1
  obtain rfl := Option.some.inj hqz1
  refine mv ?_
  refine sp (OpV.call (ec rfl (ec rfl (ec rfl e0))) ca_64 (fun w hs => w_spec_l01In e1_5)) ?_
  refine sp (OpV.not rfl) ?_
  refine hkz1 _ ?_ ?_
  exact rfl
  repeat (first | exact Sub.refl _ | refine Sub.skip rfl ?_)
 case az1 => exact rfl
 case bz1 => exact rfl
 case cz1 => exact rfl
 case dz1 => exact rfl
 refine WL.nil (En.next ?_)
 refine WC.cond rfl ?_ ?_
 ·
  intro hc_1
  replace h := ifO_t hc_1 h
  refine WC.sr ?_
  refine WL.heavy rfl rfl rfl (OpH.lit0 (A := tInt) (evps.nil) bs_23_0_ ?_)
  intro b2_0
  refine ag ?_
  refine ag ?_
  refine WL.nil (En.next (WC.ret (En.then_ret ?_)))
  refine En.ret2 rfl (Res.tmp rfl) (Res.tmp rfl) ?_
  obtain rfl := Option.some.inj h
  intro w' hs
  have hs := (hs).sub (.cons_cons _ (.cons _ (.slnil)))
  exact ⟨_, _, rfl, ⟨(some ⟨b2_0, 0, .none⟩), 0, 0, [b2_0], rfl, rfl⟩, hs⟩
 ·
  intro hc_1
  replace h := ifO_f hc_1 h
  refine WC.skip (En.next (WC.seq (WC.sr ?_)))
  refine mv ?_
  refine sp (OpV.eql rfl rfl) ?_
  refine WL.nil (En.next ?_)
  refine WC.cond rfl ?_ ?_
  ·
   intro hc_2
   replace h := ifO_t hc_2 h
   refine WC.sr ?_
   refine WL.heavy rfl rfl rfl (OpH.lit0 (A := tInt) (evps.nil) bs_23_0_ ?_)
   intro b4_0
   refine ag ?_
   refine WL.nil (En.next (WC.seq (WC.sr ?_)))
   refine ag ?_
   refine WL.nil (En.next (WC.block ?_))
   obtain ⟨zy0, ezy0, h⟩ := bnd h
   refine WC.cut (X := ((List Int)) × ((Option Addr) × Nat × Nat × (List Nat))) (.exit 0) (fun x => zy0 = x.1) (fun x => match x with | (v_0e, (av_0e, nv_0e, cv_0e, fv_0e)) => [(6, .slice av_0e nv_0e cv_0e)]) (fun x => match x with | (v_0e, (av_0e, nv_0e, cv_0e, fv_0e)) => [Chunk.own tInt fv_0e av_0e nv_0e cv_0e v_0e]) ?_ ?_
   ·
    rintro ⟨v_0e, ⟨av_0e, nv_0e, cv_0e, fv_0e⟩⟩ hx
    replace hx : v_0e = zy0 := hx.symm
    subst hx
    show En _ _ _ _ [(6, .slice av_0e nv_0e cv_0e)] [Chunk.own tInt fv_0e av_0e nv_0e cv_0e v_0e]
    refine En.block_exit (En.next (WC.sr ?_))
    refine mv ?_
    refine ag ?_
    refine ag ?_
    refine WL.nil (En.next (WC.ret (En.then_ret ?_)))
    refine En.ret2 rfl (Res.tmp rfl) (Res.tmp rfl) ?_
    obtain rfl := Option.some.inj h
    intro w' hs
    have hs := hs
    exact ⟨_, _, rfl, ⟨av_0e, nv_0e, cv_0e, fv_0e, rfl, rfl⟩, hs⟩
   ·
    intro zK0_0
    refine WC.loopP (G := (Option Addr) × Nat × Nat × (List Nat)) (fun s g => match s, g with | (v_0, v1_0), (av_0, nv_0, cv_0, fv_0) => [(2, .pointer (some ⟨b0_0, 0, .none⟩)), (6, .slice av_0 nv_0 cv_0), (7, .int .i64 v1_0)]) (fun s g => match s, g with | (v_0, v1_0), (av_0, nv_0, cv_0, fv_0) => [Chunk.box b0_0 107 [.int .i64 a_p0.W, .int .i64 a_p0.H, .slice q0_0 a_p0.Data.length k0_0], Chunk.own tInt fv_0 av_0 nv_0 cv_0 v_0]) (([] : List Int), 0) ((some ⟨b4_0, 0, .none⟩), 0, 0, [b4_0]) ezy0 (by exact sc (sc (sc sn))) (by exact (fun _ h => (h).pm 1)) ?_
    rintro zm0 ⟨v_0, v1_0⟩ ⟨av_0, nv_0, cv_0, fv_0⟩ zo0 zf0 zb0 ze0
    have zh0 : spec_StoreImage_L0 a_p0 v_0 v1_0 = some zo0 := zf0
    unfold spec_StoreImage_L0 at zh0
    show WC _ _ _ _ _ [(2, .pointer (some ⟨b0_0, 0, .none⟩)), (6, .slice av_0 nv_0 cv_0), (7, .int .i64 v1_0)] [Chunk.box b0_0 107 [.int .i64 a_p0.W, .int .i64 a_p0.H, .slice q0_0 a_p0.Data.length k0_0], Chunk.own tInt fv_0 av_0 nv_0 cv_0 v_0]
    refine WC.seq (WC.sr ?_)
    refine mv ?_
    refine sp (OpV.fieldAddr rfl fo_107_1) ?_
    refine sp (OpV.loadBox rfl pt_3 mq0 rfl) ?_
    refine sp (OpV.lss rfl rfl) ?_
    refine WL.nil (En.next ?_)
    refine WC.cond rfl ?_ ?_
    ·
     intro hc_3
     replace zh0 := ifO_t hc_3 zh0
     refine WC.skip (En.next (WC.seq (WC.block (WC.sr ?_))))
     refine ag ?_
     refine WL.nil (En.next (WC.block ?_))
     obtain ⟨zy1, ezy1, zh0⟩ := bnd zh0
     refine WC.cut (X := ((List Int)) × ((Option Addr) × Nat × Nat × (List Nat))) (.exit 2) (fun x => zy1 = x.1) (fun x => match x with | (v_1e, (av_1e, nv_1e, cv_1e, fv_1e)) => [(2, .pointer (some ⟨b0_0, 0, .none⟩)), (6, .slice av_1e nv_1e cv_1e), (7, .int .i64 v1_0)]) (fun x => match x with | (v_1e, (av_1e, nv_1e, cv_1e, fv_1e)) => [Chunk.box b0_0 107 [.int .i64 a_p0.W, .int .i64 a_p0.H, .slice q0_0 a_p0.Data.length k0_0], Chunk.own tInt fv_1e av_1e nv_1e cv_1e v_1e]) ?_ ?_
     ·
      rintro ⟨v_1e, ⟨av_1e, nv_1e, cv_1e, fv_1e⟩⟩ hx
      replace hx : v_1e = zy1 := hx.symm
      subst hx
      show En _ _ _ _ [(2, .pointer (some ⟨b0_0, 0, .none⟩)), (6, .slice av_1e nv_1e cv_1e), (7, .int .i64 v1_0)] [Chunk.box b0_0 107 [.int .i64 a_p0.W, .int .i64 a_p0.H, .slice q0_0 a_p0.Data.length k0_0], Chunk.own tInt fv_1e av_1e nv_1e cv_1e v_1e]
      refine En.block_exit (En.block_norm (En.next (WC.region ?_)))
      refine mv ?_
      refine sp (OpV.addR rfl rfl) ?_
      refine ag ?_
      refine WL.nil ?_
      exact En.backP zb0 zh0 (av_1e, nv_1e, cv_1e, fv_1e) (sc (sc (sc sn))) (fun _ h => h)
     ·
      intro zK1_0
      refine WC.loopP (G := (Option Addr) × Nat × Nat × (List Nat)) (fun s g => match s, g with | (v_1, v1_1), (av_1, nv_1, cv_1, fv_1) => [(2, .pointer (some ⟨b0_0, 0, .none⟩)), (6, .slice av_1 nv_1 cv_1), (7, .int .i64 v1_0), (8, .int .i64 v1_1)]) (fun s g => match s, g with | (v_1, v1_1), (av_1, nv_1, cv_1, fv_1) => [Chunk.box b0_0 107 [.int .i64 a_p0.W, .int .i64 a_p0.H, .slice q0_0 a_p0.Data.length k0_0], Chunk.own tInt fv_1 av_1 nv_1 cv_1 v_1]) (v_0, 0) (av_0, nv_0, cv_0, fv_0) ezy1 (by exact sc (sc (sc (sc sn)))) (by exact (fun _ h => h)) ?_
      rintro zm1 ⟨v_1, v1_1⟩ ⟨av_1, nv_1, cv_1, fv_1⟩ zo1 zf1 zb1 ze1
      have zh1 : spec_StoreImage_L1 a_p0 v1_0 v_1 v1_1 = some zo1 := zf1
      unfold spec_StoreImage_L1 at zh1
      show WC _ _ _ _ _ [(2, .pointer (some ⟨b0_0, 0, .none⟩)), (6, .slice av_1 nv_1 cv_1), (7, .int .i64 v1_0), (8, .int .i64 v1_1)] [Chunk.box b0_0 107 [.int .i64 a_p0.W, .int .i64 a_p0.H, .slice q0_0 a_p0.Data.length k0_0], Chunk.own tInt fv_1 av_1 nv_1 cv_1 v_1]
      refine WC.seq (WC.sr ?_)
      refine mv ?_
      refine sp (OpV.fieldAddr rfl fo_107_0) ?_
      refine sp (OpV.loadBox rfl pt_3 mq0 rfl) ?_
      refine sp (OpV.lss rfl rfl) ?_
      refine WL.nil (En.next ?_)
      refine WC.cond rfl ?_ ?_
      ·
       intro hc_4
       replace zh1 := ifO_t hc_4 zh1
       refine WC.skip (En.next (WC.block (WC.sr ?_)))
       refine ag ?_
       refine WL.nil (En.next (WC.seq (WC.block ?_)))
       obtain ⟨zy2, ezy2, zh1⟩ := bnd zh1
       refine WC.cut (X := (Int) × (Unit)) (.exit 4) (fun x => zy2 = x.1) (fun x => match x with | (v_2e, ()) => [(2, .pointer (some ⟨b0_0, 0, .none⟩)), (6, .slice av_1 nv_1 cv_1), (7, .int .i64 v1_0), (8, .int .i64 v1_1), (9, .int .i64 v_2e)]) (fun x => match x with | (v_2e, ()) => [Chunk.box b0_0 107 [.int .i64 a_p0.W, .int .i64 a_p0.H, .slice q0_0 a_p0.Data.length k0_0], Chunk.own tInt fv_1 av_1 nv_1 cv_1 v_1]) ?_ ?_
       ·
        rintro ⟨v_2e, ⟨⟩⟩ hx
        replace hx : v_2e = zy2 := hx.symm
        subst hx
        show En _ _ _ _ [(2, .pointer (some ⟨b0_0, 0, .none⟩)), (6, .slice av_1 nv_1 cv_1), (7, .int .i64 v1_0), (8, .int .i64 v1_1), (9, .int .i64 v_2e)] [Chunk.box b0_0 107 [.int .i64 a_p0.W, .int .i64 a_p0.H, .slice q0_0 a_p0.Data.length k0_0], Chunk.own tInt fv_1 av_1 nv_1 cv_1 v_1]
        refine En.block_exit (En.next (WC.seq ?_))
        obtain ⟨x13_10, e13_10, zh1⟩ := bnd zh1
        obtain ⟨g13_10, o13_10, _, ha13_10, rfl, hd13_10⟩ := Rd.atIdx r0_0 e13_10
        replace hd13_10 : ∀ (j : Nat) v, ([.int .i64 x13_10] : List Value)[j]? = some v → w.cell? ⟨g13_10, o13_10 + (wr ((wr (v1_0 * a_p0.W)) + v1_1)).toNat * 1 + j, .none⟩ = some v := hd13_10
        obtain ⟨x13_13, e13_13, zh1⟩ := bnd zh1
        refine WC.region ?_
        refine mv ?_
        refine mv ?_
        refine sp (OpV.fieldAddr rfl fo_107_2) ?_
        refine sp (OpV.loadBox rfl pt_23 mq0 rfl) ?_
        refine mv ?_
        refine sp (OpV.fieldAddr rfl fo_107_0) ?_
        refine sp (OpV.loadBox rfl pt_3 mq0 rfl) ?_
        refine sp (OpV.mulR rfl rfl) ?_
        refine mv ?_
        refine sp (OpV.addR rfl rfl) ?_
        refine sp (OpV.idxA rfl rfl se_23 ha13_10 ⟨(idx_some e13_10).1, (idx_some e13_10).2.1⟩) ?_
        refine sp (OpV.load1 rfl pt_3 (fun w hs => hs.cell (hd13_10 0 _ rfl))) ?_
        refine WL.heavy rfl rfl rfl (OpH.litF (A := tInt) (xs := [v_2e, x13_10]) tInt_flat (evps.cons rfl (evps.cons rfl (evps.nil))) (bs_23_2_0_1 _ _) rfl rfl (Nat.le_of_ble_eq_true rfl) ?_)
        intro b13_12
        refine WL.heavy rfl rfl rfl (OpH.appS (F := [_, _]) (A := tInt) tInt_flat rfl rfl rfl mi_23 rfl (by decide) (fun w hs => (Ow.rd (hs.mem mq0))) e13_13 ?_)
        intro f13_13 a13_13 c13_13
        refine ag ?_
        refine WL.nil (En.next (WC.region ?_))
        refine mv ?_
        refine mv ?_
        refine sp (OpV.addR rfl rfl) ?_
        refine ag ?_
        refine WL.nil (En.block_norm ?_)
        exact En.backP zb1 zh1 (a13_13, x13_13.length, c13_13, f13_13) (sc (sc (sc (sc sn)))) (fun _ h => (((h).pm 2).pm 2).sub (.cons_cons _ (.cons_cons _ (.cons _ (.slnil)))))
       ·
        intro zK2_0
        refine WC.loopP (G := Unit) (fun s g => match s, g with | v_2, () => [(2, .pointer (some ⟨b0_0, 0, .none⟩)), (6, .slice av_1 nv_1 cv_1), (7, .int .i64 v1_0), (8, .int .i64 v1_1), (9, .int .i64 v_2)]) (fun s g => match s, g with | v_2, () => [Chunk.box b0_0 107 [.int .i64 a_p0.W, .int .i64 a_p0.H, .slice q0_0 a_p0.Data.length k0_0], Chunk.own tInt fv_1 av_1 nv_1 cv_1 v_1]) 1 () ezy2 (by exact sc (sc (sc (sc (sc sn))))) (by exact (fun _ h => h)) ?_
        rintro zm2 v_2 ⟨⟩ zo2 zf2 zb2 ze2
        have zh2 : spec_StoreImage_L2 a_p0 v1_0 v1_1 v_2 = some zo2 := zf2
        unfold spec_StoreImage_L2 at zh2
        show WC _ _ _ _ _ [(2, .pointer (some ⟨b0_0, 0, .none⟩)), (6, .slice av_1 nv_1 cv_1), (7, .int .i64 v1_0), (8, .int .i64 v1_1), (9, .int .i64 v_2)] [Chunk.box b0_0 107 [.int .i64 a_p0.W, .int .i64 a_p0.H, .slice q0_0 a_p0.Data.length k0_0], Chunk.own tInt fv_1 av_1 nv_1 cv_1 v_1]
        refine WC.seq (WC.seq ?_)
        obtain ⟨q11_30, e11_30, zh2⟩ := bnd zh2
        refine WC.drawn [(2, ?r11q27v2), (6, ?r11q27v6), (7, ?r11q27v7), (8, ?r11q27v8), (9, ?r11q27v9), (65, ?r11q27v65)] (by kernel_rfl) (by kernel_rfl) ?dH11q27 ?dK11q27
        case dH11q27 =>
         intro W hW hk
         refine hW.mv ?_
         refine hW.mv ?_
         refine hW.sp (OpV.addR rfl rfl) ?_
         refine hW.sp (OpV.fieldAddr rfl fo_107_0) ?_
         refine hW.sp (OpV.loadBox rfl pt_3 mq0 rfl) ?_
         refine hW.sp (OpV.lss rfl rfl) ?_
         refine hW.mv ?_
         refine hW.andQ 41 65 64 (p := ?pz2) (rest := ?qz2) (B := q11_30) rfl (fun hz => andO_f e11_30 hz) ?Tz2 ?Fz2 ?az2 ?bz2 ?cz2 ?dz2 ?ez2
         case Tz2 =>
          intro hcz2 hkz2
          have hqz2 := andO_t e11_30 hcz2
          obtain ⟨x11_17, e11_17, hqz2⟩ := bnd hqz2
          obtain ⟨g11_17, o11_17, _, ha11_17, rfl, hd11_17⟩ := Rd.atIdx r0_0 e11_17
          replace hd11_17 : ∀ (j : Nat) v, ([.int .i64 x11_17] : List Value)[j]? = some v → w.cell? ⟨g11_17, o11_17 + (wr ((wr ((wr (v1_0 * a_p0.W)) + v1_1)) + v_2)).toNat * 1 + j, .none⟩ = some v := hd11_17
          obtain ⟨x11_27, e11_27, hqz2⟩ := bnd hqz2
          obtain ⟨g11_27, o11_27, _, ha11_27, rfl, hd11_27⟩ := Rd.atIdx r0_0 e11_27
          replace hd11_27 : ∀ (j : Nat) v, ([.int .i64 x11_27] : List Value)[j]? = some v → w.cell? ⟨g11_27, o11_27 + (wr ((wr (v1_0 * a_p0.W)) + v1_1)).toNat * 1 + j, .none⟩ = some v := hd11_27
          obtain rfl := Option.some.inj hqz2
          refine hW.sp (OpV.fieldAddr rfl fo_107_2) ?_
          refine hW.sp (OpV.loadBox rfl pt_23 mq0 rfl) ?_
          refine hW.mv ?_
          refine hW.sp (OpV.fieldAddr rfl fo_107_0) ?_
          refine hW.sp (OpV.loadBox rfl pt_3 mq0 rfl) ?_
          refine hW.sp (OpV.mulR rfl rfl) ?_
          refine hW.mv ?_
          refine hW.sp (OpV.addR rfl rfl) ?_
          refine hW.mv ?_
          refine hW.sp (OpV.addR rfl rfl) ?_
          refine hW.sp (OpV.idxA rfl rfl se_23 ha11_17 ⟨(idx_some e11_17).1, (idx_some e11_17).2.1⟩) ?_
          refine hW.sp (OpV.load1 rfl pt_3 (fun w hs => hs.cell (hd11_17 0 _ rfl))) ?_
          refine hW.sp (OpV.fieldAddr rfl fo_107_2) ?_
          refine hW.sp (OpV.loadBox rfl pt_23 mq0 rfl) ?_
          refine hW.mv ?_
          refine hW.sp (OpV.fieldAddr rfl fo_107_0) ?_
          refine hW.sp (OpV.loadBox rfl pt_3 mq0 rfl) ?_
          refine hW.sp (OpV.mulR rfl rfl) ?_
          refine hW.mv ?_
          refine hW.sp (OpV.addR rfl rfl) ?_
          refine hW.sp (OpV.idxA rfl rfl se_23 ha11_27 ⟨(idx_some e11_27).1, (idx_some e11_27).2.1⟩) ?_
          refine hW.sp (OpV.load1 rfl pt_3 (fun w hs => hs.cell (hd11_27 0 _ rfl))) ?_
          refine hW.sp (OpV.eql rfl rfl) ?_
          refine hkz2 _ ?_ ?_
          exact rfl
          repeat (first | exact Sub.refl _ | refine Sub.skip rfl ?_)
         case Fz2 =>
          intro hcz2 hkz2
          refine hW.sk ?_
          refine hW.sk ?_
          refine hW.sk ?_
          refine hW.sk ?_
          refine hW.sk ?_
          refine hW.sk ?_
          refine hW.sk ?_
          refine hW.sk ?_
          refine hW.sk ?_
          refine hW.sk ?_
          refine hW.sk ?_
          refine hW.sk ?_
          refine hW.sk ?_
          refine hW.sk ?_
          refine hW.sk ?_
          refine hW.sk ?_
          refine hW.sk ?_
          refine hW.sk ?_
          refine hW.sk ?_
          refine hW.sk ?_
          refine hW.sk ?_
          refine hW.sk ?_
          refine hW.sk ?_
          refine hkz2 _ ?_
          repeat (first | exact Sub.refl _ | refine Sub.skip rfl ?_)
         case az2 => exact rfl
         case bz2 => exact rfl
         case cz2 => exact rfl
         case dz2 => exact rfl
         refine hk _ ?_
         refine Sub.cons ?_ (Sub.cons ?_ (Sub.cons ?_ (Sub.cons ?_ (Sub.cons ?_ (Sub.cons ?_ sn)))))
         all_goals exact rfl
        refine En.next ?_
        refine WC.cond rfl ?_ ?_
        ·
         intro hc_5
         replace zh2 := ifO_t hc_5 zh2
         refine WC.skip (En.next (WC.block (WC.region ?_)))
         refine mv ?_
         refine sp (OpV.addR rfl rfl) ?_
         refine ag ?_
         refine WL.nil (En.block_norm ?_)
         exact En.backP zb2 zh2 () (sc (sc (sc (sc (sc sn))))) (fun _ h => h)
        ·
         intro hc_5
         replace zh2 := ifO_f hc_5 zh2
         refine WC.exit (En.then_exit (En.then_exit ?_))
         have hx := exitP ze2 zh2
         exact En.wk _ _ (sc (sc (sc (sc (sc sn))))) (fun _ h => h) (zK2_0 (v_2, ()) hx.symm)
      ·
       intro hc_4
       replace zh1 := ifO_f hc_4 zh1
       refine WC.exit (En.then_exit (En.then_exit ?_))
       have hx := exitP ze1 zh1
       exact En.wk _ _ (sc (sc (sc sn))) (fun _ h => h) (zK1_0 (v_1, (av_1, nv_1, cv_1, fv_1)) hx.symm)
    ·
     intro hc_3
     replace zh0 := ifO_f hc_3 zh0
     refine WC.exit (En.then_exit (En.then_exit ?_))
     have hx := exitP ze0 zh0
     exact En.wk _ _ (sc sn) (fun _ h => ((h).pm 1).sub (.cons_cons _ (.cons _ (.slnil)))) (zK0_0 (v_0, (av_0, nv_0, cv_0, fv_0)) hx.symm)
  ·
   intro hc_2
   replace h := ifO_f hc_2 h
   refine WC.skip (En.next (WC.seq ?_))
   obtain ⟨x16_5, e16_5, h⟩ := bnd h
   obtain ⟨x16_6, e16_6, h⟩ := bnd h
   refine WC.region ?_
   refine sp (OpV.fieldAddr rfl fo_107_0) ?_
   refine sp (OpV.loadBox rfl pt_3 mq0 rfl) ?_
   refine sp (OpV.fieldAddr rfl fo_107_1) ?_
   refine sp (OpV.loadBox rfl pt_3 mq0 rfl) ?_
   refine mv ?_
   refine sp (OpV.call (ec rfl (ec rfl (ec rfl e0))) ca_134 (fun w hs => w_spec_WordCount e16_5)) ?_
   refine WL.heavy rfl rfl rfl (OpH.makeO (A := tInt) rfl rfl mi_23 (fun w => tInt_flat.ow w 0) (by decide) e16_6 ⟨Int.le_refl _, (mkO_some e16_6).1.2⟩ ?_)
   intro b16_6
   refine ag ?_
   refine WL.nil (En.next (WC.seq (WC.sr ?_)))
   refine ag ?_
   refine WL.nil (En.next (WC.block ?_))
   obtain ⟨zy3, ezy3, h⟩ := bnd h
   refine WC.cut (X := ((List Int)) × ((List Nat))) (.exit 6) (fun x => zy3 = x.1) (fun x => match x with | (v_3e, fv_3e) => [(10, .slice (some ⟨b16_6, 0, .none⟩) x16_6.length x16_5.toNat)]) (fun x => match x with | (v_3e, fv_3e) => [Chunk.own tInt fv_3e (some ⟨b16_6, 0, .none⟩) x16_6.length x16_5.toNat v_3e]) ?_ ?_
   ·
    rintro ⟨v_3e, fv_3e⟩ hx
    replace hx : v_3e = zy3 := hx.symm
    subst hx
    show En _ _ _ _ [(10, .slice (some ⟨b16_6, 0, .none⟩) x16_6.length x16_5.toNat)] [Chunk.own tInt fv_3e (some ⟨b16_6, 0, .none⟩) x16_6.length x16_5.toNat v_3e]
    refine En.block_exit (En.next (WC.sr ?_))
    refine mv ?_
    refine ag ?_
    refine ag ?_
    refine WL.nil (En.next (WC.ret ?_))
    refine En.ret2 rfl (Res.tmp rfl) (Res.tmp rfl) ?_
    obtain rfl := Option.some.inj h
    intro w' hs
    have hs := hs
    exact ⟨_, _, rfl, ⟨(some ⟨b16_6, 0, .none⟩), x16_6.length, x16_5.toNat, fv_3e, rfl, rfl⟩, hs⟩
   ·
    intro zK3_0
    refine WC.loopP (G := (List Nat)) (fun s g => match s, g with | (v_3, v1_3), fv_3 => [(1, .int .i64 a_p1), (2, .pointer (some ⟨b0_0, 0, .none⟩)), (10, .slice (some ⟨b16_6, 0, .none⟩) x16_6.length x16_5.toNat), (11, .int .i64 v1_3)]) (fun s g => match s, g with | (v_3, v1_3), fv_3 => [Chunk.box b0_0 107 [.int .i64 a_p0.W, .int .i64 a_p0.H, .slice q0_0 a_p0.Data.length k0_0], Chunk.own tInt fv_3 (some ⟨b16_6, 0, .none⟩) x16_6.length x16_5.toNat v_3]) (x16_6, 0) [b16_6] ezy3 (by exact sc (sc (sc (sc sn)))) (by exact (fun _ h => (h).pm 1)) ?_
    rintro zm3 ⟨v_3, v1_3⟩ fv_3 zo3 zf3 zb3 ze3
    have zh3 : spec_StoreImage_L3 a_p0 a_p1 v_3 v1_3 = some zo3 := zf3
    unfold spec_StoreImage_L3 at zh3
    show WC _ _ _ _ _ [(1, .int .i64 a_p1), (2, .pointer (some ⟨b0_0, 0, .none⟩)), (10, .slice (some ⟨b16_6, 0, .none⟩) x16_6.length x16_5.toNat), (11, .int .i64 v1_3)] [Chunk.box b0_0 107 [.int .i64 a_p0.W, .int .i64 a_p0.H, .slice q0_0 a_p0.Data.length k0_0], Chunk.own tInt fv_3 (some ⟨b16_6, 0, .none⟩) x16_6.length x16_5.toNat v_3]
    refine WC.seq (WC.sr ?_)
    refine mv ?_
    refine sp (OpV.fieldAddr rfl fo_107_1) ?_
    refine sp (OpV.loadBox rfl pt_3 mq0 rfl) ?_
    refine sp (OpV.lss rfl rfl) ?_
    refine WL.nil (En.next ?_)
    refine WC.cond rfl ?_ ?_
    ·
     intro hc_6
     replace zh3 := ifO_t hc_6 zh3
     refine WC.skip (En.next (WC.seq (WC.block (WC.sr ?_))))
     refine ag ?_
     refine WL.nil (En.next (WC.block ?_))
     obtain ⟨zy4, ezy4, zh3⟩ := bnd zh3
     refine WC.cut (X := ((List Int)) × ((List Nat))) (.exit 8) (fun x => zy4 = x.1) (fun x => match x with | (v_4e, fv_4e) => [(1, .int .i64 a_p1), (2, .pointer (some ⟨b0_0, 0, .none⟩)), (10, .slice (some ⟨b16_6, 0, .none⟩) x16_6.length x16_5.toNat), (11, .int .i64 v1_3)]) (fun x => match x with | (v_4e, fv_4e) => [Chunk.box b0_0 107 [.int .i64 a_p0.W, .int .i64 a_p0.H, .slice q0_0 a_p0.Data.length k0_0], Chunk.own tInt fv_4e (some ⟨b16_6, 0, .none⟩) x16_6.length x16_5.toNat v_4e]) ?_ ?_
     ·
      rintro ⟨v_4e, fv_4e⟩ hx
      replace hx : v_4e = zy4 := hx.symm
      subst hx
      show En _ _ _ _ [(1, .int .i64 a_p1), (2, .pointer (some ⟨b0_0, 0, .none⟩)), (10, .slice (some ⟨b16_6, 0, .none⟩) x16_6.length x16_5.toNat), (11, .int .i64 v1_3)] [Chunk.box b0_0 107 [.int .i64 a_p0.W, .int .i64 a_p0.H, .slice q0_0 a_p0.Data.length k0_0], Chunk.own tInt fv_4e (some ⟨b16_6, 0, .none⟩) x16_6.length x16_5.toNat v_4e]
      refine En.block_exit (En.block_norm (En.next (WC.region ?_)))
      refine mv ?_
      refine sp (OpV.addR rfl rfl) ?_
      refine ag ?_
      refine WL.nil ?_
      exact En.backP zb3 zh3 fv_4e (sc (sc (sc (sc sn)))) (fun _ h => h)
     ·
      intro zK4_0
      refine WC.loopP (G := (List Nat)) (fun s g => match s, g with | (v_4, v1_4), fv_4 => [(1, .int .i64 a_p1), (2, .pointer (some ⟨b0_0, 0, .none⟩)), (10, .slice (some ⟨b16_6, 0, .none⟩) x16_6.length x16_5.toNat), (11, .int .i64 v1_3), (12, .int .i64 v1_4)]) (fun s g => match s, g with | (v_4, v1_4), fv_4 => [Chunk.box b0_0 107 [.int .i64 a_p0.W, .int .i64 a_p0.H, .slice q0_0 a_p0.Data.length k0_0], Chunk.own tInt fv_4 (some ⟨b16_6, 0, .none⟩) x16_6.length x16_5.toNat v_4]) (v_3, 0) fv_3 ezy4 (by exact sc (sc (sc (sc (sc sn))))) (by exact (fun _ h => h)) ?_
      rintro zm4 ⟨v_4, v1_4⟩ fv_4 zo4 zf4 zb4 ze4
      have zh4 : spec_StoreImage_L4 a_p0 a_p1 v1_3 v_4 v1_4 = some zo4 := zf4
      unfold spec_StoreImage_L4 at zh4
      show WC _ _ _ _ _ [(1, .int .i64 a_p1), (2, .pointer (some ⟨b0_0, 0, .none⟩)), (10, .slice (some ⟨b16_6, 0, .none⟩) x16_6.length x16_5.toNat), (11, .int .i64 v1_3), (12, .int .i64 v1_4)] [Chunk.box b0_0 107 [.int .i64 a_p0.W, .int .i64 a_p0.H, .slice q0_0 a_p0.Data.length k0_0], Chunk.own tInt fv_4 (some ⟨b16_6, 0, .none⟩) x16_6.length x16_5.toNat v_4]
      refine WC.seq (WC.sr ?_)
      refine mv ?_
      refine sp (OpV.fieldAddr rfl fo_107_0) ?_
      refine sp (OpV.loadBox rfl pt_3 mq0 rfl) ?_
      refine sp (OpV.lss rfl rfl) ?_
      refine WL.nil (En.next ?_)
      refine WC.cond rfl ?_ ?_
      ·
       intro hc_7
       replace zh4 := ifO_t hc_7 zh4
       refine WC.skip (En.next (WC.seq (WC.block ?_)))
       refine WC.inh fun hin23 => ?_
       obtain ⟨x23_8, e23_8, zh4⟩ := bnd zh4
       obtain ⟨x23_17, e23_17, zh4⟩ := bnd zh4
       obtain ⟨g23_17, o23_17, _, ha23_17, rfl, hd23_17⟩ := Rd.atIdx r0_0 e23_17
       replace hd23_17 : ∀ (j : Nat) v, ([.int .i64 x23_17] : List Value)[j]? = some v → w.cell? ⟨g23_17, o23_17 + (wr ((wr (v1_3 * a_p0.W)) + v1_4)).toNat * 1 + j, .none⟩ = some v := hd23_17
       have hn23_19 := ownLen hin23 mq1
       obtain ⟨x23_20, e23_20, zh4⟩ := bnd zh4
       obtain ⟨g23_19, o23_19, ha23_19⟩ := ownAddrU hin23 mq1 e23_20
       refine WC.wkF (fun _ h => h.pm 1) ?_
       refine WC.drawnH [_] ([_]) (fun _ h => h) (by kernel_rfl) ?_
       refine tk 0 rfl (OpV.move rfl) ?_
       refine tk 1 rfl (OpV.fieldAddr rfl fo_107_0) ?_
       refine tk 2 rfl (OpV.loadBox rfl pt_3 mq0 rfl) ?_
       refine tk 3 rfl (OpV.fieldAddr rfl fo_107_1) ?_
       refine tk 4 rfl (OpV.loadBox rfl pt_3 mq0 rfl) ?_
       refine tk 5 rfl (OpV.move rfl) ?_
       refine tk 6 rfl (OpV.move rfl) ?_
       refine tk 7 rfl (OpV.move rfl) ?_
       refine tk 8 rfl (OpV.call (ec rfl (ec rfl (ec rfl (ec rfl (ec rfl e0))))) ca_135 (fun w hs => w_spec_WordPlace e23_8)) ?_
       refine tk 9 rfl (OpV.fieldAddr rfl fo_107_2) ?_
       refine tk 10 rfl (OpV.loadBox rfl pt_23 mq0 rfl) ?_
       refine tk 11 rfl (OpV.move rfl) ?_
       refine tk 12 rfl (OpV.fieldAddr rfl fo_107_0) ?_
       refine tk 13 rfl (OpV.loadBox rfl pt_3 mq0 rfl) ?_
       refine tk 14 rfl (OpV.mulR rfl rfl) ?_
       refine tk 15 rfl (OpV.move rfl) ?_
       refine tk 16 rfl (OpV.addR rfl rfl) ?_
       refine tk 17 rfl (OpV.idxA rfl rfl se_23 ha23_17 ⟨(idx_some e23_17).1, (idx_some e23_17).2.1⟩) ?_
       refine tk 18 rfl (OpV.load1 rfl pt_3 (fun w hs => hs.cell (hd23_17 0 _ rfl))) ?_
       refine tk 19 rfl (OpV.idxA rfl rfl se_23 ha23_19 ⟨(upd_some e23_20).1.1, by rw [hn23_19]; exact (upd_some e23_20).1.2⟩) ?_
       refine al0 20 rfl ?_
       refine OpH.wkF (fun _ h => St.elFlat tInt_flat x23_17 h) ?_
       refine OpH.setEl (A := tInt) ha23_19 rfl rfl rfl ts_3 e23_20 ?_
       intro f23_20
       refine ⟨[_], rfl, ?_⟩
       refine WAE.rebase (H := []) ?_
       refine WAE.done (by kernel_rfl) ?_ _
       refine En.block_norm (En.next (WC.region ?_))
       refine mv ?_
       refine sp (OpV.addR rfl rfl) ?_
       refine ag ?_
       refine WL.nil ?_
       exact En.backP zb4 zh4 f23_20 (sc (sc (sc (sc (sc sn))))) (fun _ h => (h).pm 1)
      ·
       intro hc_7
       replace zh4 := ifO_f hc_7 zh4
       refine WC.exit (En.then_exit (En.then_exit ?_))
       have hx := exitP ze4 zh4
       exact En.wk _ _ (sc (sc (sc (sc sn)))) (fun _ h => h) (zK4_0 (v_4, fv_4) hx.symm)
    ·
     intro hc_6
     replace zh3 := ifO_f hc_6 zh3
     refine WC.exit (En.then_exit (En.then_exit ?_))
     have hx := exitP ze3 zh3
     exact En.wk _ _ (sc sn) (fun _ h => ((h).pm 1).sub (.cons_cons _ (.cons _ (.slnil)))) (zK3_0 (v_3, fv_3) hx.symm)

theorem w_spec_PlaneOf {i_p0 : ImageT} {x_p1 : Int} {y_p2 : Int} {layout_p3 : Int} {r : PlaneT} {q0_0 : Option Addr} {l0_0 k0_0 : Nat} (h : spec_PlaneOf i_p0 x_p1 y_p2 layout_p3 = some r) {w : World} (r0_0 : Rd tInt w q0_0 l0_0 k0_0 i_p0.Data)   :
    Calls Tryz.prog 82 #[.agg #[.int .i64 i_p0.W, .int .i64 i_p0.H, .slice q0_0 l0_0 k0_0], .int .i64 x_p1, .int .i64 y_p2, .int .i64 layout_p3] w (fun en w' => ∃ rv G, en = .returned rv ∧ (∃ (a0_0 : Option Addr) (n0_0 : Nat) (c0_0 : Nat) (f0_0 : List Nat), rv = .agg #[.bool r.On, .int .i64 r.X, .int .i64 r.Y, .int .i64 r.W, .int .i64 r.H, .int .i64 r.Layout, .slice a0_0 n0_0 c0_0, .int .i64 r.Alpha, .int .i64 r.Orient, .int .i64 r.ToW, .int .i64 r.ToH] ∧ G = [Chunk.own tInt f0_0 a0_0 n0_0 c0_0 r.Words]) ∧ St w G w') := by
 obtain rfl := r0_0.1
 unfold spec_PlaneOf at h
 refine enter (vs := [_, _, _, _]) Tryz.func82 rfl rfl rfl rfl ?_
 refine WC.sr ?_
 refine WL.heavy rfl rfl rfl (OpH.box rfl rfl ?_)
 intro b0_0
 refine WL.heavy rfl rfl rfl (OpH.alloc zc_61 ?_)
 intro b0_1
 refine WL.nil (En.next (WC.seq ?_))
 obtain ⟨⟨x1_2a, x1_2b⟩, e1_2, h⟩ := bnd h
 refine WC.region ?_
 refine sp (OpV.loadAll rfl mq1 ag_107) ?_
 refine mv ?_
 refine WL.heavy rfl rfl rfl (OpH.callR (ec rfl (ec rfl e0)) ca_117 (fun w hs => w_spec_StoreImage e1_2 (r0_0.ext hs.below)) ?_)
 rintro _ _ ⟨a1_200, n1_200, c1_200, f1_200, rfl, rfl⟩
 refine mv ?_
 refine sp (OpV.extract rfl rfl) ?_
 refine sp (OpV.extract rfl rfl) ?_
 refine ag ?_
 refine ag ?_
 refine WL.nil (En.next (WC.seq (WC.sr ?_)))
 refine mv ?_
 refine sp (OpV.not rfl) ?_
 refine WL.nil (En.next ?_)
 refine WC.cond rfl ?_ ?_
 ·
  intro hc_1
  replace h := ifO_t hc_1 h
  refine WC.sr ?_
  refine sp (OpV.build (evps.nil) bd_61_) ?_
  refine WL.heavy0 rfl rfl (OpH.storeTo (A := [_]) [_, _, _, _, _, _, _, _, _, _, _] rfl rfl rfl ts_61 rfl rfl rfl ?_)
  refine WL.nil (En.next (WC.ret (En.then_ret ?_)))
  refine En.ret1 rfl (Res.cell rfl mq1 ag_61) ?_
  obtain rfl := Option.some.inj h
  intro w' hs
  have hs := ((hs).ownNil (A := tInt)).sub (.cons_cons _ (.cons _ (.cons _ (.cons _ (.slnil)))))
  exact ⟨_, _, rfl, ⟨.none, 0, 0, [], rfl, rfl⟩, hs⟩
 ·
  intro hc_1
  replace h := ifO_f hc_1 h
  refine WC.skip (En.next (WC.sr ?_))
  refine mv ?_
  refine mv ?_
  refine sp (OpV.fieldAddr rfl fo_107_0) ?_
  refine sp (OpV.loadBox rfl pt_3 mq2 rfl) ?_
  refine sp (OpV.fieldAddr rfl fo_107_1) ?_
  refine sp (OpV.loadBox rfl pt_3 mq2 rfl) ?_
  refine mv ?_
  refine mv ?_
  refine sp (OpV.build (evps.cons rfl (evps.cons rfl (evps.cons rfl (evps.cons rfl (evps.cons rfl (evps.cons rfl (evps.cons rfl (evps.cons rfl (evps.nil))))))))) (bd_61_0_1_2_3_4_5_6_7 _ _ _ _ _ _ _ _ _ _)) ?_
  refine WL.heavy0 rfl rfl (OpH.storeTo (A := [_]) [_, _, _, _, _, _, _, _, _, _, _] rfl rfl rfl ts_61 rfl rfl rfl ?_)
  refine WL.nil (En.next (WC.ret ?_))
  refine En.ret1 rfl (Res.cell rfl mq1 ag_61) ?_
  obtain rfl := Option.some.inj h
  intro w' hs
  have hs := (hs).sub (.cons_cons _ (.cons _ (.cons _ (.slnil))))
  exact ⟨_, _, rfl, ⟨a1_200, n1_200, c1_200, f1_200, rfl, rfl⟩, hs⟩

theorem w_spec_IdentityColor  {r : ColorMapT}  (h : spec_IdentityColor = some r) {w : World}    :
    Calls Tryz.prog 84 #[] w (fun en w' => ∃ rv G, en = .returned rv ∧ (∃ (a0_0 : Option Addr) (n0_0 : Nat) (c0_0 : Nat) (f0_0 : List Nat) (a0_1 : Option Addr) (n0_1 : Nat) (c0_1 : Nat) (f0_1 : List Nat), rv = .agg #[.slice a0_0 n0_0 c0_0, .slice a0_1 n0_1 c0_1] ∧ G = [Chunk.own tInt f0_0 a0_0 n0_0 c0_0 r.Matrix, Chunk.own tInt f0_1 a0_1 n0_1 c0_1 r.Curve]) ∧ St w G w') := by
 unfold spec_IdentityColor at h
 refine enter (vs := []) Tryz.func84 rfl rfl rfl rfl ?_
 refine WC.sr ?_
 refine WL.heavy rfl rfl rfl (OpH.alloc zc_37 ?_)
 intro b0_0
 refine WL.nil (En.next (WC.sr ?_))
 refine WL.heavy rfl rfl rfl (OpH.litF (A := tInt) (xs := [256, 0, 0, 0, 256, 0, 0, 0, 256]) tInt_flat (evps.cons rfl (evps.cons rfl (evps.cons rfl (evps.cons rfl (evps.cons rfl (evps.cons rfl (evps.cons rfl (evps.cons rfl (evps.cons rfl (evps.nil)))))))))) (bs_23_9_0_1_2_3_4_5_6_7_8 _ _ _ _ _ _ _ _ _) rfl rfl (Nat.le_of_ble_eq_true rfl) ?_)
 intro b1_0
 refine sp (OpV.build (evps.cons rfl (evps.nil)) (bd_37_0 _ _ _)) ?_
 refine WL.heavy rfl rfl rfl (OpH.alloc zc_37 ?_)
 intro b1_2
 refine WL.heavy0 rfl rfl (OpH.storeTo (A := []) [_, _] rfl rfl rfl ts_37 rfl rfl rfl ?_)
 refine WL.nil (En.next (WC.seq (WC.sr ?_)))
 refine ag ?_
 refine WL.nil (En.next (WC.block ?_))
 obtain ⟨zy0, ezy0, h⟩ := bnd h
 refine WC.cut (X := ((List Int)) × ((Option Addr) × Nat × Nat × (List Nat))) (.exit 0) (fun x => zy0 = x.1) (fun x => match x with | (m_0e, (am_0e, nm_0e, cm_0e, fm_0e)) => [(0, .pointer (some ⟨b0_0, 0, .none⟩)), (1, .pointer (some ⟨b1_2, 0, .none⟩))]) (fun x => match x with | (m_0e, (am_0e, nm_0e, cm_0e, fm_0e)) => [Chunk.box b0_0 37 [.slice .none 0 0, .slice .none 0 0], Chunk.box b1_2 37 [.slice (some ⟨b1_0, 0, .none⟩) 9 9, .slice am_0e nm_0e cm_0e], Chunk.own tInt [b1_0] (some ⟨b1_0, 0, .none⟩) 9 9 [256, 0, 0, 0, 256, 0, 0, 0, 256], Chunk.own tInt fm_0e am_0e nm_0e cm_0e m_0e]) ?_ ?_
 ·
  rintro ⟨m_0e, ⟨am_0e, nm_0e, cm_0e, fm_0e⟩⟩ hx
  replace hx : m_0e = zy0 := hx.symm
  subst hx
  show En _ _ _ _ [(0, .pointer (some ⟨b0_0, 0, .none⟩)), (1, .pointer (some ⟨b1_2, 0, .none⟩))] [Chunk.box b0_0 37 [.slice .none 0 0, .slice .none 0 0], Chunk.box b1_2 37 [.slice (some ⟨b1_0, 0, .none⟩) 9 9, .slice am_0e nm_0e cm_0e], Chunk.own tInt [b1_0] (some ⟨b1_0, 0, .none⟩) 9 9 [256, 0, 0, 0, 256, 0, 0, 0, 256], Chunk.own tInt fm_0e am_0e nm_0e cm_0e m_0e]
  refine En.block_exit (En.next (WC.sr ?_))
  refine sp (OpV.loadAll rfl mq1 ag_37) ?_
  refine WL.heavy0 rfl rfl (OpH.storeTo (A := []) [_, _] rfl rfl rfl ts_37 rfl rfl rfl ?_)
  refine WL.nil (En.next (WC.ret ?_))
  refine En.ret1 rfl (Res.cell rfl mq0 ag_37) ?_
  obtain rfl := Option.some.inj h
  intro w' hs
  have hs := (((hs).pm 3).pm 3).sub (.cons_cons _ (.cons_cons _ (.cons _ (.cons _ (.slnil)))))
  exact ⟨_, _, rfl, ⟨(some ⟨b1_0, 0, .none⟩), 9, 9, [b1_0], am_0e, nm_0e, cm_0e, fm_0e, rfl, rfl⟩, hs⟩
 ·
  intro zK0_0
  refine WC.loopP (G := (Option Addr) × Nat × Nat × (List Nat)) (fun s g => match s, g with | (m_0, k_0), (am_0, nm_0, cm_0, fm_0) => [(0, .pointer (some ⟨b0_0, 0, .none⟩)), (1, .pointer (some ⟨b1_2, 0, .none⟩)), (2, .int .i64 k_0)]) (fun s g => match s, g with | (m_0, k_0), (am_0, nm_0, cm_0, fm_0) => [Chunk.box b0_0 37 [.slice .none 0 0, .slice .none 0 0], Chunk.box b1_2 37 [.slice (some ⟨b1_0, 0, .none⟩) 9 9, .slice am_0 nm_0 cm_0], Chunk.own tInt [b1_0] (some ⟨b1_0, 0, .none⟩) 9 9 [256, 0, 0, 0, 256, 0, 0, 0, 256], Chunk.own tInt fm_0 am_0 nm_0 cm_0 m_0]) ([], 0) (.none, 0, 0, []) ezy0 (by exact sc (sc (sc sn))) (by exact (fun _ h => ((((h).ownNil (A := tInt)).pm 2).pm 2).pm 3)) ?_
  rintro zm0 ⟨m_0, k_0⟩ ⟨am_0, nm_0, cm_0, fm_0⟩ zo0 zf0 zb0 ze0
  have zh0 : spec_IdentityColor_L0 m_0 k_0 = some zo0 := zf0
  unfold spec_IdentityColor_L0 at zh0
  show WC _ _ _ _ _ [(0, .pointer (some ⟨b0_0, 0, .none⟩)), (1, .pointer (some ⟨b1_2, 0, .none⟩)), (2, .int .i64 k_0)] [Chunk.box b0_0 37 [.slice .none 0 0, .slice .none 0 0], Chunk.box b1_2 37 [.slice (some ⟨b1_0, 0, .none⟩) 9 9, .slice am_0 nm_0 cm_0], Chunk.own tInt [b1_0] (some ⟨b1_0, 0, .none⟩) 9 9 [256, 0, 0, 0, 256, 0, 0, 0, 256], Chunk.own tInt fm_0 am_0 nm_0 cm_0 m_0]
  refine WC.seq (WC.sr ?_)
  refine mv ?_
  refine sp (OpV.lss rfl rfl) ?_
  refine WL.nil (En.next ?_)
  refine WC.cond rfl ?_ ?_
  ·
   intro hc_1
   replace zh0 := ifO_t hc_1 zh0
   refine WC.skip (En.next (WC.seq (WC.block ?_)))
   obtain ⟨x5_5, e5_5, zh0⟩ := bnd zh0
   refine WC.region ?_
   refine sp (OpV.fieldAddr rfl fo_37_1) ?_
   refine sp (OpV.loadBox rfl pt_23 mq1 rfl) ?_
   refine mv ?_
   refine sp (OpV.mulR rfl rfl) ?_
   refine WL.heavy rfl rfl rfl (OpH.litF (A := tInt) (xs := [(wr (16 * k_0))]) tInt_flat (evps.cons rfl (evps.nil)) (bs_23_1_0 _) rfl rfl (Nat.le_of_ble_eq_true rfl) ?_)
   intro b5_4
   refine WL.heavy rfl rfl rfl (OpH.appS (F := [_, _, _, _]) (A := tInt) tInt_flat rfl rfl rfl mi_23 rfl (by decide) (fun w hs => (Ow.rd (hs.mem mq0))) e5_5 ?_)
   intro f5_5 a5_5 c5_5
   refine sp (OpV.fieldAddr rfl fo_37_1) ?_
   refine WL.heavy0 rfl rfl (OpH.storeTo (A := [_, _]) [_, _] rfl rfl rfl ts_23 rfl rfl rfl ?_)
   refine WL.nil (En.block_norm (En.next (WC.region ?_)))
   refine mv ?_
   refine sp (OpV.addR rfl rfl) ?_
   refine ag ?_
   refine WL.nil ?_
   exact En.backP zb0 zh0 (a5_5, x5_5.length, c5_5, f5_5) (sc (sc (sc sn))) (fun _ h => (((((h).pm 4).pm 4).pm 4).pm 4).sub (.cons_cons _ (.cons_cons _ (.cons_cons _ (.cons_cons _ (.cons _ (.slnil)))))))
  ·
   intro hc_1
   replace zh0 := ifO_f hc_1 zh0
   refine WC.exit (En.then_exit (En.then_exit ?_))
   have hx := exitP ze0 zh0
   exact En.wk _ _ (sc (sc sn)) (fun _ h => h) (zK0_0 (m_0, (am_0, nm_0, cm_0, fm_0)) hx.symm)

theorem w_spec_l19Zero {p_p0 : PlaneT} {r : Bool} {q0_0 : Option Addr} {l0_0 k0_0 : Nat} (h : spec_l19Zero p_p0 = some r) {w : World} (r0_0 : Rd tInt w q0_0 l0_0 k0_0 p_p0.Words)   :
    Calls Tryz.prog 112 #[.agg #[.bool p_p0.On, .int .i64 p_p0.X, .int .i64 p_p0.Y, .int .i64 p_p0.W, .int .i64 p_p0.H, .int .i64 p_p0.Layout, .slice q0_0 l0_0 k0_0, .int .i64 p_p0.Alpha, .int .i64 p_p0.Orient, .int .i64 p_p0.ToW, .int .i64 p_p0.ToH]] w (fun en w' => en = .returned (.bool r) ∧ Ext w w') := by
 obtain rfl := r0_0.1
 unfold spec_l19Zero at h
 refine enter (vs := [_]) Tryz.func112 rfl rfl rfl rfl ?_
 refine WC.sr ?_
 refine WL.heavy rfl rfl rfl (OpH.box rfl rfl ?_)
 intro b0_0
 refine ag ?_
 refine WL.nil (En.next (WC.sr ?_))
 refine sp (OpV.fieldAddr rfl fo_61_1) ?_
 refine sp (OpV.loadBox rfl pt_3 mq0 rfl) ?_
 refine sp (OpV.eql rfl rfl) ?_
 refine mv ?_
 refine Lt.ofWL.and 6 10 9 (p := ?pz1) (rest := ?qz1) (B := ?Bz1) rfl ?Tz1 ?Fz1 ?az1 ?bz1 ?cz1 ?dz1 ?ez1
 case Tz1 =>
  intro hcz1 hkz1
  refine sp (OpV.fieldAddr rfl fo_61_2) ?_
  refine sp (OpV.loadBox rfl pt_3 mq0 rfl) ?_
  refine sp (OpV.eql rfl rfl) ?_
  refine hkz1 _ ?_ ?_
  exact rfl
  repeat (first | exact Sub.refl _ | refine Sub.skip rfl ?_)
 case Fz1 =>
  intro hcz1 hkz1
  refine sk ?_
  refine sk ?_
  refine sk ?_
  refine hkz1 _ ?_
  repeat (first | exact Sub.refl _ | refine Sub.skip rfl ?_)
 case az1 => exact rfl
 case bz1 => exact rfl
 case cz1 => exact rfl
 case dz1 => exact rfl
 refine mv ?_
 refine Lt.ofWL.and 11 15 14 (p := ?pz2) (rest := ?qz2) (B := ?Bz2) rfl ?Tz2 ?Fz2 ?az2 ?bz2 ?cz2 ?dz2 ?ez2
 case Tz2 =>
  intro hcz2 hkz2
  refine sp (OpV.fieldAddr rfl fo_61_3) ?_
  refine sp (OpV.loadBox rfl pt_3 mq0 rfl) ?_
  refine sp (OpV.eql rfl rfl) ?_
  refine hkz2 _ ?_ ?_
  exact rfl
  repeat (first | exact Sub.refl _ | refine Sub.skip rfl ?_)
 case Fz2 =>
  intro hcz2 hkz2
  refine sk ?_
  refine sk ?_
  refine sk ?_
  refine hkz2 _ ?_
  repeat (first | exact Sub.refl _ | refine Sub.skip rfl ?_)
 case az2 => exact rfl
 case bz2 => exact rfl
 case cz2 => exact rfl
 case dz2 => exact rfl
 refine mv ?_
 refine Lt.ofWL.and 16 20 19 (p := ?pz3) (rest := ?qz3) (B := ?Bz3) rfl ?Tz3 ?Fz3 ?az3 ?bz3 ?cz3 ?dz3 ?ez3
 case Tz3 =>
  intro hcz3 hkz3
  refine sp (OpV.fieldAddr rfl fo_61_4) ?_
  refine sp (OpV.loadBox rfl pt_3 mq0 rfl) ?_
  refine sp (OpV.eql rfl rfl) ?_
  refine hkz3 _ ?_ ?_
  exact rfl
  repeat (first | exact Sub.refl _ | refine Sub.skip rfl ?_)
 case Fz3 =>
  intro hcz3 hkz3
  refine sk ?_
  refine sk ?_
  refine sk ?_
  refine hkz3 _ ?_
  repeat (first | exact Sub.refl _ | refine Sub.skip rfl ?_)
 case az3 => exact rfl
 case bz3 => exact rfl
 case cz3 => exact rfl
 case dz3 => exact rfl
 refine mv ?_
 refine Lt.ofWL.and 21 25 24 (p := ?pz4) (rest := ?qz4) (B := ?Bz4) rfl ?Tz4 ?Fz4 ?az4 ?bz4 ?cz4 ?dz4 ?ez4
 case Tz4 =>
  intro hcz4 hkz4
  refine sp (OpV.fieldAddr rfl fo_61_5) ?_
  refine sp (OpV.loadBox rfl pt_3 mq0 rfl) ?_
  refine sp (OpV.eql rfl rfl) ?_
  refine hkz4 _ ?_ ?_
  exact rfl
  repeat (first | exact Sub.refl _ | refine Sub.skip rfl ?_)
 case Fz4 =>
  intro hcz4 hkz4
  refine sk ?_
  refine sk ?_
  refine sk ?_
  refine hkz4 _ ?_
  repeat (first | exact Sub.refl _ | refine Sub.skip rfl ?_)
 case az4 => exact rfl
 case bz4 => exact rfl
 case cz4 => exact rfl
 case dz4 => exact rfl
 refine mv ?_
 refine Lt.ofWL.and 26 31 30 (p := ?pz5) (rest := ?qz5) (B := ?Bz5) rfl ?Tz5 ?Fz5 ?az5 ?bz5 ?cz5 ?dz5 ?ez5
 case Tz5 =>
  intro hcz5 hkz5
  refine sp (OpV.fieldAddr rfl fo_61_6) ?_
  refine sp (OpV.loadBox rfl pt_23 mq0 rfl) ?_
  refine sp (OpV.len rfl si_23 rfl) ?_
  refine sp (OpV.eql rfl rfl) ?_
  refine hkz5 _ ?_ ?_
  exact rfl
  repeat (first | exact Sub.refl _ | refine Sub.skip rfl ?_)
 case Fz5 =>
  intro hcz5 hkz5
  refine sk ?_
  refine sk ?_
  refine sk ?_
  refine sk ?_
  refine hkz5 _ ?_
  repeat (first | exact Sub.refl _ | refine Sub.skip rfl ?_)
 case az5 => exact rfl
 case bz5 => exact rfl
 case cz5 => exact rfl
 case dz5 => exact rfl
 refine mv ?_
 refine Lt.ofWL.and 32 36 35 (p := ?pz6) (rest := ?qz6) (B := ?Bz6) rfl ?Tz6 ?Fz6 ?az6 ?bz6 ?cz6 ?dz6 ?ez6
 case Tz6 =>
  intro hcz6 hkz6
  refine sp (OpV.fieldAddr rfl fo_61_7) ?_
  refine sp (OpV.loadBox rfl pt_3 mq0 rfl) ?_
  refine sp (OpV.eql rfl rfl) ?_
  refine hkz6 _ ?_ ?_
  exact rfl
  repeat (first | exact Sub.refl _ | refine Sub.skip rfl ?_)
 case Fz6 =>
  intro hcz6 hkz6
  refine sk ?_
  refine sk ?_
  refine sk ?_
  refine hkz6 _ ?_
  repeat (first | exact Sub.refl _ | refine Sub.skip rfl ?_)
 case az6 => exact rfl
 case bz6 => exact rfl
 case cz6 => exact rfl
 case dz6 => exact rfl
 refine mv ?_
 refine Lt.ofWL.and 37 41 40 (p := ?pz7) (rest := ?qz7) (B := ?Bz7) rfl ?Tz7 ?Fz7 ?az7 ?bz7 ?cz7 ?dz7 ?ez7
 case Tz7 =>
  intro hcz7 hkz7
  refine sp (OpV.fieldAddr rfl fo_61_8) ?_
  refine sp (OpV.loadBox rfl pt_3 mq0 rfl) ?_
  refine sp (OpV.eql rfl rfl) ?_
  refine hkz7 _ ?_ ?_
  exact rfl
  repeat (first | exact Sub.refl _ | refine Sub.skip rfl ?_)
 case Fz7 =>
  intro hcz7 hkz7
  refine sk ?_
  refine sk ?_
  refine sk ?_
  refine hkz7 _ ?_
  repeat (first | exact Sub.refl _ | refine Sub.skip rfl ?_)
 case az7 => exact rfl
 case bz7 => exact rfl
 case cz7 => exact rfl
 case dz7 => exact rfl
 refine mv ?_
 refine Lt.ofWL.and 42 46 45 (p := ?pz8) (rest := ?qz8) (B := ?Bz8) rfl ?Tz8 ?Fz8 ?az8 ?bz8 ?cz8 ?dz8 ?ez8
 case Tz8 =>
  intro hcz8 hkz8
  refine sp (OpV.fieldAddr rfl fo_61_9) ?_
  refine sp (OpV.loadBox rfl pt_3 mq0 rfl) ?_
  refine sp (OpV.eql rfl rfl) ?_
  refine hkz8 _ ?_ ?_
  exact rfl
  repeat (first | exact Sub.refl _ | refine Sub.skip rfl ?_)
 case Fz8 =>
  intro hcz8 hkz8
  refine sk ?_
  refine sk ?_
  refine sk ?_
  refine hkz8 _ ?_
  repeat (first | exact Sub.refl _ | refine Sub.skip rfl ?_)
 case az8 => exact rfl
 case bz8 => exact rfl
 case cz8 => exact rfl
 case dz8 => exact rfl
 refine mv ?_
 refine Lt.ofWL.and 47 51 50 (p := ?pz9) (rest := ?qz9) (B := ?Bz9) rfl ?Tz9 ?Fz9 ?az9 ?bz9 ?cz9 ?dz9 ?ez9
 case Tz9 =>
  intro hcz9 hkz9
  refine sp (OpV.fieldAddr rfl fo_61_10) ?_
  refine sp (OpV.loadBox rfl pt_3 mq0 rfl) ?_
  refine sp (OpV.eql rfl rfl) ?_
  refine hkz9 _ ?_ ?_
  exact rfl
  repeat (first | exact Sub.refl _ | refine Sub.skip rfl ?_)
 case Fz9 =>
  intro hcz9 hkz9
  refine sk ?_
  refine sk ?_
  refine sk ?_
  refine hkz9 _ ?_
  repeat (first | exact Sub.refl _ | refine Sub.skip rfl ?_)
 case az9 => exact rfl
 case bz9 => exact rfl
 case cz9 => exact rfl
 case dz9 => exact rfl
 refine ag ?_
 refine WL.nil (En.next (WC.ret ?_))
 refine En.ret1 rfl (Res.tmp rfl) ?_
 obtain rfl := Option.some.inj h
 intro w' hs
 exact ⟨rfl, hs.below⟩

theorem w_spec_l15Expand {words_p0 : List Int} {most_p1 : Int} {r : (List Int)} {q0_0 : Option Addr} {l0_0 k0_0 : Nat} (h : spec_l15Expand words_p0 most_p1 = some r) {w : World} (r0_0 : Rd tInt w q0_0 l0_0 k0_0 words_p0)   :
    Calls Tryz.prog 166 #[.slice q0_0 l0_0 k0_0, .int .i64 most_p1] w (fun en w' => ∃ rv G, en = .returned rv ∧ (∃ (a0_0 : Option Addr) (n0_0 : Nat) (c0_0 : Nat) (f0_0 : List Nat), rv = .slice a0_0 n0_0 c0_0 ∧ G = [Chunk.own tInt f0_0 a0_0 n0_0 c0_0 r]) ∧ St w G w') := by
 obtain rfl := r0_0.1
 unfold spec_l15Expand at h
 refine enter (vs := [_, _]) Tryz.func166 rfl rfl rfl rfl ?_
 refine WC.sr ?_
 refine ag ?_
 refine WL.nil (En.next (WC.sr ?_))
 refine WL.heavy rfl rfl rfl (OpH.lit0 (A := tInt) (evps.nil) bs_23_0_ ?_)
 intro b1_0
 refine ag ?_
 refine WL.nil (En.next (WC.seq (WC.sr ?_)))
 refine ag ?_
 refine WL.nil (En.next (WC.block ?_))
 obtain ⟨zy0, ezy0, h⟩ := bnd h
 refine WC.cut (X := ((List Int)) × ((Option Addr) × Nat × Nat × (List Nat))) (.exit 0) (fun x => zy0 = .inl x.1) (fun x => match x with | (out_0e, (aout_0e, nout_0e, cout_0e, fout_0e)) => [(5, .slice aout_0e nout_0e cout_0e)]) (fun x => match x with | (out_0e, (aout_0e, nout_0e, cout_0e, fout_0e)) => [Chunk.own tInt fout_0e aout_0e nout_0e cout_0e out_0e]) ?_ ?_
 ·
  rintro ⟨out_0e, ⟨aout_0e, nout_0e, cout_0e, fout_0e⟩⟩ hx
  replace hx : .inl out_0e = zy0 := hx.symm
  subst hx
  replace h := fork_l h
  show En _ _ _ _ [(5, .slice aout_0e nout_0e cout_0e)] [Chunk.own tInt fout_0e aout_0e nout_0e cout_0e out_0e]
  refine En.block_exit (En.next (WC.sr ?_))
  refine mv ?_
  refine ag ?_
  refine WL.nil (En.next (WC.ret ?_))
  refine En.ret1 rfl (Res.tmp rfl) ?_
  obtain rfl := Option.some.inj h
  intro w' hs
  have hs := hs
  exact ⟨_, _, rfl, ⟨aout_0e, nout_0e, cout_0e, fout_0e, rfl, rfl⟩, hs⟩
 ·
  intro zK0_0
  refine WC.loopP (G := (Option Addr) × Nat × Nat × (List Nat)) (fun s g => match s, g with | (out_0, k_0), (aout_0, nout_0, cout_0, fout_0) => [(0, .slice q0_0 words_p0.length k0_0), (1, .int .i64 most_p1), (5, .slice aout_0 nout_0 cout_0), (6, .int .i64 k_0)]) (fun s g => match s, g with | (out_0, k_0), (aout_0, nout_0, cout_0, fout_0) => [Chunk.own tInt fout_0 aout_0 nout_0 cout_0 out_0]) (([] : List Int), 0) ((some ⟨b1_0, 0, .none⟩), 0, 0, [b1_0]) ezy0 (by exact sc (sc (sc (sc sn)))) (by exact (fun _ h => h)) ?_
  rintro zm0 ⟨out_0, k_0⟩ ⟨aout_0, nout_0, cout_0, fout_0⟩ zo0 zf0 zb0 ze0
  have zh0 : spec_l15Expand_L0 words_p0 most_p1 out_0 k_0 = some zo0 := zf0
  unfold spec_l15Expand_L0 at zh0
  show WC _ _ _ _ _ [(0, .slice q0_0 words_p0.length k0_0), (1, .int .i64 most_p1), (5, .slice aout_0 nout_0 cout_0), (6, .int .i64 k_0)] [Chunk.own tInt fout_0 aout_0 nout_0 cout_0 out_0]
  refine WC.seq (WC.sr ?_)
  refine mv ?_
  refine sp (OpV.addR rfl rfl) ?_
  refine mv ?_
  refine sp (OpV.len rfl si_23 rfl) ?_
  refine sp (OpV.lss rfl rfl) ?_
  refine WL.nil (En.next ?_)
  refine WC.cond rfl ?_ ?_
  ·
   intro hc_1
   replace zh0 := ifO_t hc_1 zh0
   refine WC.skip (En.next (WC.seq (WC.block (WC.seq (WC.seq ?_)))))
   obtain ⟨x5_2, e5_2, zh0⟩ := bnd zh0
   obtain ⟨g5_2, o5_2, _, ha5_2, rfl, hd5_2⟩ := Rd.atIdx r0_0 e5_2
   replace hd5_2 : ∀ (j : Nat) v, ([.int .i64 x5_2] : List Value)[j]? = some v → w.cell? ⟨g5_2, o5_2 + k_0.toNat * 1 + j, .none⟩ = some v := hd5_2
   obtain ⟨x5_8, e5_8, zh0⟩ := bnd zh0
   refine WC.region ?_
   refine mv ?_
   refine mv ?_
   refine sp (OpV.idxA rfl rfl se_23 ha5_2 ⟨(idx_some e5_2).1, (idx_some e5_2).2.1⟩) ?_
   refine sp (OpV.load1 rfl pt_3 (fun w hs => hs.cell (hd5_2 0 _ rfl))) ?_
   refine mv ?_
   refine mv ?_
   refine sp (OpV.inhF fun hin => OpV.lenO (xs := out_0) rfl si_23 rfl (ownLen hin mq0)) ?_
   refine sp (OpV.subR rfl rfl) ?_
   refine sp (OpV.call (ec rfl (ec rfl (ec rfl e0))) ca_64 (fun w hs => w_spec_l01In e5_8)) ?_
   refine sp (OpV.not rfl) ?_
   refine WL.nil (En.next ?_)
   refine WC.cond rfl ?_ ?_
   ·
    intro hc_2
    replace zh0 := ifO_t hc_2 zh0
    refine WC.sr ?_
    refine WL.heavy rfl rfl rfl (OpH.lit0 (A := tInt) (evps.nil) bs_23_0_ ?_)
    intro b6_0
    refine ag ?_
    refine WL.nil (En.next (WC.ret (En.then_ret (En.block_ret (En.then_ret (En.then_ret (En.block_ret (En.then_ret ?_))))))))
    refine En.ret1 rfl (Res.tmp rfl) ?_
    have hx := exitP ze0 zh0
    subst hx
    replace h := fork_r h
    obtain rfl := Option.some.inj h
    intro w' hs
    have hs := (hs).sub (.cons_cons _ (.cons _ (.slnil)))
    exact ⟨_, _, rfl, ⟨(some ⟨b6_0, 0, .none⟩), 0, 0, [b6_0], rfl, rfl⟩, hs⟩
   ·
    intro hc_2
    replace zh0 := ifO_f hc_2 zh0
    refine WC.skip (En.next (WC.seq ?_))
    obtain ⟨x7_2, e7_2, zh0⟩ := bnd zh0
    obtain ⟨g7_2, o7_2, _, ha7_2, rfl, hd7_2⟩ := Rd.atIdx r0_0 e7_2
    replace hd7_2 : ∀ (j : Nat) v, ([.int .i64 x7_2] : List Value)[j]? = some v → w.cell? ⟨g7_2, o7_2 + k_0.toNat * 1 + j, .none⟩ = some v := hd7_2
    refine WC.region ?_
    refine mv ?_
    refine mv ?_
    refine sp (OpV.idxA rfl rfl se_23 ha7_2 ⟨(idx_some e7_2).1, (idx_some e7_2).2.1⟩) ?_
    refine sp (OpV.load1 rfl pt_3 (fun w hs => hs.cell (hd7_2 0 _ rfl))) ?_
    refine ag ?_
    refine WL.nil (En.next (WC.block ?_))
    obtain ⟨zy1, ezy1, zh0⟩ := bnd zh0
    refine WC.cut (X := ((List Int)) × ((Option Addr) × Nat × Nat × (List Nat))) (.exit 2) (fun x => zy1 = x.1) (fun x => match x with | (out_1e, (aout_1e, nout_1e, cout_1e, fout_1e)) => [(0, .slice q0_0 words_p0.length k0_0), (1, .int .i64 most_p1), (5, .slice aout_1e nout_1e cout_1e), (6, .int .i64 k_0)]) (fun x => match x with | (out_1e, (aout_1e, nout_1e, cout_1e, fout_1e)) => [Chunk.own tInt fout_1e aout_1e nout_1e cout_1e out_1e]) ?_ ?_
    ·
     rintro ⟨out_1e, ⟨aout_1e, nout_1e, cout_1e, fout_1e⟩⟩ hx
     replace hx : out_1e = zy1 := hx.symm
     subst hx
     show En _ _ _ _ [(0, .slice q0_0 words_p0.length k0_0), (1, .int .i64 most_p1), (5, .slice aout_1e nout_1e cout_1e), (6, .int .i64 k_0)] [Chunk.own tInt fout_1e aout_1e nout_1e cout_1e out_1e]
     refine En.block_exit (En.block_norm (En.next (WC.region ?_)))
     refine mv ?_
     refine sp (OpV.addR rfl rfl) ?_
     refine ag ?_
     refine WL.nil ?_
     exact En.backP zb0 zh0 (aout_1e, nout_1e, cout_1e, fout_1e) (sc (sc (sc (sc sn)))) (fun _ h => h)
    ·
     intro zK1_0
     refine WC.loopP (G := (Option Addr) × Nat × Nat × (List Nat)) (fun s g => match s, g with | (out_1, n_1), (aout_1, nout_1, cout_1, fout_1) => [(0, .slice q0_0 words_p0.length k0_0), (1, .int .i64 most_p1), (5, .slice aout_1 nout_1 cout_1), (6, .int .i64 k_0), (7, .int .i64 n_1)]) (fun s g => match s, g with | (out_1, n_1), (aout_1, nout_1, cout_1, fout_1) => [Chunk.own tInt fout_1 aout_1 nout_1 cout_1 out_1]) (out_0, x7_2) (aout_0, nout_0, cout_0, fout_0) ezy1 (by exact sc (sc (sc (sc (sc sn))))) (by exact (fun _ h => h)) ?_
     rintro zm1 ⟨out_1, n_1⟩ ⟨aout_1, nout_1, cout_1, fout_1⟩ zo1 zf1 zb1 ze1
     have zh1 : spec_l15Expand_L1 words_p0 k_0 out_1 n_1 = some zo1 := zf1
     unfold spec_l15Expand_L1 at zh1
     show WC _ _ _ _ _ [(0, .slice q0_0 words_p0.length k0_0), (1, .int .i64 most_p1), (5, .slice aout_1 nout_1 cout_1), (6, .int .i64 k_0), (7, .int .i64 n_1)] [Chunk.own tInt fout_1 aout_1 nout_1 cout_1 out_1]
     refine WC.seq (WC.sr ?_)
     refine mv ?_
     refine sp (OpV.gtr rfl rfl) ?_
     refine WL.nil (En.next ?_)
     refine WC.cond rfl ?_ ?_
     ·
      intro hc_3
      replace zh1 := ifO_t hc_3 zh1
      refine WC.skip (En.next (WC.seq (WC.block ?_)))
      obtain ⟨x10_4, e10_4, zh1⟩ := bnd zh1
      obtain ⟨g10_4, o10_4, _, ha10_4, rfl, hd10_4⟩ := Rd.atIdx r0_0 e10_4
      replace hd10_4 : ∀ (j : Nat) v, ([.int .i64 x10_4] : List Value)[j]? = some v → w.cell? ⟨g10_4, o10_4 + (wr (k_0 + 1)).toNat * 1 + j, .none⟩ = some v := hd10_4
      obtain ⟨x10_7, e10_7, zh1⟩ := bnd zh1
      refine WC.region ?_
      refine mv ?_
      refine mv ?_
      refine mv ?_
      refine sp (OpV.addR rfl rfl) ?_
      refine sp (OpV.idxA rfl rfl se_23 ha10_4 ⟨(idx_some e10_4).1, (idx_some e10_4).2.1⟩) ?_
      refine sp (OpV.load1 rfl pt_3 (fun w hs => hs.cell (hd10_4 0 _ rfl))) ?_
      refine WL.heavy rfl rfl rfl (OpH.litF (A := tInt) (xs := [x10_4]) tInt_flat (evps.cons rfl (evps.nil)) (bs_23_1_0 _) rfl rfl (Nat.le_of_ble_eq_true rfl) ?_)
      intro b10_6
      refine WL.heavy rfl rfl rfl (OpH.appS (F := [_]) (A := tInt) tInt_flat rfl rfl rfl mi_23 rfl (by decide) (fun w hs => (Ow.rd (hs.mem mq0))) e10_7 ?_)
      intro f10_7 a10_7 c10_7
      refine ag ?_
      refine WL.nil (En.block_norm (En.next (WC.region ?_)))
      refine mv ?_
      refine sp (OpV.subR rfl rfl) ?_
      refine ag ?_
      refine WL.nil ?_
      exact En.backP zb1 zh1 (a10_7, x10_7.length, c10_7, f10_7) (sc (sc (sc (sc (sc sn))))) (fun _ h => ((h).pm 1).sub (.cons_cons _ (.cons _ (.slnil))))
     ·
      intro hc_3
      replace zh1 := ifO_f hc_3 zh1
      refine WC.exit (En.then_exit (En.then_exit ?_))
      have hx := exitP ze1 zh1
      exact En.wk _ _ (sc (sc (sc (sc sn)))) (fun _ h => h) (zK1_0 (out_1, (aout_1, nout_1, cout_1, fout_1)) hx.symm)
  ·
   intro hc_1
   replace zh0 := ifO_f hc_1 zh0
   refine WC.exit (En.then_exit (En.then_exit ?_))
   have hx := exitP ze0 zh0
   exact En.wk _ _ (sc sn) (fun _ h => h) (zK0_0 (out_0, (aout_0, nout_0, cout_0, fout_0)) hx.symm)

theorem w_spec_l05Ints {a_p0 : List Int} {b_p1 : List Int} {r : Bool} {q0_0 : Option Addr} {l0_0 k0_0 : Nat} {q1_0 : Option Addr} {l1_0 k1_0 : Nat} (h : spec_l05Ints a_p0 b_p1 = some r) {w : World} (r0_0 : Rd tInt w q0_0 l0_0 k0_0 a_p0) (r1_0 : Rd tInt w q1_0 l1_0 k1_0 b_p1)   :
    Calls Tryz.prog 123 #[.slice q0_0 l0_0 k0_0, .slice q1_0 l1_0 k1_0] w (fun en w' => en = .returned (.bool r) ∧ Ext w w') := by
 obtain rfl := r0_0.1
 obtain rfl := r1_0.1
 unfold spec_l05Ints at h
 refine enter (vs := [_, _]) Tryz.func123 rfl rfl rfl rfl ?_
 refine WC.sr ?_
 refine ag ?_
 refine WL.nil (En.next (WC.seq (WC.sr ?_)))
 refine mv ?_
 refine sp (OpV.len rfl si_23 rfl) ?_
 refine mv ?_
 refine sp (OpV.len rfl si_23 rfl) ?_
 refine sp (OpV.neq rfl rfl) ?_
 refine WL.nil (En.next ?_)
 refine WC.cond rfl ?_ ?_
 ·
  intro hc_1
  replace h := ifO_t hc_1 h
  refine WC.sr ?_
  refine ag ?_
  refine WL.nil (En.next (WC.ret (En.then_ret ?_)))
  refine En.ret1 rfl (Res.tmp rfl) ?_
  obtain rfl := Option.some.inj h
  intro w' hs
  exact ⟨rfl, hs.below⟩
 ·
  intro hc_1
  replace h := ifO_f hc_1 h
  refine WC.skip (En.next (WC.seq (WC.sr ?_)))
  refine ag ?_
  refine WL.nil (En.next (WC.block ?_))
  obtain ⟨zy0, ezy0, h⟩ := bnd h
  refine WC.cut (X := (Unit) × (Unit)) (.exit 0) (fun x => zy0 = .inl x.1) (fun x => match x with | ((), ()) => []) (fun x => match x with | ((), ()) => []) ?_ ?_
  ·
   rintro ⟨⟨⟩, ⟨⟩⟩ hx
   replace hx : .inl () = zy0 := hx.symm
   subst hx
   replace h := fork_l h
   show En _ _ _ _ [] []
   refine En.block_exit (En.next (WC.sr ?_))
   refine ag ?_
   refine WL.nil (En.next (WC.ret ?_))
   refine En.ret1 rfl (Res.tmp rfl) ?_
   obtain rfl := Option.some.inj h
   intro w' hs
   exact ⟨rfl, hs.below⟩
  ·
   intro zK0_0
   refine WC.loopP (G := Unit) (fun s g => match s, g with | k_0, () => [(0, .slice q0_0 a_p0.length k0_0), (1, .slice q1_0 b_p1.length k1_0), (5, .int .i64 k_0)]) (fun s g => match s, g with | k_0, () => []) 0 () ezy0 (by exact sc (sc (sc sn))) (by exact (fun _ h => h)) ?_
   rintro zm0 k_0 ⟨⟩ zo0 zf0 zb0 ze0
   have zh0 : spec_l05Ints_L0 a_p0 b_p1 k_0 = some zo0 := zf0
   unfold spec_l05Ints_L0 at zh0
   show WC _ _ _ _ _ [(0, .slice q0_0 a_p0.length k0_0), (1, .slice q1_0 b_p1.length k1_0), (5, .int .i64 k_0)] []
   refine WC.seq (WC.sr ?_)
   refine mv ?_
   refine mv ?_
   refine sp (OpV.len rfl si_23 rfl) ?_
   refine sp (OpV.lss rfl rfl) ?_
   refine WL.nil (En.next ?_)
   refine WC.cond rfl ?_ ?_
   ·
    intro hc_2
    replace zh0 := ifO_t hc_2 zh0
    refine WC.skip (En.next (WC.seq (WC.block (WC.seq ?_))))
    obtain ⟨x6_2, e6_2, zh0⟩ := bnd zh0
    obtain ⟨g6_2, o6_2, _, ha6_2, rfl, hd6_2⟩ := Rd.atIdx r0_0 e6_2
    replace hd6_2 : ∀ (j : Nat) v, ([.int .i64 x6_2] : List Value)[j]? = some v → w.cell? ⟨g6_2, o6_2 + k_0.toNat * 1 + j, .none⟩ = some v := hd6_2
    obtain ⟨x6_6, e6_6, zh0⟩ := bnd zh0
    obtain ⟨g6_6, o6_6, _, ha6_6, rfl, hd6_6⟩ := Rd.atIdx r1_0 e6_6
    replace hd6_6 : ∀ (j : Nat) v, ([.int .i64 x6_6] : List Value)[j]? = some v → w.cell? ⟨g6_6, o6_6 + k_0.toNat * 1 + j, .none⟩ = some v := hd6_6
    refine WC.drawn [(0, ?r6q3v0), (1, ?r6q3v1), (5, ?r6q3v5), (25, ?r6q3v25)] (by kernel_rfl) (by kernel_rfl) ?dH6q3 ?dK6q3
    case dH6q3 =>
     intro W hW hk
     refine hW.mv ?_
     refine hW.mv ?_
     refine hW.sp (OpV.idxA rfl rfl se_23 ha6_2 ⟨(idx_some e6_2).1, (idx_some e6_2).2.1⟩) ?_
     refine hW.sp (OpV.load1 rfl pt_3 (fun w hs => hs.cell (hd6_2 0 _ rfl))) ?_
     refine hW.mv ?_
     refine hW.mv ?_
     refine hW.sp (OpV.idxA rfl rfl se_23 ha6_6 ⟨(idx_some e6_6).1, (idx_some e6_6).2.1⟩) ?_
     refine hW.sp (OpV.load1 rfl pt_3 (fun w hs => hs.cell (hd6_6 0 _ rfl))) ?_
     refine hW.sp (OpV.neq rfl rfl) ?_
     refine hk _ ?_
     refine Sub.cons ?_ (Sub.cons ?_ (Sub.cons ?_ (Sub.cons ?_ sn)))
     all_goals exact rfl
    refine En.next ?_
    refine WC.cond rfl ?_ ?_
    ·
     intro hc_3
     replace zh0 := ifO_t hc_3 zh0
     refine WC.sr ?_
     refine ag ?_
     refine WL.nil (En.next (WC.ret (En.block_ret (En.then_ret (En.then_ret (En.block_ret (En.then_ret ?_)))))))
     refine En.ret1 rfl (Res.tmp rfl) ?_
     have hx := exitP ze0 zh0
     subst hx
     replace h := fork_r h
     obtain rfl := Option.some.inj h
     intro w' hs
     exact ⟨rfl, hs.below⟩
    ·
     intro hc_3
     replace zh0 := ifO_f hc_3 zh0
     refine WC.skip (En.block_norm (En.next (WC.region ?_)))
     refine mv ?_
     refine sp (OpV.addR rfl rfl) ?_
     refine ag ?_
     refine WL.nil ?_
     exact En.backP zb0 zh0 () (sc (sc (sc sn))) (fun _ h => h)
   ·
    intro hc_2
    replace zh0 := ifO_f hc_2 zh0
    refine WC.exit (En.then_exit (En.then_exit ?_))
    have hx := exitP ze0 zh0
    exact En.wk _ _ sn (fun _ h => h) (zK0_0 ((), ()) hx.symm)

theorem w_spec_LoadImage {a_p0 : List Int} {a_p1 : Int} {a_p2 : Int} {a_p3 : Int} {r : ImageT × Bool} {q0_0 : Option Addr} {l0_0 k0_0 : Nat} (h : spec_LoadImage a_p0 a_p1 a_p2 a_p3 = some r) {w : World} (r0_0 : Rd tInt w q0_0 l0_0 k0_0 a_p0)   :
    Calls Tryz.prog 154 #[.slice q0_0 l0_0 k0_0, .int .i64 a_p1, .int .i64 a_p2, .int .i64 a_p3] w (fun en w' => ∃ rv G, en = .returned rv ∧ (∃ (a0_0 : Option Addr) (n0_0 : Nat) (c0_0 : Nat) (f0_0 : List Nat), rv = .tuple #[.agg #[.int .i64 r.1.W, .int .i64 r.1.H, .slice a0_0 n0_0 c0_0], .bool r.2] ∧ G = [Chunk.own tInt f0_0 a0_0 n0_0 c0_0 r.1.Data]) ∧ St w G w') := by
 obtain rfl := r0_0.1
 unfold spec_LoadImage at h
 refine enter (vs := [_, _, _, _]) Tryz.func154 rfl rfl rfl rfl ?_
 refine WC.sr ?_
 refine WL.heavy rfl rfl rfl (OpH.alloc zc_107 ?_)
 intro b0_0
 refine ag ?_
 refine WL.nil (En.next (WC.seq (WC.seq ?_)))
 obtain ⟨x1_1, e1_1, h⟩ := bnd h
 obtain ⟨q1_7, e1_7, h⟩ := bnd h
 refine WC.region ?_
 refine mv ?_
 refine sp (OpV.call (ec rfl (ec rfl (ec rfl e0))) ca_64 (fun w hs => w_spec_l01In e1_1)) ?_
 refine sp (OpV.not rfl) ?_
 refine mv ?_
 refine Lt.ofWL.orQ 18 22 21 (p := ?pz1) (rest := ?qz1) (B := q1_7) rfl (fun hz => orO_t e1_7 hz) ?Tz1 ?Fz1 ?az1 ?bz1 ?cz1 ?dz1 ?ez1
 case Tz1 =>
  intro hcz1 hkz1
  refine sk ?_
  refine sk ?_
  refine sk ?_
  refine hkz1 _ ?_
  repeat (first | exact Sub.refl _ | refine Sub.skip rfl ?_)
 case Fz1 =>
  intro hcz1 hkz1
  have hqz1 := orO_f e1_7 hcz1
  obtain ⟨x1_5, e1_5, hqz1⟩ := bnd hqz1
  obtain rfl := Option.some.inj hqz1
  refine mv ?_
  refine sp (OpV.call (ec rfl (ec rfl (ec rfl e0))) ca_64 (fun w hs => w_spec_l01In e1_5)) ?_
  refine sp (OpV.not rfl) ?_
  refine hkz1 _ ?_ ?_
  exact rfl
  repeat (first | exact Sub.refl _ | refine Sub.skip rfl ?_)
 case az1 => exact rfl
 case bz1 => exact rfl
 case cz1 => exact rfl
 case dz1 => exact rfl
 refine WL.nil (En.next ?_)
 refine WC.cond rfl ?_ ?_
 ·
  intro hc_1
  replace h := ifO_t hc_1 h
  refine WC.sr ?_
  refine sp (OpV.build (evps.nil) bd_107_) ?_
  refine WL.heavy0 rfl rfl (OpH.storeTo (A := []) [_, _, _] rfl rfl rfl ts_107 rfl rfl rfl ?_)
  refine ag ?_
  refine WL.nil (En.next (WC.ret (En.then_ret ?_)))
  refine En.ret2 rfl (Res.cell rfl mq0 ag_107) (Res.tmp rfl) ?_
  obtain rfl := Option.some.inj h
  intro w' hs
  have hs := ((hs).ownNil (A := tInt)).sub (.cons_cons _ (.cons _ (.slnil)))
  exact ⟨_, _, rfl, ⟨.none, 0, 0, [], rfl, rfl⟩, hs⟩
 ·
  intro hc_1
  replace h := ifO_f hc_1 h
  refine WC.skip (En.next (WC.sr ?_))
  refine mv ?_
  refine mv ?_
  refine sp (OpV.build (evps.cons rfl (evps.cons rfl (evps.nil))) (bd_107_0_1 _ _)) ?_
  refine WL.heavy rfl rfl rfl (OpH.alloc zc_107 ?_)
  intro b3_3
  refine WL.heavy0 rfl rfl (OpH.storeTo (A := []) [_, _, _] rfl rfl rfl ts_107 rfl rfl rfl ?_)
  refine WL.nil (En.next (WC.seq ?_))
  obtain ⟨zy0, ej0, h⟩ := bnd h
  refine WC.cut (X := ((List Int)) × ((Option Addr) × Nat × Nat × (List Nat))) .normal (fun x => zy0 = x.1) (fun x => match x with | (x_0j, (ax_0j, nx_0j, cx_0j, fx_0j)) => [(0, .slice q0_0 a_p0.length k0_0), (3, .int .i64 a_p3), (8, .pointer (some ⟨b0_0, 0, .none⟩)), (10, .pointer (some ⟨b3_3, 0, .none⟩))]) (fun x => match x with | (x_0j, (ax_0j, nx_0j, cx_0j, fx_0j)) => [Chunk.box b0_0 107 [.int .i64 0, .int .i64 0, .slice .none 0 0], Chunk.box b3_3 107 [.int .i64 a_p1, .int .i64 a_p2, .slice ax_0j nx_0j cx_0j], Chunk.own tInt fx_0j ax_0j nx_0j cx_0j x_0j]) ?_ ?_
  ·
   rintro ⟨x_0j, ⟨ax_0j, nx_0j, cx_0j, fx_0j⟩⟩ hx
   replace hx : x_0j = zy0 := hx.symm
   subst hx
   show En _ _ _ _ [(0, .slice q0_0 a_p0.length k0_0), (3, .int .i64 a_p3), (8, .pointer (some ⟨b0_0, 0, .none⟩)), (10, .pointer (some ⟨b3_3, 0, .none⟩))] [Chunk.box b0_0 107 [.int .i64 0, .int .i64 0, .slice .none 0 0], Chunk.box b3_3 107 [.int .i64 a_p1, .int .i64 a_p2, .slice ax_0j nx_0j cx_0j], Chunk.own tInt fx_0j ax_0j nx_0j cx_0j x_0j]
   refine En.next (WC.seq ?_)
   obtain ⟨⟨x14_2a, x14_2b⟩, e14_2, h⟩ := bnd h
   refine WC.region ?_
   refine sp (OpV.loadAll rfl mq1 ag_107) ?_
   refine mv ?_
   refine WL.heavy rfl rfl rfl (OpH.callR (ec rfl (ec rfl e0)) ca_117 (fun w hs => w_spec_StoreImage e14_2 (Ow.rd (hs.mem mq2))) ?_)
   rintro _ _ ⟨a14_200, n14_200, c14_200, f14_200, rfl, rfl⟩
   refine mv ?_
   refine sp (OpV.extract rfl rfl) ?_
   refine sp (OpV.extract rfl rfl) ?_
   refine ag ?_
   refine ag ?_
   refine WL.nil (En.next (WC.seq (WC.seq ?_)))
   obtain ⟨q15_7, e15_7, h⟩ := bnd h
   refine WC.region ?_
   refine mv ?_
   refine sp (OpV.not rfl) ?_
   refine mv ?_
   refine Lt.ofWL.orQ 76 81 80 (p := ?pz2) (rest := ?qz2) (B := q15_7) rfl (fun hz => orO_t e15_7 hz) ?Tz2 ?Fz2 ?az2 ?bz2 ?cz2 ?dz2 ?ez2
   case Tz2 =>
    intro hcz2 hkz2
    refine sk ?_
    refine sk ?_
    refine sk ?_
    refine sk ?_
    refine hkz2 _ ?_
    repeat (first | exact Sub.refl _ | refine Sub.skip rfl ?_)
   case Fz2 =>
    intro hcz2 hkz2
    have hqz2 := orO_f e15_7 hcz2
    obtain ⟨x15_5, e15_5, hqz2⟩ := bnd hqz2
    obtain rfl := Option.some.inj hqz2
    refine mv ?_
    refine mv ?_
    refine sp (OpV.call (ec rfl (ec rfl e0)) ca_123 (fun w hs => w_spec_l05Ints e15_5 (Ow.rd (hs.mem mq0)) (r0_0.ext hs.below))) ?_
    refine sp (OpV.not rfl) ?_
    refine hkz2 _ ?_ ?_
    exact rfl
    repeat (first | exact Sub.refl _ | refine Sub.skip rfl ?_)
   case az2 => exact rfl
   case bz2 => exact rfl
   case cz2 => exact rfl
   case dz2 => exact rfl
   refine WL.nil (En.next ?_)
   refine WC.cond rfl ?_ ?_
   ·
    intro hc_2
    replace h := ifO_t hc_2 h
    refine WC.sr ?_
    refine sp (OpV.build (evps.nil) bd_107_) ?_
    refine WL.heavy0 rfl rfl (OpH.storeTo (A := [_]) [_, _, _] rfl rfl rfl ts_107 rfl rfl rfl ?_)
    refine ag ?_
    refine WL.nil (En.next (WC.ret (En.then_ret ?_)))
    refine En.ret2 rfl (Res.cell rfl mq1 ag_107) (Res.tmp rfl) ?_
    obtain rfl := Option.some.inj h
    intro w' hs
    have hs := ((hs).ownNil (A := tInt)).sub (.cons_cons _ (.cons _ (.cons _ (.cons _ (.cons _ (.slnil))))))
    exact ⟨_, _, rfl, ⟨.none, 0, 0, [], rfl, rfl⟩, hs⟩
   ·
    intro hc_2
    replace h := ifO_f hc_2 h
    refine WC.skip (En.next (WC.sr ?_))
    refine sp (OpV.loadAll rfl mq2 ag_107) ?_
    refine WL.heavy0 rfl rfl (OpH.storeTo (A := [_]) [_, _, _] rfl rfl rfl ts_107 rfl rfl rfl ?_)
    refine ag ?_
    refine WL.nil (En.next (WC.ret ?_))
    refine En.ret2 rfl (Res.cell rfl mq1 ag_107) (Res.tmp rfl) ?_
    obtain rfl := Option.some.inj h
    intro w' hs
    have hs := ((hs).pm 3).sub (.cons_cons _ (.cons _ (.cons _ (.cons _ (.slnil)))))
    exact ⟨_, _, rfl, ⟨ax_0j, nx_0j, cx_0j, fx_0j, rfl, rfl⟩, hs⟩
  ·
   intro zK0
   refine WC.block (WC.sr ?_)
   refine mv ?_
   refine sp (OpV.eql rfl rfl) ?_
   refine ag ?_
   refine WL.nil (En.next ?_)
   refine WC.cond rfl ?_ ?_
   ·
    intro hc_3
    replace ej0 := ifO_t hc_3 ej0
    obtain ⟨x5_4, e5_4, ej0⟩ := bnd ej0
    refine WC.region ?_
    refine mv ?_
    refine mv ?_
    refine mv ?_
    refine sp (OpV.mulR rfl rfl) ?_
    refine WL.heavy rfl rfl rfl (OpH.callR (ec rfl (ec rfl e0)) ca_166 (fun w hs => w_spec_l15Expand e5_4 (r0_0.ext hs.below)) ?_)
    rintro _ _ ⟨a5_400, n5_400, c5_400, f5_400, rfl, rfl⟩
    refine sp (OpV.fieldAddr rfl fo_107_2) ?_
    refine WL.heavy0 rfl rfl (OpH.storeTo (A := [_]) [_, _, _] rfl rfl rfl ts_23 rfl rfl rfl ?_)
    refine WL.nil (En.block_norm ?_)
    exact En.wk _ _ (sc (sc (sc (sc sn)))) (fun _ h => ((h).pm 1).pm 2) (zK0 (x5_4, (a5_400, n5_400, c5_400, f5_400)) (Option.some.inj ej0).symm)
   ·
    intro hc_3
    replace ej0 := ifO_f hc_3 ej0
    refine WC.seq ?_
    obtain ⟨x6_3, e6_3, ej0⟩ := bnd ej0
    refine WC.region ?_
    refine mv ?_
    refine mv ?_
    refine mv ?_
    refine sp (OpV.call (ec rfl (ec rfl (ec rfl e0))) ca_134 (fun w hs => w_spec_WordCount e6_3)) ?_
    refine mv ?_
    refine sp (OpV.len rfl si_23 rfl) ?_
    refine sp (OpV.eql rfl rfl) ?_
    refine ag ?_
    refine WL.nil (En.next ?_)
    refine WC.cond rfl ?_ ?_
    ·
     intro hc_4
     replace ej0 := ifO_t hc_4 ej0
     refine WC.sr ?_
     refine ag ?_
     refine WL.nil (En.next (WC.block ?_))
     obtain ⟨zy1, ezy1, ej0⟩ := bnd ej0
     refine WC.cut (X := ((List Int)) × ((Option Addr) × Nat × Nat × (List Nat))) (.exit 1) (fun x => zy1 = x.1) (fun x => match x with | (x_1e, (ax_1e, nx_1e, cx_1e, fx_1e)) => [(0, .slice q0_0 a_p0.length k0_0), (3, .int .i64 a_p3), (8, .pointer (some ⟨b0_0, 0, .none⟩)), (10, .pointer (some ⟨b3_3, 0, .none⟩))]) (fun x => match x with | (x_1e, (ax_1e, nx_1e, cx_1e, fx_1e)) => [Chunk.box b0_0 107 [.int .i64 0, .int .i64 0, .slice .none 0 0], Chunk.box b3_3 107 [.int .i64 a_p1, .int .i64 a_p2, .slice ax_1e nx_1e cx_1e], Chunk.own tInt fx_1e ax_1e nx_1e cx_1e x_1e]) ?_ ?_
     ·
      rintro ⟨x_1e, ⟨ax_1e, nx_1e, cx_1e, fx_1e⟩⟩ hx
      replace hx : x_1e = zy1 := hx.symm
      subst hx
      show En _ _ _ _ [(0, .slice q0_0 a_p0.length k0_0), (3, .int .i64 a_p3), (8, .pointer (some ⟨b0_0, 0, .none⟩)), (10, .pointer (some ⟨b3_3, 0, .none⟩))] [Chunk.box b0_0 107 [.int .i64 0, .int .i64 0, .slice .none 0 0], Chunk.box b3_3 107 [.int .i64 a_p1, .int .i64 a_p2, .slice ax_1e nx_1e cx_1e], Chunk.own tInt fx_1e ax_1e nx_1e cx_1e x_1e]
      refine En.block_exit (En.block_norm ?_)
      exact En.wk _ _ (sc (sc (sc (sc sn)))) (fun _ h => h) (zK0 (x_1e, (ax_1e, nx_1e, cx_1e, fx_1e)) (Option.some.inj ej0).symm)
     ·
      intro zK1_0
      refine WC.loopP (G := (Option Addr) × Nat × Nat × (List Nat)) (fun s g => match s, g with | (x_1, v_1), (ax_1, nx_1, cx_1, fx_1) => [(0, .slice q0_0 a_p0.length k0_0), (1, .int .i64 a_p1), (2, .int .i64 a_p2), (3, .int .i64 a_p3), (8, .pointer (some ⟨b0_0, 0, .none⟩)), (10, .pointer (some ⟨b3_3, 0, .none⟩)), (11, .int .i64 v_1)]) (fun s g => match s, g with | (x_1, v_1), (ax_1, nx_1, cx_1, fx_1) => [Chunk.box b0_0 107 [.int .i64 0, .int .i64 0, .slice .none 0 0], Chunk.box b3_3 107 [.int .i64 a_p1, .int .i64 a_p2, .slice ax_1 nx_1 cx_1], Chunk.own tInt fx_1 ax_1 nx_1 cx_1 x_1]) ([], 0) (.none, 0, 0, []) ezy1 (by exact sc (sc (sc (sc (sc (sc (sc sn))))))) (by exact (fun _ h => (((h).ownNil (A := tInt)).pm 1).pm 2)) ?_
      rintro zm1 ⟨x_1, v_1⟩ ⟨ax_1, nx_1, cx_1, fx_1⟩ zo1 zf1 zb1 ze1
      have zh1 : spec_LoadImage_L1 a_p0 a_p1 a_p2 a_p3 x_1 v_1 = some zo1 := zf1
      unfold spec_LoadImage_L1 at zh1
      show WC _ _ _ _ _ [(0, .slice q0_0 a_p0.length k0_0), (1, .int .i64 a_p1), (2, .int .i64 a_p2), (3, .int .i64 a_p3), (8, .pointer (some ⟨b0_0, 0, .none⟩)), (10, .pointer (some ⟨b3_3, 0, .none⟩)), (11, .int .i64 v_1)] [Chunk.box b0_0 107 [.int .i64 0, .int .i64 0, .slice .none 0 0], Chunk.box b3_3 107 [.int .i64 a_p1, .int .i64 a_p2, .slice ax_1 nx_1 cx_1], Chunk.own tInt fx_1 ax_1 nx_1 cx_1 x_1]
      refine WC.seq (WC.sr ?_)
      refine mv ?_
      refine mv ?_
      refine sp (OpV.lss rfl rfl) ?_
      refine WL.nil (En.next ?_)
      refine WC.cond rfl ?_ ?_
      ·
       intro hc_5
       replace zh1 := ifO_t hc_5 zh1
       refine WC.skip (En.next (WC.seq (WC.block (WC.sr ?_))))
       refine ag ?_
       refine WL.nil (En.next (WC.block ?_))
       obtain ⟨zy2, ezy2, zh1⟩ := bnd zh1
       refine WC.cut (X := ((List Int)) × ((Option Addr) × Nat × Nat × (List Nat))) (.exit 3) (fun x => zy2 = x.1) (fun x => match x with | (x_2e, (ax_2e, nx_2e, cx_2e, fx_2e)) => [(0, .slice q0_0 a_p0.length k0_0), (1, .int .i64 a_p1), (2, .int .i64 a_p2), (3, .int .i64 a_p3), (8, .pointer (some ⟨b0_0, 0, .none⟩)), (10, .pointer (some ⟨b3_3, 0, .none⟩)), (11, .int .i64 v_1)]) (fun x => match x with | (x_2e, (ax_2e, nx_2e, cx_2e, fx_2e)) => [Chunk.box b0_0 107 [.int .i64 0, .int .i64 0, .slice .none 0 0], Chunk.box b3_3 107 [.int .i64 a_p1, .int .i64 a_p2, .slice ax_2e nx_2e cx_2e], Chunk.own tInt fx_2e ax_2e nx_2e cx_2e x_2e]) ?_ ?_
       ·
        rintro ⟨x_2e, ⟨ax_2e, nx_2e, cx_2e, fx_2e⟩⟩ hx
        replace hx : x_2e = zy2 := hx.symm
        subst hx
        show En _ _ _ _ [(0, .slice q0_0 a_p0.length k0_0), (1, .int .i64 a_p1), (2, .int .i64 a_p2), (3, .int .i64 a_p3), (8, .pointer (some ⟨b0_0, 0, .none⟩)), (10, .pointer (some ⟨b3_3, 0, .none⟩)), (11, .int .i64 v_1)] [Chunk.box b0_0 107 [.int .i64 0, .int .i64 0, .slice .none 0 0], Chunk.box b3_3 107 [.int .i64 a_p1, .int .i64 a_p2, .slice ax_2e nx_2e cx_2e], Chunk.own tInt fx_2e ax_2e nx_2e cx_2e x_2e]
        refine En.block_exit (En.block_norm (En.next (WC.region ?_)))
        refine mv ?_
        refine sp (OpV.addR rfl rfl) ?_
        refine ag ?_
        refine WL.nil ?_
        exact En.backP zb1 zh1 (ax_2e, nx_2e, cx_2e, fx_2e) (sc (sc (sc (sc (sc (sc (sc sn))))))) (fun _ h => h)
       ·
        intro zK2_0
        refine WC.loopP (G := (Option Addr) × Nat × Nat × (List Nat)) (fun s g => match s, g with | (x_2, v_2), (ax_2, nx_2, cx_2, fx_2) => [(0, .slice q0_0 a_p0.length k0_0), (1, .int .i64 a_p1), (2, .int .i64 a_p2), (3, .int .i64 a_p3), (8, .pointer (some ⟨b0_0, 0, .none⟩)), (10, .pointer (some ⟨b3_3, 0, .none⟩)), (11, .int .i64 v_1), (12, .int .i64 v_2)]) (fun s g => match s, g with | (x_2, v_2), (ax_2, nx_2, cx_2, fx_2) => [Chunk.box b0_0 107 [.int .i64 0, .int .i64 0, .slice .none 0 0], Chunk.box b3_3 107 [.int .i64 a_p1, .int .i64 a_p2, .slice ax_2 nx_2 cx_2], Chunk.own tInt fx_2 ax_2 nx_2 cx_2 x_2]) (x_1, 0) (ax_1, nx_1, cx_1, fx_1) ezy2 (by exact sc (sc (sc (sc (sc (sc (sc (sc sn)))))))) (by exact (fun _ h => h)) ?_
        rintro zm2 ⟨x_2, v_2⟩ ⟨ax_2, nx_2, cx_2, fx_2⟩ zo2 zf2 zb2 ze2
        have zh2 : spec_LoadImage_L2 a_p0 a_p1 a_p2 a_p3 v_1 x_2 v_2 = some zo2 := zf2
        unfold spec_LoadImage_L2 at zh2
        show WC _ _ _ _ _ [(0, .slice q0_0 a_p0.length k0_0), (1, .int .i64 a_p1), (2, .int .i64 a_p2), (3, .int .i64 a_p3), (8, .pointer (some ⟨b0_0, 0, .none⟩)), (10, .pointer (some ⟨b3_3, 0, .none⟩)), (11, .int .i64 v_1), (12, .int .i64 v_2)] [Chunk.box b0_0 107 [.int .i64 0, .int .i64 0, .slice .none 0 0], Chunk.box b3_3 107 [.int .i64 a_p1, .int .i64 a_p2, .slice ax_2 nx_2 cx_2], Chunk.own tInt fx_2 ax_2 nx_2 cx_2 x_2]
        refine WC.seq (WC.sr ?_)
        refine mv ?_
        refine mv ?_
        refine sp (OpV.lss rfl rfl) ?_
        refine WL.nil (En.next ?_)
        refine WC.cond rfl ?_ ?_
        ·
         intro hc_6
         replace zh2 := ifO_t hc_6 zh2
         refine WC.skip (En.next (WC.seq (WC.block ?_)))
         obtain ⟨x13_8, e13_8, zh2⟩ := bnd zh2
         obtain ⟨x13_9, e13_9, zh2⟩ := bnd zh2
         obtain ⟨g13_9, o13_9, _, ha13_9, rfl, hd13_9⟩ := Rd.atIdx r0_0 e13_9
         replace hd13_9 : ∀ (j : Nat) v, ([.int .i64 x13_9] : List Value)[j]? = some v → w.cell? ⟨g13_9, o13_9 + x13_8.toNat * 1 + j, .none⟩ = some v := hd13_9
         obtain ⟨x13_12, e13_12, zh2⟩ := bnd zh2
         refine WC.wkF (fun _ h => h.pm 2) ?_
         refine WC.wkF (fun _ h => h.pm 2) ?_
         refine WC.drawnH [_, _] ([_]) (fun _ h => h) (by kernel_rfl) ?_
         refine tk 0 rfl (OpV.fieldAddr rfl fo_107_2) ?_
         refine tk 2 rfl (OpV.move rfl) ?_
         refine tk 3 rfl (OpV.move rfl) ?_
         refine tk 4 rfl (OpV.move rfl) ?_
         refine tk 5 rfl (OpV.move rfl) ?_
         refine tk 6 rfl (OpV.move rfl) ?_
         refine tk 7 rfl (OpV.move rfl) ?_
         refine tk 8 rfl (OpV.call (ec rfl (ec rfl (ec rfl (ec rfl (ec rfl e0))))) ca_135 (fun w hs => w_spec_WordPlace e13_8)) ?_
         refine tk 9 rfl (OpV.idxA rfl rfl se_23 ha13_9 ⟨(idx_some e13_9).1, (idx_some e13_9).2.1⟩) ?_
         refine tk 10 rfl (OpV.load1 rfl pt_3 (fun w hs => hs.cell (hd13_9 0 _ rfl))) ?_
         refine WAE.all (rs := [1, 11]) (by kernel_rfl) rfl (AllR.cons rfl rfl rfl rfl ?_ (AllR.cons rfl rfl rfl rfl ?_ AllR.nil))
         ·
          refine OpH.light (OpV.loadBox rfl pt_23 mq0 rfl) ?_
          refine ⟨[_, _], rfl, ?_⟩
          refine al1 11 rfl ?_
          refine OpH.litF (A := tInt) (xs := [x13_9]) tInt_flat (evps.cons rfl (evps.nil)) (bs_23_1_0 _) rfl rfl (Nat.le_of_ble_eq_true rfl) ?_
          intro b13_11
          refine ⟨[_, _, _], rfl, ?_⟩
          refine al1 12 rfl ?_
          refine OpH.appS (F := [_, _]) (A := tInt) tInt_flat rfl rfl rfl mi_23 rfl (by decide) (fun w hs => (Ow.rd (hs.mem mq0))) e13_12 ?_
          intro f13_12 a13_12 c13_12
          refine ⟨[_, _, _], rfl, ?_⟩
          refine tk 13 rfl (OpV.fieldAddr rfl fo_107_2) ?_
          refine al0 14 rfl ?_
          refine OpH.storeTo (A := [_]) [_, _, _] rfl rfl rfl ts_23 rfl rfl rfl ?_
          refine ⟨[_, _, _], rfl, ?_⟩
          refine WAE.rebase (H := []) ?_
          refine WAE.done (by kernel_rfl) ?_ _
          refine En.block_norm (En.next (WC.region ?_))
          refine mv ?_
          refine sp (OpV.addR rfl rfl) ?_
          refine ag ?_
          refine WL.nil ?_
          exact En.backP zb2 zh2 (a13_12, x13_12.length, c13_12, f13_12) (sc (sc (sc (sc (sc (sc (sc (sc sn)))))))) (fun _ h => ((((h).pm 2).pm 2).pm 3).sub (.cons_cons _ (.cons_cons _ (.cons_cons _ (.cons _ (.slnil))))))
         ·
          refine OpH.litF (A := tInt) (xs := [x13_9]) tInt_flat (evps.cons rfl (evps.nil)) (bs_23_1_0 _) rfl rfl (Nat.le_of_ble_eq_true rfl) ?_
          intro b13_11
          refine ⟨[_, _, _], rfl, ?_⟩
          refine al1 1 rfl ?_
          refine OpH.light (OpV.loadBox rfl pt_23 mq1 rfl) ?_
          refine ⟨[_, _, _], rfl, ?_⟩
          refine al1 12 rfl ?_
          refine OpH.appS (F := [_, _]) (A := tInt) tInt_flat rfl rfl rfl mi_23 rfl (by decide) (fun w hs => (Ow.rd (hs.mem mq0))) e13_12 ?_
          intro f13_12 a13_12 c13_12
          refine ⟨[_, _, _], rfl, ?_⟩
          refine tk 13 rfl (OpV.fieldAddr rfl fo_107_2) ?_
          refine al0 14 rfl ?_
          refine OpH.storeTo (A := [_]) [_, _, _] rfl rfl rfl ts_23 rfl rfl rfl ?_
          refine ⟨[_, _, _], rfl, ?_⟩
          refine WAE.rebase (H := []) ?_
          refine WAE.done (by kernel_rfl) ?_ _
          refine En.block_norm (En.next (WC.region ?_))
          refine mv ?_
          refine sp (OpV.addR rfl rfl) ?_
          refine ag ?_
          refine WL.nil ?_
          exact En.backP zb2 zh2 (a13_12, x13_12.length, c13_12, f13_12) (sc (sc (sc (sc (sc (sc (sc (sc sn)))))))) (fun _ h => ((((h).pm 2).pm 2).pm 3).sub (.cons_cons _ (.cons_cons _ (.cons_cons _ (.cons _ (.slnil))))))
        ·
         intro hc_6
         replace zh2 := ifO_f hc_6 zh2
         refine WC.exit (En.then_exit (En.then_exit ?_))
         have hx := exitP ze2 zh2
         exact En.wk _ _ (sc (sc (sc (sc (sc (sc (sc sn))))))) (fun _ h => h) (zK2_0 (x_2, (ax_2, nx_2, cx_2, fx_2)) hx.symm)
      ·
       intro hc_5
       replace zh1 := ifO_f hc_5 zh1
       refine WC.exit (En.then_exit (En.then_exit ?_))
       have hx := exitP ze1 zh1
       exact En.wk _ _ (sc (sc (sc (sc sn)))) (fun _ h => h) (zK1_0 (x_1, (ax_1, nx_1, cx_1, fx_1)) hx.symm)
    ·
     intro hc_4
     replace ej0 := ifO_f hc_4 ej0
     refine WC.skip (En.block_norm ?_)
     exact En.wk _ _ (sc (sc (sc (sc sn)))) (fun _ h => (((h).ownNil (A := tInt)).pm 1).pm 2) (zK0 ([], (.none, 0, 0, [])) (Option.some.inj ej0).symm)

theorem w_spec_l19Loaded {p_p0 : PlaneT} {r : ImageT × Bool} {q0_0 : Option Addr} {l0_0 k0_0 : Nat} (h : spec_l19Loaded p_p0 = some r) {w : World} (r0_0 : Rd tInt w q0_0 l0_0 k0_0 p_p0.Words)   :
    Calls Tryz.prog 137 #[.agg #[.bool p_p0.On, .int .i64 p_p0.X, .int .i64 p_p0.Y, .int .i64 p_p0.W, .int .i64 p_p0.H, .int .i64 p_p0.Layout, .slice q0_0 l0_0 k0_0, .int .i64 p_p0.Alpha, .int .i64 p_p0.Orient, .int .i64 p_p0.ToW, .int .i64 p_p0.ToH]] w (fun en w' => ∃ rv G, en = .returned rv ∧ (∃ (a0_0 : Option Addr) (n0_0 : Nat) (c0_0 : Nat) (f0_0 : List Nat), rv = .tuple #[.agg #[.int .i64 r.1.W, .int .i64 r.1.H, .slice a0_0 n0_0 c0_0], .bool r.2] ∧ G = [Chunk.own tInt f0_0 a0_0 n0_0 c0_0 r.1.Data]) ∧ St w G w') := by
 obtain rfl := r0_0.1
 unfold spec_l19Loaded at h
 refine enter (vs := [_]) Tryz.func137 rfl rfl rfl rfl ?_
 refine WC.sr ?_
 refine WL.heavy rfl rfl rfl (OpH.box rfl rfl ?_)
 intro b0_0
 refine WL.heavy rfl rfl rfl (OpH.alloc zc_107 ?_)
 intro b0_1
 refine ag ?_
 refine WL.nil (En.next (WC.seq (WC.sr ?_)))
 refine sp (OpV.fieldAddr rfl fo_61_0) ?_
 refine sp (OpV.loadBox rfl pt_4 mq1 rfl) ?_
 refine sp (OpV.not rfl) ?_
 refine WL.nil (En.next ?_)
 refine WC.cond rfl ?_ ?_
 ·
  intro hc_1
  replace h := ifO_t hc_1 h
  refine WC.sr ?_
  refine sp (OpV.build (evps.nil) bd_107_) ?_
  refine WL.heavy0 rfl rfl (OpH.storeTo (A := []) [_, _, _] rfl rfl rfl ts_107 rfl rfl rfl ?_)
  refine ag ?_
  refine WL.nil (En.next (WC.ret (En.then_ret ?_)))
  refine En.ret2 rfl (Res.cell rfl mq0 ag_107) (Res.tmp rfl) ?_
  obtain rfl := Option.some.inj h
  intro w' hs
  have hs := ((hs).ownNil (A := tInt)).sub (.cons_cons _ (.cons _ (.cons _ (.slnil))))
  exact ⟨_, _, rfl, ⟨.none, 0, 0, [], rfl, rfl⟩, hs⟩
 ·
  intro hc_1
  replace h := ifO_f hc_1 h
  refine WC.skip (En.next (WC.seq ?_))
  obtain ⟨⟨x3_8a, x3_8b⟩, e3_8, h⟩ := bnd h
  refine WC.region ?_
  refine sp (OpV.fieldAddr rfl fo_61_6) ?_
  refine sp (OpV.loadBox rfl pt_23 mq1 rfl) ?_
  refine sp (OpV.fieldAddr rfl fo_61_3) ?_
  refine sp (OpV.loadBox rfl pt_3 mq1 rfl) ?_
  refine sp (OpV.fieldAddr rfl fo_61_4) ?_
  refine sp (OpV.loadBox rfl pt_3 mq1 rfl) ?_
  refine sp (OpV.fieldAddr rfl fo_61_5) ?_
  refine sp (OpV.loadBox rfl pt_3 mq1 rfl) ?_
  refine WL.heavy rfl rfl rfl (OpH.callR (ec rfl (ec rfl (ec rfl (ec rfl e0)))) ca_154 (fun w hs => w_spec_LoadImage e3_8 (r0_0.ext hs.below)) ?_)
  rintro _ _ ⟨a3_800, n3_800, c3_800, f3_800, rfl, rfl⟩
  refine mv ?_
  refine sp (OpV.extract rfl rfl) ?_
  refine sp (OpV.extract rfl rfl) ?_
  refine WL.heavy rfl rfl rfl (OpH.alloc zc_107 ?_)
  intro b3_12
  refine WL.heavy0 rfl rfl (OpH.storeTo (A := []) [_, _, _] rfl rfl rfl ts_107 rfl rfl rfl ?_)
  refine ag ?_
  refine WL.nil (En.next (WC.sr ?_))
  refine sp (OpV.loadAll rfl mq0 ag_107) ?_
  refine mv ?_
  refine WL.heavy0 rfl rfl (OpH.storeTo (A := [_, _]) [_, _, _] rfl rfl rfl ts_107 rfl rfl rfl ?_)
  refine ag ?_
  refine WL.nil (En.next (WC.ret ?_))
  refine En.ret2 rfl (Res.cell rfl mq2 ag_107) (Res.tmp rfl) ?_
  obtain rfl := Option.some.inj h
  intro w' hs
  have hs := ((hs).pm 1).sub (.cons_cons _ (.cons _ (.cons _ (.cons _ (.slnil)))))
  exact ⟨_, _, rfl, ⟨a3_800, n3_800, c3_800, f3_800, rfl, rfl⟩, hs⟩

theorem w_spec_OrientSize {w_p0 : Int} {h_p1 : Int} {o_p2 : Int} {r : Int × Int}  (h : spec_OrientSize w_p0 h_p1 o_p2 = some r) {w : World}    :
    Calls Tryz.prog 155 #[.int .i64 w_p0, .int .i64 h_p1, .int .i64 o_p2] w (fun en w' => en = .returned (.tuple #[.int .i64 r.1, .int .i64 r.2]) ∧ Ext w w') := by
 unfold spec_OrientSize at h
 refine enter (vs := [_, _, _]) Tryz.func155 rfl rfl rfl rfl ?_
 refine WC.sr ?_
 refine ag ?_
 refine ag ?_
 refine WL.nil (En.next (WC.seq (WC.seq ?_)))
 obtain ⟨x1_1, e1_1, h⟩ := bnd h
 obtain ⟨q1_7, e1_7, h⟩ := bnd h
 obtain ⟨q1_12, e1_12, h⟩ := bnd h
 refine WC.region ?_
 refine mv ?_
 refine sp (OpV.call (ec rfl (ec rfl (ec rfl e0))) ca_64 (fun w hs => w_spec_l01In e1_1)) ?_
 refine sp (OpV.not rfl) ?_
 refine mv ?_
 refine Lt.ofWL.orQ 11 15 14 (p := ?pz1) (rest := ?qz1) (B := q1_7) rfl (fun hz => orO_t e1_7 hz) ?Tz1 ?Fz1 ?az1 ?bz1 ?cz1 ?dz1 ?ez1
 case Tz1 =>
  intro hcz1 hkz1
  refine sk ?_
  refine sk ?_
  refine sk ?_
  refine hkz1 _ ?_
  repeat (first | exact Sub.refl _ | refine Sub.skip rfl ?_)
 case Fz1 =>
  intro hcz1 hkz1
  have hqz1 := orO_f e1_7 hcz1
  obtain ⟨x1_5, e1_5, hqz1⟩ := bnd hqz1
  obtain rfl := Option.some.inj hqz1
  refine mv ?_
  refine sp (OpV.call (ec rfl (ec rfl (ec rfl e0))) ca_64 (fun w hs => w_spec_l01In e1_5)) ?_
  refine sp (OpV.not rfl) ?_
  refine hkz1 _ ?_ ?_
  exact rfl
  repeat (first | exact Sub.refl _ | refine Sub.skip rfl ?_)
 case az1 => exact rfl
 case bz1 => exact rfl
 case cz1 => exact rfl
 case dz1 => exact rfl
 refine mv ?_
 refine Lt.ofWL.orQ 16 20 19 (p := ?pz2) (rest := ?qz2) (B := q1_12) rfl (fun hz => orO_t e1_12 hz) ?Tz2 ?Fz2 ?az2 ?bz2 ?cz2 ?dz2 ?ez2
 case Tz2 =>
  intro hcz2 hkz2
  refine sk ?_
  refine sk ?_
  refine sk ?_
  refine hkz2 _ ?_
  repeat (first | exact Sub.refl _ | refine Sub.skip rfl ?_)
 case Fz2 =>
  intro hcz2 hkz2
  have hqz2 := orO_f e1_12 hcz2
  obtain ⟨x1_10, e1_10, hqz2⟩ := bnd hqz2
  obtain rfl := Option.some.inj hqz2
  refine mv ?_
  refine sp (OpV.call (ec rfl (ec rfl (ec rfl e0))) ca_64 (fun w hs => w_spec_l01In e1_10)) ?_
  refine sp (OpV.not rfl) ?_
  refine hkz2 _ ?_ ?_
  exact rfl
  repeat (first | exact Sub.refl _ | refine Sub.skip rfl ?_)
 case az2 => exact rfl
 case bz2 => exact rfl
 case cz2 => exact rfl
 case dz2 => exact rfl
 refine WL.nil (En.next ?_)
 refine WC.cond rfl ?_ ?_
 ·
  intro hc_1
  replace h := ifO_t hc_1 h
  refine WC.sr ?_
  refine ag ?_
  refine ag ?_
  refine WL.nil (En.next (WC.ret (En.then_ret ?_)))
  refine En.ret2 rfl (Res.tmp rfl) (Res.tmp rfl) ?_
  obtain rfl := Option.some.inj h
  intro w' hs
  exact ⟨rfl, hs.below⟩
 ·
  intro hc_1
  replace h := ifO_f hc_1 h
  refine WC.skip (En.next (WC.seq (WC.sr ?_)))
  refine mv ?_
  refine sp (OpV.remR rfl rfl rfl) ?_
  refine sp (OpV.eql rfl rfl) ?_
  refine WL.nil (En.next ?_)
  refine WC.cond rfl ?_ ?_
  ·
   intro hc_2
   replace h := ifO_t hc_2 h
   refine WC.sr ?_
   refine mv ?_
   refine mv ?_
   refine ag ?_
   refine ag ?_
   refine WL.nil (En.next (WC.ret (En.then_ret ?_)))
   refine En.ret2 rfl (Res.tmp rfl) (Res.tmp rfl) ?_
   obtain rfl := Option.some.inj h
   intro w' hs
   exact ⟨rfl, hs.below⟩
  ·
   intro hc_2
   replace h := ifO_f hc_2 h
   refine WC.skip (En.next (WC.sr ?_))
   refine mv ?_
   refine mv ?_
   refine ag ?_
   refine ag ?_
   refine WL.nil (En.next (WC.ret ?_))
   refine En.ret2 rfl (Res.tmp rfl) (Res.tmp rfl) ?_
   obtain rfl := Option.some.inj h
   intro w' hs
   exact ⟨rfl, hs.below⟩

theorem w_spec_OrientPoint {a_p0 : Int} {a_p1 : Int} {a_p2 : Int} {a_p3 : Int} {a_p4 : Int} {r : Int × Int}  (h : spec_OrientPoint a_p0 a_p1 a_p2 a_p3 a_p4 = some r) {w : World}    :
    Calls Tryz.prog 156 #[.int .i64 a_p0, .int .i64 a_p1, .int .i64 a_p2, .int .i64 a_p3, .int .i64 a_p4] w (fun en w' => en = .returned (.tuple #[.int .i64 r.1, .int .i64 r.2]) ∧ Ext w w') := by
 unfold spec_OrientPoint at h
 refine enter (vs := [_, _, _, _, _]) Tryz.func156 rfl rfl rfl rfl ?_
 refine WC.sr ?_
 refine ag ?_
 refine ag ?_
 refine WL.nil (En.next (WC.seq (WC.seq ?_)))
 obtain ⟨x1_1, e1_1, h⟩ := bnd h
 obtain ⟨q1_7, e1_7, h⟩ := bnd h
 obtain ⟨q1_12, e1_12, h⟩ := bnd h
 obtain ⟨q1_19, e1_19, h⟩ := bnd h
 obtain ⟨q1_26, e1_26, h⟩ := bnd h
 refine WC.region ?_
 refine mv ?_
 refine sp (OpV.call (ec rfl (ec rfl (ec rfl e0))) ca_64 (fun w hs => w_spec_l01In e1_1)) ?_
 refine sp (OpV.not rfl) ?_
 refine mv ?_
 refine Lt.ofWL.orQ 18 22 21 (p := ?pz1) (rest := ?qz1) (B := q1_7) rfl (fun hz => orO_t e1_7 hz) ?Tz1 ?Fz1 ?az1 ?bz1 ?cz1 ?dz1 ?ez1
 case Tz1 =>
  intro hcz1 hkz1
  refine sk ?_
  refine sk ?_
  refine sk ?_
  refine hkz1 _ ?_
  repeat (first | exact Sub.refl _ | refine Sub.skip rfl ?_)
 case Fz1 =>
  intro hcz1 hkz1
  have hqz1 := orO_f e1_7 hcz1
  obtain ⟨x1_5, e1_5, hqz1⟩ := bnd hqz1
  obtain rfl := Option.some.inj hqz1
  refine mv ?_
  refine sp (OpV.call (ec rfl (ec rfl (ec rfl e0))) ca_64 (fun w hs => w_spec_l01In e1_5)) ?_
  refine sp (OpV.not rfl) ?_
  refine hkz1 _ ?_ ?_
  exact rfl
  repeat (first | exact Sub.refl _ | refine Sub.skip rfl ?_)
 case az1 => exact rfl
 case bz1 => exact rfl
 case cz1 => exact rfl
 case dz1 => exact rfl
 refine mv ?_
 refine Lt.ofWL.orQ 23 27 26 (p := ?pz2) (rest := ?qz2) (B := q1_12) rfl (fun hz => orO_t e1_12 hz) ?Tz2 ?Fz2 ?az2 ?bz2 ?cz2 ?dz2 ?ez2
 case Tz2 =>
  intro hcz2 hkz2
  refine sk ?_
  refine sk ?_
  refine sk ?_
  refine hkz2 _ ?_
  repeat (first | exact Sub.refl _ | refine Sub.skip rfl ?_)
 case Fz2 =>
  intro hcz2 hkz2
  have hqz2 := orO_f e1_12 hcz2
  obtain ⟨x1_10, e1_10, hqz2⟩ := bnd hqz2
  obtain rfl := Option.some.inj hqz2
  refine mv ?_
  refine sp (OpV.call (ec rfl (ec rfl (ec rfl e0))) ca_64 (fun w hs => w_spec_l01In e1_10)) ?_
  refine sp (OpV.not rfl) ?_
  refine hkz2 _ ?_ ?_
  exact rfl
  repeat (first | exact Sub.refl _ | refine Sub.skip rfl ?_)
 case az2 => exact rfl
 case bz2 => exact rfl
 case cz2 => exact rfl
 case dz2 => exact rfl
 refine mv ?_
 refine Lt.ofWL.orQ 28 34 33 (p := ?pz3) (rest := ?qz3) (B := q1_19) rfl (fun hz => orO_t e1_19 hz) ?Tz3 ?Fz3 ?az3 ?bz3 ?cz3 ?dz3 ?ez3
 case Tz3 =>
  intro hcz3 hkz3
  refine sk ?_
  refine sk ?_
  refine sk ?_
  refine sk ?_
  refine sk ?_
  refine hkz3 _ ?_
  repeat (first | exact Sub.refl _ | refine Sub.skip rfl ?_)
 case Fz3 =>
  intro hcz3 hkz3
  have hqz3 := orO_f e1_19 hcz3
  obtain ⟨x1_17, e1_17, hqz3⟩ := bnd hqz3
  obtain rfl := Option.some.inj hqz3
  refine mv ?_
  refine mv ?_
  refine sp (OpV.subR rfl rfl) ?_
  refine sp (OpV.call (ec rfl (ec rfl (ec rfl e0))) ca_64 (fun w hs => w_spec_l01In e1_17)) ?_
  refine sp (OpV.not rfl) ?_
  refine hkz3 _ ?_ ?_
  exact rfl
  repeat (first | exact Sub.refl _ | refine Sub.skip rfl ?_)
 case az3 => exact rfl
 case bz3 => exact rfl
 case cz3 => exact rfl
 case dz3 => exact rfl
 refine mv ?_
 refine Lt.ofWL.orQ 35 41 40 (p := ?pz4) (rest := ?qz4) (B := q1_26) rfl (fun hz => orO_t e1_26 hz) ?Tz4 ?Fz4 ?az4 ?bz4 ?cz4 ?dz4 ?ez4
 case Tz4 =>
  intro hcz4 hkz4
  refine sk ?_
  refine sk ?_
  refine sk ?_
  refine sk ?_
  refine sk ?_
  refine hkz4 _ ?_
  repeat (first | exact Sub.refl _ | refine Sub.skip rfl ?_)
 case Fz4 =>
  intro hcz4 hkz4
  have hqz4 := orO_f e1_26 hcz4
  obtain ⟨x1_24, e1_24, hqz4⟩ := bnd hqz4
  obtain rfl := Option.some.inj hqz4
  refine mv ?_
  refine mv ?_
  refine sp (OpV.subR rfl rfl) ?_
  refine sp (OpV.call (ec rfl (ec rfl (ec rfl e0))) ca_64 (fun w hs => w_spec_l01In e1_24)) ?_
  refine sp (OpV.not rfl) ?_
  refine hkz4 _ ?_ ?_
  exact rfl
  repeat (first | exact Sub.refl _ | refine Sub.skip rfl ?_)
 case az4 => exact rfl
 case bz4 => exact rfl
 case cz4 => exact rfl
 case dz4 => exact rfl
 refine WL.nil (En.next ?_)
 refine WC.cond rfl ?_ ?_
 ·
  intro hc_1
  replace h := ifO_t hc_1 h
  refine WC.sr ?_
  refine ag ?_
  refine ag ?_
  refine WL.nil (En.next (WC.ret (En.then_ret ?_)))
  refine En.ret2 rfl (Res.tmp rfl) (Res.tmp rfl) ?_
  obtain rfl := Option.some.inj h
  intro w' hs
  exact ⟨rfl, hs.below⟩
 ·
  intro hc_1
  replace h := ifO_f hc_1 h
  refine WC.skip (En.next (WC.seq (WC.sr ?_)))
  refine mv ?_
  refine sp (OpV.geq rfl rfl) ?_
  refine WL.nil (En.next ?_)
  refine WC.cond rfl ?_ ?_
  ·
   intro hc_2
   replace h := ifO_t hc_2 h
   refine WC.region ?_
   refine mv ?_
   refine sp (OpV.subR rfl rfl) ?_
   refine mv ?_
   refine sp (OpV.subR rfl rfl) ?_
   refine ag ?_
   refine WL.nil (En.next (WC.seq (WC.sr ?_)))
   refine ag ?_
   refine WL.nil (En.next (WC.block ?_))
   obtain ⟨zy0, ezy0, h⟩ := bnd h
   refine WC.cut (X := (Int × Int) × (Unit)) (.exit 0) (fun x => zy0 = x.1) (fun x => match x with | ((v_0e, v1_0e), ()) => [(3, .int .i64 v_0e), (4, .int .i64 v1_0e)]) (fun x => match x with | ((v_0e, v1_0e), ()) => []) ?_ ?_
   ·
    rintro ⟨⟨v_0e, v1_0e⟩, ⟨⟩⟩ hx
    replace hx : (v_0e, v1_0e) = zy0 := hx.symm
    subst hx
    show En _ _ _ _ [(3, .int .i64 v_0e), (4, .int .i64 v1_0e)] []
    refine En.block_exit (En.next (WC.sr ?_))
    refine mv ?_
    refine mv ?_
    refine ag ?_
    refine ag ?_
    refine WL.nil (En.next (WC.ret ?_))
    refine En.ret2 rfl (Res.tmp rfl) (Res.tmp rfl) ?_
    obtain rfl := Option.some.inj h
    intro w' hs
    exact ⟨rfl, hs.below⟩
   ·
    intro zK0_0
    refine WC.loopP (G := Unit) (fun s g => match s, g with | (v_0, v1_0, v2_0, v3_0, v4_0), () => [(0, .int .i64 v_0), (1, .int .i64 v1_0), (2, .int .i64 a_p2), (3, .int .i64 v2_0), (4, .int .i64 v3_0), (12, .int .i64 v4_0)]) (fun s g => match s, g with | (v_0, v1_0, v2_0, v3_0, v4_0), () => []) (a_p0, a_p1, (wr ((wr (a_p0 - 1)) - a_p3)), a_p4, 0) () ezy0 (by exact sc (sc (sc (sc (sc (sc sn)))))) (by exact (fun _ h => h)) ?_
    rintro zm0 ⟨v_0, v1_0, v2_0, v3_0, v4_0⟩ ⟨⟩ zo0 zf0 zb0 ze0
    have zh0 : spec_OrientPoint_L0 a_p2 v_0 v1_0 v2_0 v3_0 v4_0 = some zo0 := zf0
    unfold spec_OrientPoint_L0 at zh0
    show WC _ _ _ _ _ [(0, .int .i64 v_0), (1, .int .i64 v1_0), (2, .int .i64 a_p2), (3, .int .i64 v2_0), (4, .int .i64 v3_0), (12, .int .i64 v4_0)] []
    refine WC.seq (WC.sr ?_)
    refine mv ?_
    refine mv ?_
    refine sp (OpV.remR rfl rfl rfl) ?_
    refine sp (OpV.lss rfl rfl) ?_
    refine WL.nil (En.next ?_)
    refine WC.cond rfl ?_ ?_
    ·
     intro hc_3
     replace zh0 := ifO_t hc_3 zh0
     refine WC.skip (En.next (WC.seq (WC.block (WC.sr ?_))))
     refine mv ?_
     refine sp (OpV.subR rfl rfl) ?_
     refine mv ?_
     refine sp (OpV.subR rfl rfl) ?_
     refine ag ?_
     refine WL.nil (En.next (WC.sr ?_))
     refine mv ?_
     refine ag ?_
     refine WL.nil (En.next (WC.sr ?_))
     refine mv ?_
     refine ag ?_
     refine WL.nil (En.next (WC.sr ?_))
     refine mv ?_
     refine ag ?_
     refine WL.nil (En.next (WC.sr ?_))
     refine mv ?_
     refine ag ?_
     refine WL.nil (En.next (WC.region ?_))
     refine mv ?_
     refine ag ?_
     refine WL.nil (En.block_norm (En.next (WC.region ?_)))
     refine mv ?_
     refine sp (OpV.addR rfl rfl) ?_
     refine ag ?_
     refine WL.nil ?_
     exact En.backP zb0 zh0 () (sc (sc (sc (sc (sc (sc sn)))))) (fun _ h => h)
    ·
     intro hc_3
     replace zh0 := ifO_f hc_3 zh0
     refine WC.exit (En.then_exit (En.then_exit ?_))
     have hx := exitP ze0 zh0
     exact En.wk _ _ (sc (sc sn)) (fun _ h => h) (zK0_0 ((v2_0, v3_0), ()) hx.symm)
  ·
   intro hc_2
   replace h := ifO_f hc_2 h
   refine WC.skip (En.next (WC.seq (WC.sr ?_)))
   refine ag ?_
   refine WL.nil (En.next (WC.block ?_))
   obtain ⟨zy1, ezy1, h⟩ := bnd h
   refine WC.cut (X := (Int × Int) × (Unit)) (.exit 0) (fun x => zy1 = x.1) (fun x => match x with | ((v_1e, v1_1e), ()) => [(3, .int .i64 v_1e), (4, .int .i64 v1_1e)]) (fun x => match x with | ((v_1e, v1_1e), ()) => []) ?_ ?_
   ·
    rintro ⟨⟨v_1e, v1_1e⟩, ⟨⟩⟩ hx
    replace hx : (v_1e, v1_1e) = zy1 := hx.symm
    subst hx
    show En _ _ _ _ [(3, .int .i64 v_1e), (4, .int .i64 v1_1e)] []
    refine En.block_exit (En.next (WC.sr ?_))
    refine mv ?_
    refine mv ?_
    refine ag ?_
    refine ag ?_
    refine WL.nil (En.next (WC.ret ?_))
    refine En.ret2 rfl (Res.tmp rfl) (Res.tmp rfl) ?_
    obtain rfl := Option.some.inj h
    intro w' hs
    exact ⟨rfl, hs.below⟩
   ·
    intro zK1_0
    refine WC.loopP (G := Unit) (fun s g => match s, g with | (v_1, v1_1, v2_1, v3_1, v4_1), () => [(0, .int .i64 v_1), (1, .int .i64 v1_1), (2, .int .i64 a_p2), (3, .int .i64 v2_1), (4, .int .i64 v3_1), (12, .int .i64 v4_1)]) (fun s g => match s, g with | (v_1, v1_1, v2_1, v3_1, v4_1), () => []) (a_p0, a_p1, a_p3, a_p4, 0) () ezy1 (by exact sc (sc (sc (sc (sc (sc sn)))))) (by exact (fun _ h => h)) ?_
    rintro zm1 ⟨v_1, v1_1, v2_1, v3_1, v4_1⟩ ⟨⟩ zo1 zf1 zb1 ze1
    have zh1 : spec_OrientPoint_L1 a_p2 v_1 v1_1 v2_1 v3_1 v4_1 = some zo1 := zf1
    unfold spec_OrientPoint_L1 at zh1
    show WC _ _ _ _ _ [(0, .int .i64 v_1), (1, .int .i64 v1_1), (2, .int .i64 a_p2), (3, .int .i64 v2_1), (4, .int .i64 v3_1), (12, .int .i64 v4_1)] []
    refine WC.seq (WC.sr ?_)
    refine mv ?_
    refine mv ?_
    refine sp (OpV.remR rfl rfl rfl) ?_
    refine sp (OpV.lss rfl rfl) ?_
    refine WL.nil (En.next ?_)
    refine WC.cond rfl ?_ ?_
    ·
     intro hc_4
     replace zh1 := ifO_t hc_4 zh1
     refine WC.skip (En.next (WC.seq (WC.block (WC.sr ?_))))
     refine mv ?_
     refine sp (OpV.subR rfl rfl) ?_
     refine mv ?_
     refine sp (OpV.subR rfl rfl) ?_
     refine ag ?_
     refine WL.nil (En.next (WC.sr ?_))
     refine mv ?_
     refine ag ?_
     refine WL.nil (En.next (WC.sr ?_))
     refine mv ?_
     refine ag ?_
     refine WL.nil (En.next (WC.sr ?_))
     refine mv ?_
     refine ag ?_
     refine WL.nil (En.next (WC.sr ?_))
     refine mv ?_
     refine ag ?_
     refine WL.nil (En.next (WC.region ?_))
     refine mv ?_
     refine ag ?_
     refine WL.nil (En.block_norm (En.next (WC.region ?_)))
     refine mv ?_
     refine sp (OpV.addR rfl rfl) ?_
     refine ag ?_
     refine WL.nil ?_
     exact En.backP zb1 zh1 () (sc (sc (sc (sc (sc (sc sn)))))) (fun _ h => h)
    ·
     intro hc_4
     replace zh1 := ifO_f hc_4 zh1
     refine WC.exit (En.then_exit (En.then_exit ?_))
     have hx := exitP ze1 zh1
     exact En.wk _ _ (sc (sc sn)) (fun _ h => h) (zK1_0 ((v2_1, v3_1), ()) hx.symm)

theorem w_spec_Oriented {a_p0 : ImageT} {a_p1 : Int} {r : ImageT} {q0_0 : Option Addr} {l0_0 k0_0 : Nat} (h : spec_Oriented a_p0 a_p1 = some r) {w : World} (r0_0 : Rd tInt w q0_0 l0_0 k0_0 a_p0.Data)   :
    Calls Tryz.prog 138 #[.agg #[.int .i64 a_p0.W, .int .i64 a_p0.H, .slice q0_0 l0_0 k0_0], .int .i64 a_p1] w (fun en w' => ∃ rv G, en = .returned rv ∧ (∃ (a0_0 : Option Addr) (n0_0 : Nat) (c0_0 : Nat) (f0_0 : List Nat), rv = .agg #[.int .i64 r.W, .int .i64 r.H, .slice a0_0 n0_0 c0_0] ∧ G = [Chunk.own tInt f0_0 a0_0 n0_0 c0_0 r.Data]) ∧ St w G w') := by
 obtain rfl := r0_0.1
 unfold spec_Oriented at h
 refine enter (vs := [_, _]) Tryz.func138 rfl rfl rfl rfl ?_
 refine WC.sr ?_
 refine WL.heavy rfl rfl rfl (OpH.box rfl rfl ?_)
 intro b0_0
 refine WL.heavy rfl rfl rfl (OpH.alloc zc_107 ?_)
 intro b0_1
 refine WL.nil (En.next (WC.seq (WC.seq ?_)))
 obtain ⟨x1_1, e1_1, h⟩ := bnd h
 obtain ⟨q1_7, e1_7, h⟩ := bnd h
 refine WC.region ?_
 refine sp (OpV.loadAll rfl mq1 ag_107) ?_
 refine sp (OpV.call (ec rfl e0) ca_133 (fun w hs => w_spec_ImageOk e1_1 (r0_0.ext hs.below))) ?_
 refine sp (OpV.not rfl) ?_
 refine mv ?_
 refine Lt.ofWL.orQ 15 19 18 (p := ?pz1) (rest := ?qz1) (B := q1_7) rfl (fun hz => orO_t e1_7 hz) ?Tz1 ?Fz1 ?az1 ?bz1 ?cz1 ?dz1 ?ez1
 case Tz1 =>
  intro hcz1 hkz1
  refine sk ?_
  refine sk ?_
  refine sk ?_
  refine hkz1 _ ?_
  repeat (first | exact Sub.refl _ | refine Sub.skip rfl ?_)
 case Fz1 =>
  intro hcz1 hkz1
  have hqz1 := orO_f e1_7 hcz1
  obtain ⟨x1_5, e1_5, hqz1⟩ := bnd hqz1
  obtain rfl := Option.some.inj hqz1
  refine mv ?_
  refine sp (OpV.call (ec rfl (ec rfl (ec rfl e0))) ca_64 (fun w hs => w_spec_l01In e1_5)) ?_
  refine sp (OpV.not rfl) ?_
  refine hkz1 _ ?_ ?_
  exact rfl
  repeat (first | exact Sub.refl _ | refine Sub.skip rfl ?_)
 case az1 => exact rfl
 case bz1 => exact rfl
 case cz1 => exact rfl
 case dz1 => exact rfl
 refine WL.nil (En.next ?_)
 refine WC.cond rfl ?_ ?_
 ·
  intro hc_1
  replace h := ifO_t hc_1 h
  refine WC.sr ?_
  refine sp (OpV.build (evps.nil) bd_107_) ?_
  refine WL.heavy0 rfl rfl (OpH.storeTo (A := []) [_, _, _] rfl rfl rfl ts_107 rfl rfl rfl ?_)
  refine WL.nil (En.next (WC.ret (En.then_ret ?_)))
  refine En.ret1 rfl (Res.cell rfl mq0 ag_107) ?_
  obtain rfl := Option.some.inj h
  intro w' hs
  have hs := ((hs).ownNil (A := tInt)).sub (.cons_cons _ (.cons _ (.cons _ (.slnil))))
  exact ⟨_, _, rfl, ⟨.none, 0, 0, [], rfl, rfl⟩, hs⟩
 ·
  intro hc_1
  replace h := ifO_f hc_1 h
  refine WC.skip (En.next (WC.seq ?_))
  obtain ⟨⟨x3_5a, x3_5b⟩, e3_5, h⟩ := bnd h
  refine WC.region ?_
  refine sp (OpV.fieldAddr rfl fo_107_0) ?_
  refine sp (OpV.loadBox rfl pt_3 mq1 rfl) ?_
  refine sp (OpV.fieldAddr rfl fo_107_1) ?_
  refine sp (OpV.loadBox rfl pt_3 mq1 rfl) ?_
  refine mv ?_
  refine sp (OpV.call (ec rfl (ec rfl (ec rfl e0))) ca_155 (fun w hs => w_spec_OrientSize e3_5)) ?_
  refine mv ?_
  refine sp (OpV.extract rfl rfl) ?_
  refine sp (OpV.extract rfl rfl) ?_
  refine ag ?_
  refine ag ?_
  refine WL.nil (En.next (WC.seq ?_))
  obtain ⟨x4_5, e4_5, h⟩ := bnd h
  refine WC.region ?_
  refine mv ?_
  refine mv ?_
  refine mv ?_
  refine mv ?_
  refine sp (OpV.mulR rfl rfl) ?_
  refine WL.heavy rfl rfl rfl (OpH.makeO (A := tInt) rfl rfl mi_23 (fun w => tInt_flat.ow w 0) (by decide) e4_5 ⟨Int.le_refl _, (mkO_some e4_5).1.2⟩ ?_)
  intro b4_5
  refine sp (OpV.build (evps.cons rfl (evps.cons rfl (evps.cons rfl (evps.nil)))) (bd_107_0_1_2 _ _ _ _ _)) ?_
  refine WL.heavy rfl rfl rfl (OpH.alloc zc_107 ?_)
  intro b4_7
  refine WL.heavy0 rfl rfl (OpH.storeTo (A := []) [_, _, _] rfl rfl rfl ts_107 rfl rfl rfl ?_)
  refine WL.nil (En.next (WC.seq (WC.sr ?_)))
  refine ag ?_
  refine WL.nil (En.next (WC.block ?_))
  obtain ⟨zy0, ezy0, h⟩ := bnd h
  refine WC.cut (X := ((List Int)) × ((List Nat))) (.exit 0) (fun x => zy0 = x.1) (fun x => match x with | (x_0e, fx_0e) => [(4, .pointer (some ⟨b0_1, 0, .none⟩)), (7, .pointer (some ⟨b4_7, 0, .none⟩))]) (fun x => match x with | (x_0e, fx_0e) => [Chunk.box b0_1 107 [.int .i64 0, .int .i64 0, .slice .none 0 0], Chunk.box b4_7 107 [.int .i64 x3_5a, .int .i64 x3_5b, .slice (some ⟨b4_5, 0, .none⟩) x4_5.length ((wr (x3_5a * x3_5b)).toNat)], Chunk.own tInt fx_0e (some ⟨b4_5, 0, .none⟩) x4_5.length ((wr (x3_5a * x3_5b)).toNat) x_0e]) ?_ ?_
  ·
   rintro ⟨x_0e, fx_0e⟩ hx
   replace hx : x_0e = zy0 := hx.symm
   subst hx
   show En _ _ _ _ [(4, .pointer (some ⟨b0_1, 0, .none⟩)), (7, .pointer (some ⟨b4_7, 0, .none⟩))] [Chunk.box b0_1 107 [.int .i64 0, .int .i64 0, .slice .none 0 0], Chunk.box b4_7 107 [.int .i64 x3_5a, .int .i64 x3_5b, .slice (some ⟨b4_5, 0, .none⟩) x4_5.length ((wr (x3_5a * x3_5b)).toNat)], Chunk.own tInt fx_0e (some ⟨b4_5, 0, .none⟩) x4_5.length ((wr (x3_5a * x3_5b)).toNat) x_0e]
   refine En.block_exit (En.next (WC.sr ?_))
   refine sp (OpV.loadAll rfl mq1 ag_107) ?_
   refine WL.heavy0 rfl rfl (OpH.storeTo (A := []) [_, _, _] rfl rfl rfl ts_107 rfl rfl rfl ?_)
   refine WL.nil (En.next (WC.ret ?_))
   refine En.ret1 rfl (Res.cell rfl mq0 ag_107) ?_
   obtain rfl := Option.some.inj h
   intro w' hs
   have hs := ((hs).pm 2).sub (.cons_cons _ (.cons _ (.cons _ (.slnil))))
   exact ⟨_, _, rfl, ⟨(some ⟨b4_5, 0, .none⟩), x4_5.length, ((wr (x3_5a * x3_5b)).toNat), fx_0e, rfl, rfl⟩, hs⟩
  ·
   intro zK0_0
   refine WC.loopP (G := (List Nat)) (fun s g => match s, g with | (x_0, v_0), fx_0 => [(1, .int .i64 a_p1), (2, .pointer (some ⟨b0_0, 0, .none⟩)), (4, .pointer (some ⟨b0_1, 0, .none⟩)), (5, .int .i64 x3_5a), (7, .pointer (some ⟨b4_7, 0, .none⟩)), (8, .int .i64 v_0)]) (fun s g => match s, g with | (x_0, v_0), fx_0 => [Chunk.box b0_0 107 [.int .i64 a_p0.W, .int .i64 a_p0.H, .slice q0_0 a_p0.Data.length k0_0], Chunk.box b0_1 107 [.int .i64 0, .int .i64 0, .slice .none 0 0], Chunk.box b4_7 107 [.int .i64 x3_5a, .int .i64 x3_5b, .slice (some ⟨b4_5, 0, .none⟩) x4_5.length ((wr (x3_5a * x3_5b)).toNat)], Chunk.own tInt fx_0 (some ⟨b4_5, 0, .none⟩) x4_5.length ((wr (x3_5a * x3_5b)).toNat) x_0]) (x4_5, 0) [b4_5] ezy0 (by exact sc (sc (sc (sc (sc (sc sn)))))) (by exact (fun _ h => ((((h).pm 1).pm 1).pm 2).pm 3)) ?_
   rintro zm0 ⟨x_0, v_0⟩ fx_0 zo0 zf0 zb0 ze0
   have zh0 : spec_Oriented_L0 a_p0 a_p1 x3_5a x_0 v_0 = some zo0 := zf0
   unfold spec_Oriented_L0 at zh0
   show WC _ _ _ _ _ [(1, .int .i64 a_p1), (2, .pointer (some ⟨b0_0, 0, .none⟩)), (4, .pointer (some ⟨b0_1, 0, .none⟩)), (5, .int .i64 x3_5a), (7, .pointer (some ⟨b4_7, 0, .none⟩)), (8, .int .i64 v_0)] [Chunk.box b0_0 107 [.int .i64 a_p0.W, .int .i64 a_p0.H, .slice q0_0 a_p0.Data.length k0_0], Chunk.box b0_1 107 [.int .i64 0, .int .i64 0, .slice .none 0 0], Chunk.box b4_7 107 [.int .i64 x3_5a, .int .i64 x3_5b, .slice (some ⟨b4_5, 0, .none⟩) x4_5.length ((wr (x3_5a * x3_5b)).toNat)], Chunk.own tInt fx_0 (some ⟨b4_5, 0, .none⟩) x4_5.length ((wr (x3_5a * x3_5b)).toNat) x_0]
   refine WC.seq (WC.sr ?_)
   refine mv ?_
   refine sp (OpV.fieldAddr rfl fo_107_1) ?_
   refine sp (OpV.loadBox rfl pt_3 mq0 rfl) ?_
   refine sp (OpV.lss rfl rfl) ?_
   refine WL.nil (En.next ?_)
   refine WC.cond rfl ?_ ?_
   ·
    intro hc_2
    replace zh0 := ifO_t hc_2 zh0
    refine WC.skip (En.next (WC.seq (WC.block (WC.sr ?_))))
    refine ag ?_
    refine WL.nil (En.next (WC.block ?_))
    obtain ⟨zy1, ezy1, zh0⟩ := bnd zh0
    refine WC.cut (X := ((List Int)) × ((List Nat))) (.exit 2) (fun x => zy1 = x.1) (fun x => match x with | (x_1e, fx_1e) => [(1, .int .i64 a_p1), (2, .pointer (some ⟨b0_0, 0, .none⟩)), (4, .pointer (some ⟨b0_1, 0, .none⟩)), (5, .int .i64 x3_5a), (7, .pointer (some ⟨b4_7, 0, .none⟩)), (8, .int .i64 v_0)]) (fun x => match x with | (x_1e, fx_1e) => [Chunk.box b0_0 107 [.int .i64 a_p0.W, .int .i64 a_p0.H, .slice q0_0 a_p0.Data.length k0_0], Chunk.box b0_1 107 [.int .i64 0, .int .i64 0, .slice .none 0 0], Chunk.box b4_7 107 [.int .i64 x3_5a, .int .i64 x3_5b, .slice (some ⟨b4_5, 0, .none⟩) x4_5.length ((wr (x3_5a * x3_5b)).toNat)], Chunk.own tInt fx_1e (some ⟨b4_5, 0, .none⟩) x4_5.length ((wr (x3_5a * x3_5b)).toNat) x_1e]) ?_ ?_
    ·
     rintro ⟨x_1e, fx_1e⟩ hx
     replace hx : x_1e = zy1 := hx.symm
     subst hx
     show En _ _ _ _ [(1, .int .i64 a_p1), (2, .pointer (some ⟨b0_0, 0, .none⟩)), (4, .pointer (some ⟨b0_1, 0, .none⟩)), (5, .int .i64 x3_5a), (7, .pointer (some ⟨b4_7, 0, .none⟩)), (8, .int .i64 v_0)] [Chunk.box b0_0 107 [.int .i64 a_p0.W, .int .i64 a_p0.H, .slice q0_0 a_p0.Data.length k0_0], Chunk.box b0_1 107 [.int .i64 0, .int .i64 0, .slice .none 0 0], Chunk.box b4_7 107 [.int .i64 x3_5a, .int .i64 x3_5b, .slice (some ⟨b4_5, 0, .none⟩) x4_5.length ((wr (x3_5a * x3_5b)).toNat)], Chunk.own tInt fx_1e (some ⟨b4_5, 0, .none⟩) x4_5.length ((wr (x3_5a * x3_5b)).toNat) x_1e]
     refine En.block_exit (En.block_norm (En.next (WC.region ?_)))
     refine mv ?_
     refine sp (OpV.addR rfl rfl) ?_
     refine ag ?_
     refine WL.nil ?_
     exact En.backP zb0 zh0 fx_1e (sc (sc (sc (sc (sc (sc sn)))))) (fun _ h => h)
    ·
     intro zK1_0
     refine WC.loopP (G := (List Nat)) (fun s g => match s, g with | (x_1, v_1), fx_1 => [(1, .int .i64 a_p1), (2, .pointer (some ⟨b0_0, 0, .none⟩)), (4, .pointer (some ⟨b0_1, 0, .none⟩)), (5, .int .i64 x3_5a), (7, .pointer (some ⟨b4_7, 0, .none⟩)), (8, .int .i64 v_0), (9, .int .i64 v_1)]) (fun s g => match s, g with | (x_1, v_1), fx_1 => [Chunk.box b0_0 107 [.int .i64 a_p0.W, .int .i64 a_p0.H, .slice q0_0 a_p0.Data.length k0_0], Chunk.box b0_1 107 [.int .i64 0, .int .i64 0, .slice .none 0 0], Chunk.box b4_7 107 [.int .i64 x3_5a, .int .i64 x3_5b, .slice (some ⟨b4_5, 0, .none⟩) x4_5.length ((wr (x3_5a * x3_5b)).toNat)], Chunk.own tInt fx_1 (some ⟨b4_5, 0, .none⟩) x4_5.length ((wr (x3_5a * x3_5b)).toNat) x_1]) (x_0, 0) fx_0 ezy1 (by exact sc (sc (sc (sc (sc (sc (sc sn))))))) (by exact (fun _ h => h)) ?_
     rintro zm1 ⟨x_1, v_1⟩ fx_1 zo1 zf1 zb1 ze1
     have zh1 : spec_Oriented_L1 a_p0 a_p1 x3_5a v_0 x_1 v_1 = some zo1 := zf1
     unfold spec_Oriented_L1 at zh1
     show WC _ _ _ _ _ [(1, .int .i64 a_p1), (2, .pointer (some ⟨b0_0, 0, .none⟩)), (4, .pointer (some ⟨b0_1, 0, .none⟩)), (5, .int .i64 x3_5a), (7, .pointer (some ⟨b4_7, 0, .none⟩)), (8, .int .i64 v_0), (9, .int .i64 v_1)] [Chunk.box b0_0 107 [.int .i64 a_p0.W, .int .i64 a_p0.H, .slice q0_0 a_p0.Data.length k0_0], Chunk.box b0_1 107 [.int .i64 0, .int .i64 0, .slice .none 0 0], Chunk.box b4_7 107 [.int .i64 x3_5a, .int .i64 x3_5b, .slice (some ⟨b4_5, 0, .none⟩) x4_5.length ((wr (x3_5a * x3_5b)).toNat)], Chunk.own tInt fx_1 (some ⟨b4_5, 0, .none⟩) x4_5.length ((wr (x3_5a * x3_5b)).toNat) x_1]
     refine WC.seq (WC.sr ?_)
     refine mv ?_
     refine sp (OpV.fieldAddr rfl fo_107_0) ?_
     refine sp (OpV.loadBox rfl pt_3 mq0 rfl) ?_
     refine sp (OpV.lss rfl rfl) ?_
     refine WL.nil (En.next ?_)
     refine WC.cond rfl ?_ ?_
     ·
      intro hc_3
      replace zh1 := ifO_t hc_3 zh1
      refine WC.skip (En.next (WC.seq (WC.block (WC.seq ?_))))
      obtain ⟨⟨x11_7a, x11_7b⟩, e11_7, zh1⟩ := bnd zh1
      refine WC.region ?_
      refine sp (OpV.fieldAddr rfl fo_107_0) ?_
      refine sp (OpV.loadBox rfl pt_3 mq0 rfl) ?_
      refine sp (OpV.fieldAddr rfl fo_107_1) ?_
      refine sp (OpV.loadBox rfl pt_3 mq0 rfl) ?_
      refine mv ?_
      refine mv ?_
      refine mv ?_
      refine sp (OpV.call (ec rfl (ec rfl (ec rfl (ec rfl (ec rfl e0))))) ca_156 (fun w hs => w_spec_OrientPoint e11_7)) ?_
      refine mv ?_
      refine sp (OpV.extract rfl rfl) ?_
      refine sp (OpV.extract rfl rfl) ?_
      refine ag ?_
      refine ag ?_
      refine WL.nil (En.next ?_)
      refine WC.inh fun hin12 => ?_
      obtain ⟨x12_15, e12_15, zh1⟩ := bnd zh1
      obtain ⟨g12_15, o12_15, _, ha12_15, rfl, hd12_15⟩ := Rd.atIdx r0_0 e12_15
      replace hd12_15 : ∀ (j : Nat) v, ([.int .i64 x12_15] : List Value)[j]? = some v → w.cell? ⟨g12_15, o12_15 + (wr ((wr (v_0 * a_p0.W)) + v_1)).toNat * 1 + j, .none⟩ = some v := hd12_15
      have hn12_17 := ownLen hin12 mq3
      obtain ⟨x12_18, e12_18, zh1⟩ := bnd zh1
      obtain ⟨g12_17, o12_17, ha12_17⟩ := ownAddrU hin12 mq3 e12_18
      refine WC.wkF (fun _ h => h.pm 3) ?_
      refine WC.drawnH [_] ([_, _, _]) (fun _ h => h) (by kernel_rfl) ?_
      refine tk 0 rfl (OpV.fieldAddr rfl fo_107_2) ?_
      refine tk 1 rfl (OpV.loadBox rfl pt_23 mq2 rfl) ?_
      refine tk 2 rfl (OpV.move rfl) ?_
      refine tk 3 rfl (OpV.move rfl) ?_
      refine tk 4 rfl (OpV.mulR rfl rfl) ?_
      refine tk 5 rfl (OpV.move rfl) ?_
      refine tk 6 rfl (OpV.addR rfl rfl) ?_
      refine tk 7 rfl (OpV.fieldAddr rfl fo_107_2) ?_
      refine tk 8 rfl (OpV.loadBox rfl pt_23 mq0 rfl) ?_
      refine tk 9 rfl (OpV.move rfl) ?_
      refine tk 10 rfl (OpV.fieldAddr rfl fo_107_0) ?_
      refine tk 11 rfl (OpV.loadBox rfl pt_3 mq0 rfl) ?_
      refine tk 12 rfl (OpV.mulR rfl rfl) ?_
      refine tk 13 rfl (OpV.move rfl) ?_
      refine tk 14 rfl (OpV.addR rfl rfl) ?_
      refine tk 15 rfl (OpV.idxA rfl rfl se_23 ha12_15 ⟨(idx_some e12_15).1, (idx_some e12_15).2.1⟩) ?_
      refine tk 16 rfl (OpV.load1 rfl pt_3 (fun w hs => hs.cell (hd12_15 0 _ rfl))) ?_
      refine tk 17 rfl (OpV.idxA rfl rfl se_23 ha12_17 ⟨(upd_some e12_18).1.1, by rw [hn12_17]; exact (upd_some e12_18).1.2⟩) ?_
      refine al0 18 rfl ?_
      refine OpH.wkF (fun _ h => St.elFlat tInt_flat x12_15 h) ?_
      refine OpH.setEl (A := tInt) ha12_17 rfl rfl rfl ts_3 e12_18 ?_
      intro f12_18
      refine ⟨[_], rfl, ?_⟩
      refine WAE.rebase (H := []) ?_
      refine WAE.done (by kernel_rfl) ?_ _
      refine En.block_norm (En.next (WC.region ?_))
      refine mv ?_
      refine sp (OpV.addR rfl rfl) ?_
      refine ag ?_
      refine WL.nil ?_
      exact En.backP zb1 zh1 f12_18 (sc (sc (sc (sc (sc (sc (sc sn))))))) (fun _ h => (((h).pm 3).pm 3).pm 3)
     ·
      intro hc_3
      replace zh1 := ifO_f hc_3 zh1
      refine WC.exit (En.then_exit (En.then_exit ?_))
      have hx := exitP ze1 zh1
      exact En.wk _ _ (sc (sc (sc (sc (sc (sc sn)))))) (fun _ h => h) (zK1_0 (x_1, fx_1) hx.symm)
   ·
    intro hc_2
    replace zh0 := ifO_f hc_2 zh0
    refine WC.exit (En.then_exit (En.then_exit ?_))
    have hx := exitP ze0 zh0
    exact En.wk _ _ (sc (sc sn)) (fun _ h => ((((h).pm 3).pm 3).pm 3).sub (.cons_cons _ (.cons_cons _ (.cons_cons _ (.cons _ (.slnil)))))) (zK0_0 (x_0, fx_0) hx.symm)

theorem w_spec_ScalePoint {from_p0 : Int} {to_p1 : Int} {k_p2 : Int} {r : Int}  (h : spec_ScalePoint from_p0 to_p1 k_p2 = some r) {w : World}    :
    Calls Tryz.prog 157 #[.int .i64 from_p0, .int .i64 to_p1, .int .i64 k_p2] w (fun en w' => en = .returned (.int .i64 r) ∧ Ext w w') := by
 unfold spec_ScalePoint at h
 refine enter (vs := [_, _, _]) Tryz.func157 rfl rfl rfl rfl ?_
 refine WC.sr ?_
 refine ag ?_
 refine WL.nil (En.next (WC.seq (WC.seq ?_)))
 obtain ⟨x1_1, e1_1, h⟩ := bnd h
 obtain ⟨q1_7, e1_7, h⟩ := bnd h
 obtain ⟨q1_14, e1_14, h⟩ := bnd h
 refine WC.region ?_
 refine mv ?_
 refine sp (OpV.call (ec rfl (ec rfl (ec rfl e0))) ca_64 (fun w hs => w_spec_l01In e1_1)) ?_
 refine sp (OpV.not rfl) ?_
 refine mv ?_
 refine Lt.ofWL.orQ 10 14 13 (p := ?pz1) (rest := ?qz1) (B := q1_7) rfl (fun hz => orO_t e1_7 hz) ?Tz1 ?Fz1 ?az1 ?bz1 ?cz1 ?dz1 ?ez1
 case Tz1 =>
  intro hcz1 hkz1
  refine sk ?_
  refine sk ?_
  refine sk ?_
  refine hkz1 _ ?_
  repeat (first | exact Sub.refl _ | refine Sub.skip rfl ?_)
 case Fz1 =>
  intro hcz1 hkz1
  have hqz1 := orO_f e1_7 hcz1
  obtain ⟨x1_5, e1_5, hqz1⟩ := bnd hqz1
  obtain rfl := Option.some.inj hqz1
  refine mv ?_
  refine sp (OpV.call (ec rfl (ec rfl (ec rfl e0))) ca_64 (fun w hs => w_spec_l01In e1_5)) ?_
  refine sp (OpV.not rfl) ?_
  refine hkz1 _ ?_ ?_
  exact rfl
  repeat (first | exact Sub.refl _ | refine Sub.skip rfl ?_)
 case az1 => exact rfl
 case bz1 => exact rfl
 case cz1 => exact rfl
 case dz1 => exact rfl
 refine mv ?_
 refine Lt.ofWL.orQ 15 21 20 (p := ?pz2) (rest := ?qz2) (B := q1_14) rfl (fun hz => orO_t e1_14 hz) ?Tz2 ?Fz2 ?az2 ?bz2 ?cz2 ?dz2 ?ez2
 case Tz2 =>
  intro hcz2 hkz2
  refine sk ?_
  refine sk ?_
  refine sk ?_
  refine sk ?_
  refine sk ?_
  refine hkz2 _ ?_
  repeat (first | exact Sub.refl _ | refine Sub.skip rfl ?_)
 case Fz2 =>
  intro hcz2 hkz2
  have hqz2 := orO_f e1_14 hcz2
  obtain ⟨x1_12, e1_12, hqz2⟩ := bnd hqz2
  obtain rfl := Option.some.inj hqz2
  refine mv ?_
  refine mv ?_
  refine sp (OpV.subR rfl rfl) ?_
  refine sp (OpV.call (ec rfl (ec rfl (ec rfl e0))) ca_64 (fun w hs => w_spec_l01In e1_12)) ?_
  refine sp (OpV.not rfl) ?_
  refine hkz2 _ ?_ ?_
  exact rfl
  repeat (first | exact Sub.refl _ | refine Sub.skip rfl ?_)
 case az2 => exact rfl
 case bz2 => exact rfl
 case cz2 => exact rfl
 case dz2 => exact rfl
 refine WL.nil (En.next ?_)
 refine WC.cond rfl ?_ ?_
 ·
  intro hc_1
  replace h := ifO_t hc_1 h
  refine WC.sr ?_
  refine ag ?_
  refine WL.nil (En.next (WC.ret (En.then_ret ?_)))
  refine En.ret1 rfl (Res.tmp rfl) ?_
  obtain rfl := Option.some.inj h
  intro w' hs
  exact ⟨rfl, hs.below⟩
 ·
  intro hc_1
  replace h := ifO_f hc_1 h
  refine WC.skip (En.next (WC.seq ?_))
  obtain ⟨x3_4, e3_4, h⟩ := bnd h
  refine WC.region ?_
  refine mv ?_
  refine mv ?_
  refine sp (OpV.mulR rfl rfl) ?_
  refine mv ?_
  refine sp (OpV.quoR rfl rfl e3_4) ?_
  refine ag ?_
  refine WL.nil (En.next (WC.ret ?_))
  refine En.ret1 rfl (Res.tmp rfl) ?_
  obtain rfl := Option.some.inj h
  intro w' hs
  exact ⟨rfl, hs.below⟩

theorem w_spec_Scaled {i_p0 : ImageT} {w_p1 : Int} {h_p2 : Int} {r : ImageT} {q0_0 : Option Addr} {l0_0 k0_0 : Nat} (h : spec_Scaled i_p0 w_p1 h_p2 = some r) {w : World} (r0_0 : Rd tInt w q0_0 l0_0 k0_0 i_p0.Data)   :
    Calls Tryz.prog 139 #[.agg #[.int .i64 i_p0.W, .int .i64 i_p0.H, .slice q0_0 l0_0 k0_0], .int .i64 w_p1, .int .i64 h_p2] w (fun en w' => ∃ rv G, en = .returned rv ∧ (∃ (a0_0 : Option Addr) (n0_0 : Nat) (c0_0 : Nat) (f0_0 : List Nat), rv = .agg #[.int .i64 r.W, .int .i64 r.H, .slice a0_0 n0_0 c0_0] ∧ G = [Chunk.own tInt f0_0 a0_0 n0_0 c0_0 r.Data]) ∧ St w G w') := by
 obtain rfl := r0_0.1
 unfold spec_Scaled at h
 refine enter (vs := [_, _, _]) Tryz.func139 rfl rfl rfl rfl ?_
 refine WC.sr ?_
 refine WL.heavy rfl rfl rfl (OpH.box rfl rfl ?_)
 intro b0_0
 refine WL.heavy rfl rfl rfl (OpH.alloc zc_107 ?_)
 intro b0_1
 refine WL.nil (En.next (WC.seq (WC.seq ?_)))
 obtain ⟨x1_1, e1_1, h⟩ := bnd h
 obtain ⟨q1_7, e1_7, h⟩ := bnd h
 obtain ⟨q1_12, e1_12, h⟩ := bnd h
 refine WC.region ?_
 refine sp (OpV.loadAll rfl mq1 ag_107) ?_
 refine sp (OpV.call (ec rfl e0) ca_133 (fun w hs => w_spec_ImageOk e1_1 (r0_0.ext hs.below))) ?_
 refine sp (OpV.not rfl) ?_
 refine mv ?_
 refine Lt.ofWL.orQ 13 17 16 (p := ?pz1) (rest := ?qz1) (B := q1_7) rfl (fun hz => orO_t e1_7 hz) ?Tz1 ?Fz1 ?az1 ?bz1 ?cz1 ?dz1 ?ez1
 case Tz1 =>
  intro hcz1 hkz1
  refine sk ?_
  refine sk ?_
  refine sk ?_
  refine hkz1 _ ?_
  repeat (first | exact Sub.refl _ | refine Sub.skip rfl ?_)
 case Fz1 =>
  intro hcz1 hkz1
  have hqz1 := orO_f e1_7 hcz1
  obtain ⟨x1_5, e1_5, hqz1⟩ := bnd hqz1
  obtain rfl := Option.some.inj hqz1
  refine mv ?_
  refine sp (OpV.call (ec rfl (ec rfl (ec rfl e0))) ca_64 (fun w hs => w_spec_l01In e1_5)) ?_
  refine sp (OpV.not rfl) ?_
  refine hkz1 _ ?_ ?_
  exact rfl
  repeat (first | exact Sub.refl _ | refine Sub.skip rfl ?_)
 case az1 => exact rfl
 case bz1 => exact rfl
 case cz1 => exact rfl
 case dz1 => exact rfl
 refine mv ?_
 refine Lt.ofWL.orQ 18 22 21 (p := ?pz2) (rest := ?qz2) (B := q1_12) rfl (fun hz => orO_t e1_12 hz) ?Tz2 ?Fz2 ?az2 ?bz2 ?cz2 ?dz2 ?ez2
 case Tz2 =>
  intro hcz2 hkz2
  refine sk ?_
  refine sk ?_
  refine sk ?_
  refine hkz2 _ ?_
  repeat (first | exact Sub.refl _ | refine Sub.skip rfl ?_)
 case Fz2 =>
  intro hcz2 hkz2
  have hqz2 := orO_f e1_12 hcz2
  obtain ⟨x1_10, e1_10, hqz2⟩ := bnd hqz2
  obtain rfl := Option.some.inj hqz2
  refine mv ?_
  refine sp (OpV.call (ec rfl (ec rfl (ec rfl e0))) ca_64 (fun w hs => w_spec_l01In e1_10)) ?_
  refine sp (OpV.not rfl) ?_
  refine hkz2 _ ?_ ?_
  exact rfl
  repeat (first | exact Sub.refl _ | refine Sub.skip rfl ?_)
 case az2 => exact rfl
 case bz2 => exact rfl
 case cz2 => exact rfl
 case dz2 => exact rfl
 refine WL.nil (En.next ?_)
 refine WC.cond rfl ?_ ?_
 ·
  intro hc_1
  replace h := ifO_t hc_1 h
  refine WC.sr ?_
  refine sp (OpV.build (evps.nil) bd_107_) ?_
  refine WL.heavy0 rfl rfl (OpH.storeTo (A := []) [_, _, _] rfl rfl rfl ts_107 rfl rfl rfl ?_)
  refine WL.nil (En.next (WC.ret (En.then_ret ?_)))
  refine En.ret1 rfl (Res.cell rfl mq0 ag_107) ?_
  obtain rfl := Option.some.inj h
  intro w' hs
  have hs := ((hs).ownNil (A := tInt)).sub (.cons_cons _ (.cons _ (.cons _ (.slnil))))
  exact ⟨_, _, rfl, ⟨.none, 0, 0, [], rfl, rfl⟩, hs⟩
 ·
  intro hc_1
  replace h := ifO_f hc_1 h
  refine WC.skip (En.next (WC.sr ?_))
  refine mv ?_
  refine mv ?_
  refine sp (OpV.build (evps.cons rfl (evps.cons rfl (evps.nil))) (bd_107_0_1 _ _)) ?_
  refine WL.heavy rfl rfl rfl (OpH.alloc zc_107 ?_)
  intro b3_3
  refine WL.heavy0 rfl rfl (OpH.storeTo (A := []) [_, _, _] rfl rfl rfl ts_107 rfl rfl rfl ?_)
  refine WL.nil (En.next (WC.seq (WC.sr ?_)))
  refine ag ?_
  refine WL.nil (En.next (WC.block ?_))
  obtain ⟨zy0, ezy0, h⟩ := bnd h
  refine WC.cut (X := ((List Int)) × ((Option Addr) × Nat × Nat × (List Nat))) (.exit 0) (fun x => zy0 = x.1) (fun x => match x with | (out_0e, (aout_0e, nout_0e, cout_0e, fout_0e)) => [(6, .pointer (some ⟨b0_1, 0, .none⟩)), (7, .pointer (some ⟨b3_3, 0, .none⟩))]) (fun x => match x with | (out_0e, (aout_0e, nout_0e, cout_0e, fout_0e)) => [Chunk.box b0_1 107 [.int .i64 0, .int .i64 0, .slice .none 0 0], Chunk.box b3_3 107 [.int .i64 w_p1, .int .i64 h_p2, .slice aout_0e nout_0e cout_0e], Chunk.own tInt fout_0e aout_0e nout_0e cout_0e out_0e]) ?_ ?_
  ·
   rintro ⟨out_0e, ⟨aout_0e, nout_0e, cout_0e, fout_0e⟩⟩ hx
   replace hx : out_0e = zy0 := hx.symm
   subst hx
   show En _ _ _ _ [(6, .pointer (some ⟨b0_1, 0, .none⟩)), (7, .pointer (some ⟨b3_3, 0, .none⟩))] [Chunk.box b0_1 107 [.int .i64 0, .int .i64 0, .slice .none 0 0], Chunk.box b3_3 107 [.int .i64 w_p1, .int .i64 h_p2, .slice aout_0e nout_0e cout_0e], Chunk.own tInt fout_0e aout_0e nout_0e cout_0e out_0e]
   refine En.block_exit (En.next (WC.sr ?_))
   refine sp (OpV.loadAll rfl mq1 ag_107) ?_
   refine WL.heavy0 rfl rfl (OpH.storeTo (A := []) [_, _, _] rfl rfl rfl ts_107 rfl rfl rfl ?_)
   refine WL.nil (En.next (WC.ret ?_))
   refine En.ret1 rfl (Res.cell rfl mq0 ag_107) ?_
   obtain rfl := Option.some.inj h
   intro w' hs
   have hs := ((hs).pm 2).sub (.cons_cons _ (.cons _ (.cons _ (.slnil))))
   exact ⟨_, _, rfl, ⟨aout_0e, nout_0e, cout_0e, fout_0e, rfl, rfl⟩, hs⟩
  ·
   intro zK0_0
   refine WC.loopP (G := (Option Addr) × Nat × Nat × (List Nat)) (fun s g => match s, g with | (out_0, y_0), (aout_0, nout_0, cout_0, fout_0) => [(1, .int .i64 w_p1), (2, .int .i64 h_p2), (3, .pointer (some ⟨b0_0, 0, .none⟩)), (6, .pointer (some ⟨b0_1, 0, .none⟩)), (7, .pointer (some ⟨b3_3, 0, .none⟩)), (8, .int .i64 y_0)]) (fun s g => match s, g with | (out_0, y_0), (aout_0, nout_0, cout_0, fout_0) => [Chunk.box b0_0 107 [.int .i64 i_p0.W, .int .i64 i_p0.H, .slice q0_0 i_p0.Data.length k0_0], Chunk.box b0_1 107 [.int .i64 0, .int .i64 0, .slice .none 0 0], Chunk.box b3_3 107 [.int .i64 w_p1, .int .i64 h_p2, .slice aout_0 nout_0 cout_0], Chunk.own tInt fout_0 aout_0 nout_0 cout_0 out_0]) ([], 0) (.none, 0, 0, []) ezy0 (by exact sc (sc (sc (sc (sc (sc sn)))))) (by exact (fun _ h => ((((h).ownNil (A := tInt)).pm 1).pm 2).pm 3)) ?_
   rintro zm0 ⟨out_0, y_0⟩ ⟨aout_0, nout_0, cout_0, fout_0⟩ zo0 zf0 zb0 ze0
   have zh0 : spec_Scaled_L0 i_p0 w_p1 h_p2 out_0 y_0 = some zo0 := zf0
   unfold spec_Scaled_L0 at zh0
   show WC _ _ _ _ _ [(1, .int .i64 w_p1), (2, .int .i64 h_p2), (3, .pointer (some ⟨b0_0, 0, .none⟩)), (6, .pointer (some ⟨b0_1, 0, .none⟩)), (7, .pointer (some ⟨b3_3, 0, .none⟩)), (8, .int .i64 y_0)] [Chunk.box b0_0 107 [.int .i64 i_p0.W, .int .i64 i_p0.H, .slice q0_0 i_p0.Data.length k0_0], Chunk.box b0_1 107 [.int .i64 0, .int .i64 0, .slice .none 0 0], Chunk.box b3_3 107 [.int .i64 w_p1, .int .i64 h_p2, .slice aout_0 nout_0 cout_0], Chunk.own tInt fout_0 aout_0 nout_0 cout_0 out_0]
   refine WC.seq (WC.sr ?_)
   refine mv ?_
   refine mv ?_
   refine sp (OpV.lss rfl rfl) ?_
   refine WL.nil (En.next ?_)
   refine WC.cond rfl ?_ ?_
   ·
    intro hc_2
    replace zh0 := ifO_t hc_2 zh0
    refine WC.skip (En.next (WC.seq (WC.block (WC.sr ?_))))
    refine ag ?_
    refine WL.nil (En.next (WC.block ?_))
    obtain ⟨zy1, ezy1, zh0⟩ := bnd zh0
    refine WC.cut (X := ((List Int)) × ((Option Addr) × Nat × Nat × (List Nat))) (.exit 2) (fun x => zy1 = x.1) (fun x => match x with | (out_1e, (aout_1e, nout_1e, cout_1e, fout_1e)) => [(1, .int .i64 w_p1), (2, .int .i64 h_p2), (3, .pointer (some ⟨b0_0, 0, .none⟩)), (6, .pointer (some ⟨b0_1, 0, .none⟩)), (7, .pointer (some ⟨b3_3, 0, .none⟩)), (8, .int .i64 y_0)]) (fun x => match x with | (out_1e, (aout_1e, nout_1e, cout_1e, fout_1e)) => [Chunk.box b0_0 107 [.int .i64 i_p0.W, .int .i64 i_p0.H, .slice q0_0 i_p0.Data.length k0_0], Chunk.box b0_1 107 [.int .i64 0, .int .i64 0, .slice .none 0 0], Chunk.box b3_3 107 [.int .i64 w_p1, .int .i64 h_p2, .slice aout_1e nout_1e cout_1e], Chunk.own tInt fout_1e aout_1e nout_1e cout_1e out_1e]) ?_ ?_
    ·
     rintro ⟨out_1e, ⟨aout_1e, nout_1e, cout_1e, fout_1e⟩⟩ hx
     replace hx : out_1e = zy1 := hx.symm
     subst hx
     show En _ _ _ _ [(1, .int .i64 w_p1), (2, .int .i64 h_p2), (3, .pointer (some ⟨b0_0, 0, .none⟩)), (6, .pointer (some ⟨b0_1, 0, .none⟩)), (7, .pointer (some ⟨b3_3, 0, .none⟩)), (8, .int .i64 y_0)] [Chunk.box b0_0 107 [.int .i64 i_p0.W, .int .i64 i_p0.H, .slice q0_0 i_p0.Data.length k0_0], Chunk.box b0_1 107 [.int .i64 0, .int .i64 0, .slice .none 0 0], Chunk.box b3_3 107 [.int .i64 w_p1, .int .i64 h_p2, .slice aout_1e nout_1e cout_1e], Chunk.own tInt fout_1e aout_1e nout_1e cout_1e out_1e]
     refine En.block_exit (En.block_norm (En.next (WC.region ?_)))
     refine mv ?_
     refine sp (OpV.addR rfl rfl) ?_
     refine ag ?_
     refine WL.nil ?_
     exact En.backP zb0 zh0 (aout_1e, nout_1e, cout_1e, fout_1e) (sc (sc (sc (sc (sc (sc sn)))))) (fun _ h => h)
    ·
     intro zK1_0
     refine WC.loopP (G := (Option Addr) × Nat × Nat × (List Nat)) (fun s g => match s, g with | (out_1, x_1), (aout_1, nout_1, cout_1, fout_1) => [(1, .int .i64 w_p1), (2, .int .i64 h_p2), (3, .pointer (some ⟨b0_0, 0, .none⟩)), (6, .pointer (some ⟨b0_1, 0, .none⟩)), (7, .pointer (some ⟨b3_3, 0, .none⟩)), (8, .int .i64 y_0), (9, .int .i64 x_1)]) (fun s g => match s, g with | (out_1, x_1), (aout_1, nout_1, cout_1, fout_1) => [Chunk.box b0_0 107 [.int .i64 i_p0.W, .int .i64 i_p0.H, .slice q0_0 i_p0.Data.length k0_0], Chunk.box b0_1 107 [.int .i64 0, .int .i64 0, .slice .none 0 0], Chunk.box b3_3 107 [.int .i64 w_p1, .int .i64 h_p2, .slice aout_1 nout_1 cout_1], Chunk.own tInt fout_1 aout_1 nout_1 cout_1 out_1]) (out_0, 0) (aout_0, nout_0, cout_0, fout_0) ezy1 (by exact sc (sc (sc (sc (sc (sc (sc sn))))))) (by exact (fun _ h => h)) ?_
     rintro zm1 ⟨out_1, x_1⟩ ⟨aout_1, nout_1, cout_1, fout_1⟩ zo1 zf1 zb1 ze1
     have zh1 : spec_Scaled_L1 i_p0 w_p1 h_p2 y_0 out_1 x_1 = some zo1 := zf1
     unfold spec_Scaled_L1 at zh1
     show WC _ _ _ _ _ [(1, .int .i64 w_p1), (2, .int .i64 h_p2), (3, .pointer (some ⟨b0_0, 0, .none⟩)), (6, .pointer (some ⟨b0_1, 0, .none⟩)), (7, .pointer (some ⟨b3_3, 0, .none⟩)), (8, .int .i64 y_0), (9, .int .i64 x_1)] [Chunk.box b0_0 107 [.int .i64 i_p0.W, .int .i64 i_p0.H, .slice q0_0 i_p0.Data.length k0_0], Chunk.box b0_1 107 [.int .i64 0, .int .i64 0, .slice .none 0 0], Chunk.box b3_3 107 [.int .i64 w_p1, .int .i64 h_p2, .slice aout_1 nout_1 cout_1], Chunk.own tInt fout_1 aout_1 nout_1 cout_1 out_1]
     refine WC.seq (WC.sr ?_)
     refine mv ?_
     refine mv ?_
     refine sp (OpV.lss rfl rfl) ?_
     refine WL.nil (En.next ?_)
     refine WC.cond rfl ?_ ?_
     ·
      intro hc_3
      replace zh1 := ifO_t hc_3 zh1
      refine WC.skip (En.next (WC.seq (WC.block ?_)))
      obtain ⟨x10_8, e10_8, zh1⟩ := bnd zh1
      obtain ⟨x10_16, e10_16, zh1⟩ := bnd zh1
      obtain ⟨x10_18, e10_18, zh1⟩ := bnd zh1
      obtain ⟨g10_18, o10_18, _, ha10_18, rfl, hd10_18⟩ := Rd.atIdx r0_0 e10_18
      replace hd10_18 : ∀ (j : Nat) v, ([.int .i64 x10_18] : List Value)[j]? = some v → w.cell? ⟨g10_18, o10_18 + (wr ((wr (x10_8 * i_p0.W)) + x10_16)).toNat * 1 + j, .none⟩ = some v := hd10_18
      obtain ⟨x10_21, e10_21, zh1⟩ := bnd zh1
      refine WC.wkF (fun _ h => h.pm 3) ?_
      refine WC.wkF (fun _ h => h.pm 3) ?_
      refine WC.drawnH [_, _] ([_, _]) (fun _ h => h) (by kernel_rfl) ?_
      refine tk 0 rfl (OpV.fieldAddr rfl fo_107_2) ?_
      refine tk 2 rfl (OpV.fieldAddr rfl fo_107_2) ?_
      refine tk 3 rfl (OpV.loadBox rfl pt_23 mq0 rfl) ?_
      refine tk 4 rfl (OpV.fieldAddr rfl fo_107_1) ?_
      refine tk 5 rfl (OpV.loadBox rfl pt_3 mq0 rfl) ?_
      refine tk 6 rfl (OpV.move rfl) ?_
      refine tk 7 rfl (OpV.move rfl) ?_
      refine tk 8 rfl (OpV.call (ec rfl (ec rfl (ec rfl e0))) ca_157 (fun w hs => w_spec_ScalePoint e10_8)) ?_
      refine tk 9 rfl (OpV.fieldAddr rfl fo_107_0) ?_
      refine tk 10 rfl (OpV.loadBox rfl pt_3 mq0 rfl) ?_
      refine tk 11 rfl (OpV.mulR rfl rfl) ?_
      refine tk 12 rfl (OpV.fieldAddr rfl fo_107_0) ?_
      refine tk 13 rfl (OpV.loadBox rfl pt_3 mq0 rfl) ?_
      refine tk 14 rfl (OpV.move rfl) ?_
      refine tk 15 rfl (OpV.move rfl) ?_
      refine tk 16 rfl (OpV.call (ec rfl (ec rfl (ec rfl e0))) ca_157 (fun w hs => w_spec_ScalePoint e10_16)) ?_
      refine tk 17 rfl (OpV.addR rfl rfl) ?_
      refine tk 18 rfl (OpV.idxA rfl rfl se_23 ha10_18 ⟨(idx_some e10_18).1, (idx_some e10_18).2.1⟩) ?_
      refine tk 19 rfl (OpV.load1 rfl pt_3 (fun w hs => hs.cell (hd10_18 0 _ rfl))) ?_
      refine WAE.all (rs := [1, 20]) (by kernel_rfl) rfl (AllR.cons rfl rfl rfl rfl ?_ (AllR.cons rfl rfl rfl rfl ?_ AllR.nil))
      ·
       refine OpH.light (OpV.loadBox rfl pt_23 mq0 rfl) ?_
       refine ⟨[_, _], rfl, ?_⟩
       refine al1 20 rfl ?_
       refine OpH.litF (A := tInt) (xs := [x10_18]) tInt_flat (evps.cons rfl (evps.nil)) (bs_23_1_0 _) rfl rfl (Nat.le_of_ble_eq_true rfl) ?_
       intro b10_20
       refine ⟨[_, _, _], rfl, ?_⟩
       refine al1 21 rfl ?_
       refine OpH.appS (F := [_, _]) (A := tInt) tInt_flat rfl rfl rfl mi_23 rfl (by decide) (fun w hs => (Ow.rd (hs.mem mq0))) e10_21 ?_
       intro f10_21 a10_21 c10_21
       refine ⟨[_, _, _], rfl, ?_⟩
       refine tk 22 rfl (OpV.fieldAddr rfl fo_107_2) ?_
       refine al0 23 rfl ?_
       refine OpH.storeTo (A := [_]) [_, _, _] rfl rfl rfl ts_23 rfl rfl rfl ?_
       refine ⟨[_, _, _], rfl, ?_⟩
       refine WAE.rebase (H := []) ?_
       refine WAE.done (by kernel_rfl) ?_ _
       refine En.block_norm (En.next (WC.region ?_))
       refine mv ?_
       refine sp (OpV.addR rfl rfl) ?_
       refine ag ?_
       refine WL.nil ?_
       exact En.backP zb1 zh1 (a10_21, x10_21.length, c10_21, f10_21) (sc (sc (sc (sc (sc (sc (sc sn))))))) (fun _ h => (((((h).pm 2).pm 2).pm 4).pm 4).sub (.cons_cons _ (.cons_cons _ (.cons_cons _ (.cons_cons _ (.cons _ (.slnil)))))))
      ·
       refine OpH.litF (A := tInt) (xs := [x10_18]) tInt_flat (evps.cons rfl (evps.nil)) (bs_23_1_0 _) rfl rfl (Nat.le_of_ble_eq_true rfl) ?_
       intro b10_20
       refine ⟨[_, _, _], rfl, ?_⟩
       refine al1 1 rfl ?_
       refine OpH.light (OpV.loadBox rfl pt_23 mq1 rfl) ?_
       refine ⟨[_, _, _], rfl, ?_⟩
       refine al1 21 rfl ?_
       refine OpH.appS (F := [_, _]) (A := tInt) tInt_flat rfl rfl rfl mi_23 rfl (by decide) (fun w hs => (Ow.rd (hs.mem mq0))) e10_21 ?_
       intro f10_21 a10_21 c10_21
       refine ⟨[_, _, _], rfl, ?_⟩
       refine tk 22 rfl (OpV.fieldAddr rfl fo_107_2) ?_
       refine al0 23 rfl ?_
       refine OpH.storeTo (A := [_]) [_, _, _] rfl rfl rfl ts_23 rfl rfl rfl ?_
       refine ⟨[_, _, _], rfl, ?_⟩
       refine WAE.rebase (H := []) ?_
       refine WAE.done (by kernel_rfl) ?_ _
       refine En.block_norm (En.next (WC.region ?_))
       refine mv ?_
       refine sp (OpV.addR rfl rfl) ?_
       refine ag ?_
       refine WL.nil ?_
       exact En.backP zb1 zh1 (a10_21, x10_21.length, c10_21, f10_21) (sc (sc (sc (sc (sc (sc (sc sn))))))) (fun _ h => (((((h).pm 2).pm 2).pm 4).pm 4).sub (.cons_cons _ (.cons_cons _ (.cons_cons _ (.cons_cons _ (.cons _ (.slnil)))))))
     ·
      intro hc_3
      replace zh1 := ifO_f hc_3 zh1
      refine WC.exit (En.then_exit (En.then_exit ?_))
      have hx := exitP ze1 zh1
      exact En.wk _ _ (sc (sc (sc (sc (sc (sc sn)))))) (fun _ h => h) (zK1_0 (out_1, (aout_1, nout_1, cout_1, fout_1)) hx.symm)
   ·
    intro hc_2
    replace zh0 := ifO_f hc_2 zh0
    refine WC.exit (En.then_exit (En.then_exit ?_))
    have hx := exitP ze0 zh0
    exact En.wk _ _ (sc (sc sn)) (fun _ h => ((((h).pm 3).pm 3).pm 3).sub (.cons_cons _ (.cons_cons _ (.cons_cons _ (.cons _ (.slnil)))))) (zK0_0 (out_0, (aout_0, nout_0, cout_0, fout_0)) hx.symm)

theorem w_spec_ChannelOf {p_p0 : Int} {k_p1 : Int} {r : Int}  (h : spec_ChannelOf p_p0 k_p1 = some r) {w : World}    :
    Calls Tryz.prog 141 #[.int .i64 p_p0, .int .i64 k_p1] w (fun en w' => en = .returned (.int .i64 r) ∧ Ext w w') := by
 unfold spec_ChannelOf at h
 refine enter (vs := [_, _]) Tryz.func141 rfl rfl rfl rfl ?_
 refine WC.sr ?_
 refine ag ?_
 refine WL.nil (En.next (WC.seq (WC.seq ?_)))
 obtain ⟨x1_1, e1_1, h⟩ := bnd h
 obtain ⟨q1_7, e1_7, h⟩ := bnd h
 refine WC.region ?_
 refine mv ?_
 refine sp (OpV.call (ec rfl e0) ca_118 (fun w hs => w_spec_l04Pixel e1_1)) ?_
 refine sp (OpV.not rfl) ?_
 refine mv ?_
 refine Lt.ofWL.orQ 8 12 11 (p := ?pz1) (rest := ?qz1) (B := q1_7) rfl (fun hz => orO_t e1_7 hz) ?Tz1 ?Fz1 ?az1 ?bz1 ?cz1 ?dz1 ?ez1
 case Tz1 =>
  intro hcz1 hkz1
  refine sk ?_
  refine sk ?_
  refine sk ?_
  refine hkz1 _ ?_
  repeat (first | exact Sub.refl _ | refine Sub.skip rfl ?_)
 case Fz1 =>
  intro hcz1 hkz1
  have hqz1 := orO_f e1_7 hcz1
  obtain ⟨x1_5, e1_5, hqz1⟩ := bnd hqz1
  obtain rfl := Option.some.inj hqz1
  refine mv ?_
  refine sp (OpV.call (ec rfl (ec rfl (ec rfl e0))) ca_64 (fun w hs => w_spec_l01In e1_5)) ?_
  refine sp (OpV.not rfl) ?_
  refine hkz1 _ ?_ ?_
  exact rfl
  repeat (first | exact Sub.refl _ | refine Sub.skip rfl ?_)
 case az1 => exact rfl
 case bz1 => exact rfl
 case cz1 => exact rfl
 case dz1 => exact rfl
 refine WL.nil (En.next ?_)
 refine WC.cond rfl ?_ ?_
 ·
  intro hc_1
  replace h := ifO_t hc_1 h
  refine WC.sr ?_
  refine ag ?_
  refine WL.nil (En.next (WC.ret (En.then_ret ?_)))
  refine En.ret1 rfl (Res.tmp rfl) ?_
  obtain rfl := Option.some.inj h
  intro w' hs
  exact ⟨rfl, hs.below⟩
 ·
  intro hc_1
  replace h := ifO_f hc_1 h
  refine WC.skip (En.next (WC.seq ?_))
  obtain ⟨x3_4, e3_4, h⟩ := bnd h
  refine WC.region ?_
  refine mv ?_
  refine mv ?_
  refine sp (OpV.mulR rfl rfl) ?_
  refine sp (OpV.subR rfl rfl) ?_
  refine sp (OpV.shrR rfl rfl e3_4) ?_
  refine sp (OpV.andR rfl rfl) ?_
  refine ag ?_
  refine WL.nil (En.next (WC.ret ?_))
  refine En.ret1 rfl (Res.tmp rfl) ?_
  obtain rfl := Option.some.inj h
  intro w' hs
  exact ⟨rfl, hs.below⟩

theorem w_spec_Part {a_p0 : Int} {b_p1 : Int} {r : Int}  (h : spec_Part a_p0 b_p1 = some r) {w : World}    :
    Calls Tryz.prog 142 #[.int .i64 a_p0, .int .i64 b_p1] w (fun en w' => en = .returned (.int .i64 r) ∧ Ext w w') := by
 unfold spec_Part at h
 refine enter (vs := [_, _]) Tryz.func142 rfl rfl rfl rfl ?_
 refine WC.sr ?_
 refine ag ?_
 refine WL.nil (En.next (WC.seq (WC.seq ?_)))
 obtain ⟨x1_1, e1_1, h⟩ := bnd h
 obtain ⟨q1_7, e1_7, h⟩ := bnd h
 refine WC.region ?_
 refine mv ?_
 refine sp (OpV.call (ec rfl (ec rfl (ec rfl e0))) ca_64 (fun w hs => w_spec_l01In e1_1)) ?_
 refine sp (OpV.not rfl) ?_
 refine mv ?_
 refine Lt.ofWL.orQ 8 12 11 (p := ?pz1) (rest := ?qz1) (B := q1_7) rfl (fun hz => orO_t e1_7 hz) ?Tz1 ?Fz1 ?az1 ?bz1 ?cz1 ?dz1 ?ez1
 case Tz1 =>
  intro hcz1 hkz1
  refine sk ?_
  refine sk ?_
  refine sk ?_
  refine hkz1 _ ?_
  repeat (first | exact Sub.refl _ | refine Sub.skip rfl ?_)
 case Fz1 =>
  intro hcz1 hkz1
  have hqz1 := orO_f e1_7 hcz1
  obtain ⟨x1_5, e1_5, hqz1⟩ := bnd hqz1
  obtain rfl := Option.some.inj hqz1
  refine mv ?_
  refine sp (OpV.call (ec rfl (ec rfl (ec rfl e0))) ca_64 (fun w hs => w_spec_l01In e1_5)) ?_
  refine sp (OpV.not rfl) ?_
  refine hkz1 _ ?_ ?_
  exact rfl
  repeat (first | exact Sub.refl _ | refine Sub.skip rfl ?_)
 case az1 => exact rfl
 case bz1 => exact rfl
 case cz1 => exact rfl
 case dz1 => exact rfl
 refine WL.nil (En.next ?_)
 refine WC.cond rfl ?_ ?_
 ·
  intro hc_1
  replace h := ifO_t hc_1 h
  refine WC.sr ?_
  refine ag ?_
  refine WL.nil (En.next (WC.ret (En.then_ret ?_)))
  refine En.ret1 rfl (Res.tmp rfl) ?_
  obtain rfl := Option.some.inj h
  intro w' hs
  exact ⟨rfl, hs.below⟩
 ·
  intro hc_1
  replace h := ifO_f hc_1 h
  refine WC.skip (En.next (WC.sr ?_))
  refine mv ?_
  refine mv ?_
  refine sp (OpV.mulR rfl rfl) ?_
  refine sp (OpV.addR rfl rfl) ?_
  refine sp (OpV.quoR rfl rfl rfl) ?_
  refine ag ?_
  refine WL.nil (En.next (WC.ret ?_))
  refine En.ret1 rfl (Res.tmp rfl) ?_
  obtain rfl := Option.some.inj h
  intro w' hs
  exact ⟨rfl, hs.below⟩

theorem w_spec_Fade {p_p0 : Int} {alpha_p1 : Int} {r : Int}  (h : spec_Fade p_p0 alpha_p1 = some r) {w : World}    :
    Calls Tryz.prog 140 #[.int .i64 p_p0, .int .i64 alpha_p1] w (fun en w' => en = .returned (.int .i64 r) ∧ Ext w w') := by
 unfold spec_Fade at h
 refine enter (vs := [_, _]) Tryz.func140 rfl rfl rfl rfl ?_
 refine WC.sr ?_
 refine ag ?_
 refine WL.nil (En.next (WC.seq (WC.seq ?_)))
 obtain ⟨x1_1, e1_1, h⟩ := bnd h
 obtain ⟨q1_7, e1_7, h⟩ := bnd h
 refine WC.region ?_
 refine mv ?_
 refine sp (OpV.call (ec rfl e0) ca_118 (fun w hs => w_spec_l04Pixel e1_1)) ?_
 refine sp (OpV.not rfl) ?_
 refine mv ?_
 refine Lt.ofWL.orQ 8 12 11 (p := ?pz1) (rest := ?qz1) (B := q1_7) rfl (fun hz => orO_t e1_7 hz) ?Tz1 ?Fz1 ?az1 ?bz1 ?cz1 ?dz1 ?ez1
 case Tz1 =>
  intro hcz1 hkz1
  refine sk ?_
  refine sk ?_
  refine sk ?_
  refine hkz1 _ ?_
  repeat (first | exact Sub.refl _ | refine Sub.skip rfl ?_)
 case Fz1 =>
  intro hcz1 hkz1
  have hqz1 := orO_f e1_7 hcz1
  obtain ⟨x1_5, e1_5, hqz1⟩ := bnd hqz1
  obtain rfl := Option.some.inj hqz1
  refine mv ?_
  refine sp (OpV.call (ec rfl (ec rfl (ec rfl e0))) ca_64 (fun w hs => w_spec_l01In e1_5)) ?_
  refine sp (OpV.not rfl) ?_
  refine hkz1 _ ?_ ?_
  exact rfl
  repeat (first | exact Sub.refl _ | refine Sub.skip rfl ?_)
 case az1 => exact rfl
 case bz1 => exact rfl
 case cz1 => exact rfl
 case dz1 => exact rfl
 refine WL.nil (En.next ?_)
 refine WC.cond rfl ?_ ?_
 ·
  intro hc_1
  replace h := ifO_t hc_1 h
  refine WC.sr ?_
  refine ag ?_
  refine WL.nil (En.next (WC.ret (En.then_ret ?_)))
  refine En.ret1 rfl (Res.tmp rfl) ?_
  obtain rfl := Option.some.inj h
  intro w' hs
  exact ⟨rfl, hs.below⟩
 ·
  intro hc_1
  replace h := ifO_f hc_1 h
  refine WC.skip (En.next (WC.seq ?_))
  obtain ⟨x3_1, e3_1, h⟩ := bnd h
  obtain ⟨x3_3, e3_3, h⟩ := bnd h
  refine WC.region ?_
  refine mv ?_
  refine sp (OpV.call (ec rfl (ec rfl e0)) ca_141 (fun w hs => w_spec_ChannelOf e3_1)) ?_
  refine mv ?_
  refine sp (OpV.call (ec rfl (ec rfl e0)) ca_142 (fun w hs => w_spec_Part e3_3)) ?_
  refine sp (OpV.shlR rfl rfl rfl) ?_
  refine mv ?_
  refine sp (OpV.andR rfl rfl) ?_
  refine sp (OpV.addR rfl rfl) ?_
  refine ag ?_
  refine WL.nil (En.next (WC.ret ?_))
  refine En.ret1 rfl (Res.tmp rfl) ?_
  obtain rfl := Option.some.inj h
  intro w' hs
  exact ⟨rfl, hs.below⟩

theorem w_spec_PlaneImage {p_p0 : PlaneT} {r : ImageT × Bool} {q0_0 : Option Addr} {l0_0 k0_0 : Nat} (h : spec_PlaneImage p_p0 = some r) {w : World} (r0_0 : Rd tInt w q0_0 l0_0 k0_0 p_p0.Words)   :
    Calls Tryz.prog 121 #[.agg #[.bool p_p0.On, .int .i64 p_p0.X, .int .i64 p_p0.Y, .int .i64 p_p0.W, .int .i64 p_p0.H, .int .i64 p_p0.Layout, .slice q0_0 l0_0 k0_0, .int .i64 p_p0.Alpha, .int .i64 p_p0.Orient, .int .i64 p_p0.ToW, .int .i64 p_p0.ToH]] w (fun en w' => ∃ rv G, en = .returned rv ∧ (∃ (a0_0 : Option Addr) (n0_0 : Nat) (c0_0 : Nat) (f0_0 : List Nat), rv = .tuple #[.agg #[.int .i64 r.1.W, .int .i64 r.1.H, .slice a0_0 n0_0 c0_0], .bool r.2] ∧ G = [Chunk.own tInt f0_0 a0_0 n0_0 c0_0 r.1.Data]) ∧ St w G w') := by
 obtain rfl := r0_0.1
 unfold spec_PlaneImage at h
 refine enter (vs := [_]) Tryz.func121 rfl rfl rfl rfl ?_
 refine WC.sr ?_
 refine WL.heavy rfl rfl rfl (OpH.box rfl rfl ?_)
 intro b0_0
 refine WL.heavy rfl rfl rfl (OpH.alloc zc_107 ?_)
 intro b0_1
 refine ag ?_
 refine WL.nil (En.next (WC.seq ?_))
 obtain ⟨⟨x1_1a, x1_1b⟩, e1_1, h⟩ := bnd h
 refine WC.region ?_
 refine sp (OpV.loadAll rfl mq1 ag_61) ?_
 refine WL.heavy rfl rfl rfl (OpH.callR (ec rfl e0) ca_137 (fun w hs => w_spec_l19Loaded e1_1 (r0_0.ext hs.below)) ?_)
 rintro _ _ ⟨a1_100, n1_100, c1_100, f1_100, rfl, rfl⟩
 refine mv ?_
 refine sp (OpV.extract rfl rfl) ?_
 refine sp (OpV.extract rfl rfl) ?_
 refine WL.heavy rfl rfl rfl (OpH.alloc zc_107 ?_)
 intro b1_5
 refine WL.heavy0 rfl rfl (OpH.storeTo (A := []) [_, _, _] rfl rfl rfl ts_107 rfl rfl rfl ?_)
 refine ag ?_
 refine WL.nil (En.next (WC.seq (WC.seq ?_)))
 obtain ⟨q2_7, e2_7, h⟩ := bnd h
 refine WC.region ?_
 refine mv ?_
 refine sp (OpV.not rfl) ?_
 refine mv ?_
 refine Lt.ofWL.orQ 14 19 18 (p := ?pz1) (rest := ?qz1) (B := q2_7) rfl (fun hz => orO_t e2_7 hz) ?Tz1 ?Fz1 ?az1 ?bz1 ?cz1 ?dz1 ?ez1
 case Tz1 =>
  intro hcz1 hkz1
  refine sk ?_
  refine sk ?_
  refine sk ?_
  refine sk ?_
  refine hkz1 _ ?_
  repeat (first | exact Sub.refl _ | refine Sub.skip rfl ?_)
 case Fz1 =>
  intro hcz1 hkz1
  have hqz1 := orO_f e2_7 hcz1
  obtain ⟨x2_5, e2_5, hqz1⟩ := bnd hqz1
  obtain rfl := Option.some.inj hqz1
  refine sp (OpV.fieldAddr rfl fo_61_7) ?_
  refine sp (OpV.loadBox rfl pt_3 mq3 rfl) ?_
  refine sp (OpV.call (ec rfl (ec rfl (ec rfl e0))) ca_64 (fun w hs => w_spec_l01In e2_5)) ?_
  refine sp (OpV.not rfl) ?_
  refine hkz1 _ ?_ ?_
  exact rfl
  repeat (first | exact Sub.refl _ | refine Sub.skip rfl ?_)
 case az1 => exact rfl
 case bz1 => exact rfl
 case cz1 => exact rfl
 case dz1 => exact rfl
 refine WL.nil (En.next ?_)
 refine WC.cond rfl ?_ ?_
 ·
  intro hc_1
  replace h := ifO_t hc_1 h
  refine WC.sr ?_
  refine sp (OpV.build (evps.nil) bd_107_) ?_
  refine WL.heavy0 rfl rfl (OpH.storeTo (A := [_, _]) [_, _, _] rfl rfl rfl ts_107 rfl rfl rfl ?_)
  refine ag ?_
  refine WL.nil (En.next (WC.ret (En.then_ret ?_)))
  refine En.ret2 rfl (Res.cell rfl mq2 ag_107) (Res.tmp rfl) ?_
  obtain rfl := Option.some.inj h
  intro w' hs
  have hs := ((hs).ownNil (A := tInt)).sub (.cons_cons _ (.cons _ (.cons _ (.cons _ (.cons _ (.slnil))))))
  exact ⟨_, _, rfl, ⟨.none, 0, 0, [], rfl, rfl⟩, hs⟩
 ·
  intro hc_1
  replace h := ifO_f hc_1 h
  refine WC.skip (En.next (WC.seq ?_))
  obtain ⟨x4_3, e4_3, h⟩ := bnd h
  refine WC.region ?_
  refine sp (OpV.loadAll rfl mq0 ag_107) ?_
  refine sp (OpV.fieldAddr rfl fo_61_8) ?_
  refine sp (OpV.loadBox rfl pt_3 mq3 rfl) ?_
  refine WL.heavy rfl rfl rfl (OpH.callR (ec rfl (ec rfl e0)) ca_138 (fun w hs => w_spec_Oriented e4_3 (Ow.rd (hs.mem mq1))) ?_)
  rintro _ _ ⟨a4_300, n4_300, c4_300, f4_300, rfl, rfl⟩
  refine WL.heavy0 rfl rfl (OpH.storeTo (A := [_]) [_, _, _] rfl rfl rfl ts_107 rfl rfl rfl ?_)
  refine WL.nil (En.next (WC.seq (WC.sr ?_)))
  refine sp (OpV.fieldAddr rfl fo_61_9) ?_
  refine sp (OpV.loadBox rfl pt_3 mq4 rfl) ?_
  refine sp (OpV.neq rfl rfl) ?_
  refine mv ?_
  refine Lt.ofWL.or 28 32 31 (p := ?pz2) (rest := ?qz2) (B := ?Bz2) rfl ?Tz2 ?Fz2 ?az2 ?bz2 ?cz2 ?dz2 ?ez2
  case Tz2 =>
   intro hcz2 hkz2
   refine sk ?_
   refine sk ?_
   refine sk ?_
   refine hkz2 _ ?_
   repeat (first | exact Sub.refl _ | refine Sub.skip rfl ?_)
  case Fz2 =>
   intro hcz2 hkz2
   refine sp (OpV.fieldAddr rfl fo_61_10) ?_
   refine sp (OpV.loadBox rfl pt_3 mq4 rfl) ?_
   refine sp (OpV.neq rfl rfl) ?_
   refine hkz2 _ ?_ ?_
   exact rfl
   repeat (first | exact Sub.refl _ | refine Sub.skip rfl ?_)
  case az2 => exact rfl
  case bz2 => exact rfl
  case cz2 => exact rfl
  case dz2 => exact rfl
  refine WL.nil (En.next ?_)
  refine WC.cond rfl ?_ ?_
  ·
   intro hc_2
   replace h := ifO_t hc_2 h
   obtain ⟨x6_5, e6_5, h⟩ := bnd h
   refine WC.region ?_
   refine sp (OpV.loadAll rfl mq1 ag_107) ?_
   refine sp (OpV.fieldAddr rfl fo_61_9) ?_
   refine sp (OpV.loadBox rfl pt_3 mq4 rfl) ?_
   refine sp (OpV.fieldAddr rfl fo_61_10) ?_
   refine sp (OpV.loadBox rfl pt_3 mq4 rfl) ?_
   refine WL.heavy rfl rfl rfl (OpH.callR (ec rfl (ec rfl (ec rfl e0))) ca_139 (fun w hs => w_spec_Scaled e6_5 (Ow.rd (hs.mem mq0))) ?_)
   rintro _ _ ⟨a6_500, n6_500, c6_500, f6_500, rfl, rfl⟩
   refine WL.heavy0 rfl rfl (OpH.storeTo (A := [_, _]) [_, _, _] rfl rfl rfl ts_107 rfl rfl rfl ?_)
   refine WL.nil (En.next (WC.seq (WC.seq ?_)))
   obtain ⟨x7_1, e7_1, h⟩ := bnd h
   refine WC.region ?_
   refine sp (OpV.loadAll rfl mq2 ag_107) ?_
   refine sp (OpV.call (ec rfl e0) ca_133 (fun w hs => w_spec_ImageOk e7_1 (Ow.rd (hs.mem mq0)))) ?_
   refine sp (OpV.not rfl) ?_
   refine WL.nil (En.next ?_)
   refine WC.cond rfl ?_ ?_
   ·
    intro hc_3
    replace h := ifO_t hc_3 h
    refine WC.sr ?_
    refine sp (OpV.build (evps.nil) bd_107_) ?_
    refine WL.heavy0 rfl rfl (OpH.storeTo (A := [_, _, _, _]) [_, _, _] rfl rfl rfl ts_107 rfl rfl rfl ?_)
    refine ag ?_
    refine WL.nil (En.next (WC.ret (En.then_ret ?_)))
    refine En.ret2 rfl (Res.cell rfl mq4 ag_107) (Res.tmp rfl) ?_
    obtain rfl := Option.some.inj h
    intro w' hs
    have hs := ((hs).ownNil (A := tInt)).sub (.cons_cons _ (.cons _ (.cons _ (.cons _ (.cons _ (.cons _ (.cons _ (.slnil))))))))
    exact ⟨_, _, rfl, ⟨.none, 0, 0, [], rfl, rfl⟩, hs⟩
   ·
    intro hc_3
    replace h := ifO_f hc_3 h
    refine WC.skip (En.next (WC.seq (WC.sr ?_)))
    refine ag ?_
    refine WL.nil (En.next (WC.block ?_))
    obtain ⟨zy0, ezy0, h⟩ := bnd h
    refine WC.cut (X := ((List Int)) × ((List Nat))) (.exit 0) (fun x => zy0 = x.1) (fun x => match x with | (i_0e, fi_0e) => [(2, .pointer (some ⟨b0_1, 0, .none⟩)), (4, .pointer (some ⟨b1_5, 0, .none⟩))]) (fun x => match x with | (i_0e, fi_0e) => [Chunk.box b0_1 107 [.int .i64 0, .int .i64 0, .slice .none 0 0], Chunk.box b1_5 107 [.int .i64 x6_5.W, .int .i64 x6_5.H, .slice a6_500 n6_500 c6_500], Chunk.own tInt fi_0e a6_500 n6_500 c6_500 i_0e]) ?_ ?_
    ·
     rintro ⟨i_0e, fi_0e⟩ hx
     replace hx : i_0e = zy0 := hx.symm
     subst hx
     show En _ _ _ _ [(2, .pointer (some ⟨b0_1, 0, .none⟩)), (4, .pointer (some ⟨b1_5, 0, .none⟩))] [Chunk.box b0_1 107 [.int .i64 0, .int .i64 0, .slice .none 0 0], Chunk.box b1_5 107 [.int .i64 x6_5.W, .int .i64 x6_5.H, .slice a6_500 n6_500 c6_500], Chunk.own tInt fi_0e a6_500 n6_500 c6_500 i_0e]
     refine En.block_exit (En.next (WC.sr ?_))
     refine sp (OpV.loadAll rfl mq1 ag_107) ?_
     refine WL.heavy0 rfl rfl (OpH.storeTo (A := []) [_, _, _] rfl rfl rfl ts_107 rfl rfl rfl ?_)
     refine ag ?_
     refine WL.nil (En.next (WC.ret ?_))
     refine En.ret2 rfl (Res.cell rfl mq0 ag_107) (Res.tmp rfl) ?_
     obtain rfl := Option.some.inj h
     intro w' hs
     have hs := ((hs).pm 2).sub (.cons_cons _ (.cons _ (.cons _ (.slnil))))
     exact ⟨_, _, rfl, ⟨a6_500, n6_500, c6_500, fi_0e, rfl, rfl⟩, hs⟩
    ·
     intro zK0_0
     refine WC.loopP (G := (List Nat)) (fun s g => match s, g with | (i_0, k_0), fi_0 => [(1, .pointer (some ⟨b0_0, 0, .none⟩)), (2, .pointer (some ⟨b0_1, 0, .none⟩)), (4, .pointer (some ⟨b1_5, 0, .none⟩)), (6, .int .i64 k_0)]) (fun s g => match s, g with | (i_0, k_0), fi_0 => [Chunk.box b0_0 61 [.bool p_p0.On, .int .i64 p_p0.X, .int .i64 p_p0.Y, .int .i64 p_p0.W, .int .i64 p_p0.H, .int .i64 p_p0.Layout, .slice q0_0 p_p0.Words.length k0_0, .int .i64 p_p0.Alpha, .int .i64 p_p0.Orient, .int .i64 p_p0.ToW, .int .i64 p_p0.ToH], Chunk.box b0_1 107 [.int .i64 0, .int .i64 0, .slice .none 0 0], Chunk.box b1_5 107 [.int .i64 x6_5.W, .int .i64 x6_5.H, .slice a6_500 n6_500 c6_500], Chunk.own tInt fi_0 a6_500 n6_500 c6_500 i_0]) (x6_5.Data, 0) f6_500 ezy0 (by exact sc (sc (sc (sc sn)))) (by exact (fun _ h => ((((h).pm 2).pm 4).pm 5).sub (.cons_cons _ (.cons_cons _ (.cons_cons _ (.cons_cons _ (.cons _ (.cons _ (.slnil))))))))) ?_
     rintro zm0 ⟨i_0, k_0⟩ fi_0 zo0 zf0 zb0 ze0
     have zh0 : spec_PlaneImage_L0 p_p0 i_0 k_0 = some zo0 := zf0
     unfold spec_PlaneImage_L0 at zh0
     show WC _ _ _ _ _ [(1, .pointer (some ⟨b0_0, 0, .none⟩)), (2, .pointer (some ⟨b0_1, 0, .none⟩)), (4, .pointer (some ⟨b1_5, 0, .none⟩)), (6, .int .i64 k_0)] [Chunk.box b0_0 61 [.bool p_p0.On, .int .i64 p_p0.X, .int .i64 p_p0.Y, .int .i64 p_p0.W, .int .i64 p_p0.H, .int .i64 p_p0.Layout, .slice q0_0 p_p0.Words.length k0_0, .int .i64 p_p0.Alpha, .int .i64 p_p0.Orient, .int .i64 p_p0.ToW, .int .i64 p_p0.ToH], Chunk.box b0_1 107 [.int .i64 0, .int .i64 0, .slice .none 0 0], Chunk.box b1_5 107 [.int .i64 x6_5.W, .int .i64 x6_5.H, .slice a6_500 n6_500 c6_500], Chunk.own tInt fi_0 a6_500 n6_500 c6_500 i_0]
     refine WC.seq (WC.sr ?_)
     refine mv ?_
     refine sp (OpV.fieldAddr rfl fo_107_2) ?_
     refine sp (OpV.loadBox rfl pt_23 mq2 rfl) ?_
     refine sp (OpV.inhF fun hin => OpV.lenO (xs := i_0) rfl si_23 rfl (ownLen hin mq3)) ?_
     refine sp (OpV.lss rfl rfl) ?_
     refine WL.nil (En.next ?_)
     refine WC.cond rfl ?_ ?_
     ·
      intro hc_4
      replace zh0 := ifO_t hc_4 zh0
      refine WC.skip (En.next (WC.seq (WC.block ?_)))
      refine WC.inh fun hin12 => ?_
      obtain ⟨x12_6, e12_6, zh0⟩ := bnd zh0
      obtain ⟨g12_6, o12_6, ha12_6⟩ := ownAddr hin12 mq3 e12_6
      have hn12_6 := ownLen hin12 mq3
      obtain ⟨x12_10, e12_10, zh0⟩ := bnd zh0
      have hn12_11 := ownLen hin12 mq3
      obtain ⟨x12_12, e12_12, zh0⟩ := bnd zh0
      obtain ⟨g12_11, o12_11, ha12_11⟩ := ownAddrU hin12 mq3 e12_12
      refine WC.wkF (fun _ h => h.pm 3) ?_
      refine WC.drawnH [_] ([_, _, _]) (fun _ h => h) (by kernel_rfl) ?_
      refine tk 0 rfl (OpV.fieldAddr rfl fo_107_2) ?_
      refine tk 1 rfl (OpV.loadBox rfl pt_23 mq2 rfl) ?_
      refine tk 2 rfl (OpV.move rfl) ?_
      refine tk 3 rfl (OpV.fieldAddr rfl fo_107_2) ?_
      refine tk 4 rfl (OpV.loadBox rfl pt_23 mq2 rfl) ?_
      refine tk 5 rfl (OpV.move rfl) ?_
      refine tk 6 rfl (OpV.idxA rfl rfl se_23 ha12_6 ⟨(idx_some e12_6).1, by rw [hn12_6]; exact (idx_some e12_6).2.1⟩) ?_
      refine tk 8 rfl (OpV.fieldAddr rfl fo_61_7) ?_
      refine tk 9 rfl (OpV.loadBox rfl pt_3 mq0 rfl) ?_
      refine al1 7 rfl ?_
      refine OpH.light (OpV.load1 rfl pt_3 (fun w hs => Rd.cell1 tInt_flat (Ow.rd (hs.mem mq0)) e12_6 ha12_6 rfl)) ?_
      refine ⟨[_], rfl, ?_⟩
      refine tk 10 rfl (OpV.call (ec rfl (ec rfl e0)) ca_140 (fun w hs => w_spec_Fade e12_10)) ?_
      refine tk 11 rfl (OpV.idxA rfl rfl se_23 ha12_11 ⟨(upd_some e12_12).1.1, by rw [hn12_11]; exact (upd_some e12_12).1.2⟩) ?_
      refine al0 12 rfl ?_
      refine OpH.wkF (fun _ h => St.elFlat tInt_flat x12_10 h) ?_
      refine OpH.setEl (A := tInt) ha12_11 rfl rfl rfl ts_3 e12_12 ?_
      intro f12_12
      refine ⟨[_], rfl, ?_⟩
      refine WAE.rebase (H := []) ?_
      refine WAE.done (by kernel_rfl) ?_ _
      refine En.block_norm (En.next (WC.region ?_))
      refine mv ?_
      refine sp (OpV.addR rfl rfl) ?_
      refine ag ?_
      refine WL.nil ?_
      exact En.backP zb0 zh0 f12_12 (sc (sc (sc (sc sn)))) (fun _ h => (((h).pm 3).pm 3).pm 3)
     ·
      intro hc_4
      replace zh0 := ifO_f hc_4 zh0
      refine WC.exit (En.then_exit (En.then_exit ?_))
      have hx := exitP ze0 zh0
      exact En.wk _ _ (sc (sc sn)) (fun _ h => ((((h).pm 3).pm 3).pm 3).sub (.cons_cons _ (.cons_cons _ (.cons_cons _ (.cons _ (.slnil)))))) (zK0_0 (i_0, fi_0) hx.symm)
  ·
   intro hc_2
   replace h := ifO_f hc_2 h
   refine WC.skip (En.next (WC.seq (WC.seq ?_)))
   obtain ⟨x7_1, e7_1, h⟩ := bnd h
   refine WC.region ?_
   refine sp (OpV.loadAll rfl mq1 ag_107) ?_
   refine sp (OpV.call (ec rfl e0) ca_133 (fun w hs => w_spec_ImageOk e7_1 (Ow.rd (hs.mem mq0)))) ?_
   refine sp (OpV.not rfl) ?_
   refine WL.nil (En.next ?_)
   refine WC.cond rfl ?_ ?_
   ·
    intro hc_5
    replace h := ifO_t hc_5 h
    refine WC.sr ?_
    refine sp (OpV.build (evps.nil) bd_107_) ?_
    refine WL.heavy0 rfl rfl (OpH.storeTo (A := [_, _, _]) [_, _, _] rfl rfl rfl ts_107 rfl rfl rfl ?_)
    refine ag ?_
    refine WL.nil (En.next (WC.ret (En.then_ret ?_)))
    refine En.ret2 rfl (Res.cell rfl mq3 ag_107) (Res.tmp rfl) ?_
    obtain rfl := Option.some.inj h
    intro w' hs
    have hs := ((hs).ownNil (A := tInt)).sub (.cons_cons _ (.cons _ (.cons _ (.cons _ (.cons _ (.cons _ (.slnil)))))))
    exact ⟨_, _, rfl, ⟨.none, 0, 0, [], rfl, rfl⟩, hs⟩
   ·
    intro hc_5
    replace h := ifO_f hc_5 h
    refine WC.skip (En.next (WC.seq (WC.sr ?_)))
    refine ag ?_
    refine WL.nil (En.next (WC.block ?_))
    obtain ⟨zy1, ezy1, h⟩ := bnd h
    refine WC.cut (X := ((List Int)) × ((List Nat))) (.exit 0) (fun x => zy1 = x.1) (fun x => match x with | (i_1e, fi_1e) => [(2, .pointer (some ⟨b0_1, 0, .none⟩)), (4, .pointer (some ⟨b1_5, 0, .none⟩))]) (fun x => match x with | (i_1e, fi_1e) => [Chunk.box b0_1 107 [.int .i64 0, .int .i64 0, .slice .none 0 0], Chunk.box b1_5 107 [.int .i64 x4_3.W, .int .i64 x4_3.H, .slice a4_300 n4_300 c4_300], Chunk.own tInt fi_1e a4_300 n4_300 c4_300 i_1e]) ?_ ?_
    ·
     rintro ⟨i_1e, fi_1e⟩ hx
     replace hx : i_1e = zy1 := hx.symm
     subst hx
     show En _ _ _ _ [(2, .pointer (some ⟨b0_1, 0, .none⟩)), (4, .pointer (some ⟨b1_5, 0, .none⟩))] [Chunk.box b0_1 107 [.int .i64 0, .int .i64 0, .slice .none 0 0], Chunk.box b1_5 107 [.int .i64 x4_3.W, .int .i64 x4_3.H, .slice a4_300 n4_300 c4_300], Chunk.own tInt fi_1e a4_300 n4_300 c4_300 i_1e]
     refine En.block_exit (En.next (WC.sr ?_))
     refine sp (OpV.loadAll rfl mq1 ag_107) ?_
     refine WL.heavy0 rfl rfl (OpH.storeTo (A := []) [_, _, _] rfl rfl rfl ts_107 rfl rfl rfl ?_)
     refine ag ?_
     refine WL.nil (En.next (WC.ret ?_))
     refine En.ret2 rfl (Res.cell rfl mq0 ag_107) (Res.tmp rfl) ?_
     obtain rfl := Option.some.inj h
     intro w' hs
     have hs := ((hs).pm 2).sub (.cons_cons _ (.cons _ (.cons _ (.slnil))))
     exact ⟨_, _, rfl, ⟨a4_300, n4_300, c4_300, fi_1e, rfl, rfl⟩, hs⟩
    ·
     intro zK1_0
     refine WC.loopP (G := (List Nat)) (fun s g => match s, g with | (i_1, k_1), fi_1 => [(1, .pointer (some ⟨b0_0, 0, .none⟩)), (2, .pointer (some ⟨b0_1, 0, .none⟩)), (4, .pointer (some ⟨b1_5, 0, .none⟩)), (6, .int .i64 k_1)]) (fun s g => match s, g with | (i_1, k_1), fi_1 => [Chunk.box b0_0 61 [.bool p_p0.On, .int .i64 p_p0.X, .int .i64 p_p0.Y, .int .i64 p_p0.W, .int .i64 p_p0.H, .int .i64 p_p0.Layout, .slice q0_0 p_p0.Words.length k0_0, .int .i64 p_p0.Alpha, .int .i64 p_p0.Orient, .int .i64 p_p0.ToW, .int .i64 p_p0.ToH], Chunk.box b0_1 107 [.int .i64 0, .int .i64 0, .slice .none 0 0], Chunk.box b1_5 107 [.int .i64 x4_3.W, .int .i64 x4_3.H, .slice a4_300 n4_300 c4_300], Chunk.own tInt fi_1 a4_300 n4_300 c4_300 i_1]) (x4_3.Data, 0) f4_300 ezy1 (by exact sc (sc (sc (sc sn)))) (by exact (fun _ h => ((((h).pm 1).pm 3).pm 4).sub (.cons_cons _ (.cons_cons _ (.cons_cons _ (.cons_cons _ (.cons _ (.slnil)))))))) ?_
     rintro zm1 ⟨i_1, k_1⟩ fi_1 zo1 zf1 zb1 ze1
     have zh1 : spec_PlaneImage_L1 p_p0 i_1 k_1 = some zo1 := zf1
     unfold spec_PlaneImage_L1 at zh1
     show WC _ _ _ _ _ [(1, .pointer (some ⟨b0_0, 0, .none⟩)), (2, .pointer (some ⟨b0_1, 0, .none⟩)), (4, .pointer (some ⟨b1_5, 0, .none⟩)), (6, .int .i64 k_1)] [Chunk.box b0_0 61 [.bool p_p0.On, .int .i64 p_p0.X, .int .i64 p_p0.Y, .int .i64 p_p0.W, .int .i64 p_p0.H, .int .i64 p_p0.Layout, .slice q0_0 p_p0.Words.length k0_0, .int .i64 p_p0.Alpha, .int .i64 p_p0.Orient, .int .i64 p_p0.ToW, .int .i64 p_p0.ToH], Chunk.box b0_1 107 [.int .i64 0, .int .i64 0, .slice .none 0 0], Chunk.box b1_5 107 [.int .i64 x4_3.W, .int .i64 x4_3.H, .slice a4_300 n4_300 c4_300], Chunk.own tInt fi_1 a4_300 n4_300 c4_300 i_1]
     refine WC.seq (WC.sr ?_)
     refine mv ?_
     refine sp (OpV.fieldAddr rfl fo_107_2) ?_
     refine sp (OpV.loadBox rfl pt_23 mq2 rfl) ?_
     refine sp (OpV.inhF fun hin => OpV.lenO (xs := i_1) rfl si_23 rfl (ownLen hin mq3)) ?_
     refine sp (OpV.lss rfl rfl) ?_
     refine WL.nil (En.next ?_)
     refine WC.cond rfl ?_ ?_
     ·
      intro hc_6
      replace zh1 := ifO_t hc_6 zh1
      refine WC.skip (En.next (WC.seq (WC.block ?_)))
      refine WC.inh fun hin12 => ?_
      obtain ⟨x12_6, e12_6, zh1⟩ := bnd zh1
      obtain ⟨g12_6, o12_6, ha12_6⟩ := ownAddr hin12 mq3 e12_6
      have hn12_6 := ownLen hin12 mq3
      obtain ⟨x12_10, e12_10, zh1⟩ := bnd zh1
      have hn12_11 := ownLen hin12 mq3
      obtain ⟨x12_12, e12_12, zh1⟩ := bnd zh1
      obtain ⟨g12_11, o12_11, ha12_11⟩ := ownAddrU hin12 mq3 e12_12
      refine WC.wkF (fun _ h => h.pm 3) ?_
      refine WC.drawnH [_] ([_, _, _]) (fun _ h => h) (by kernel_rfl) ?_
      refine tk 0 rfl (OpV.fieldAddr rfl fo_107_2) ?_
      refine tk 1 rfl (OpV.loadBox rfl pt_23 mq2 rfl) ?_
      refine tk 2 rfl (OpV.move rfl) ?_
      refine tk 3 rfl (OpV.fieldAddr rfl fo_107_2) ?_
      refine tk 4 rfl (OpV.loadBox rfl pt_23 mq2 rfl) ?_
      refine tk 5 rfl (OpV.move rfl) ?_
      refine tk 6 rfl (OpV.idxA rfl rfl se_23 ha12_6 ⟨(idx_some e12_6).1, by rw [hn12_6]; exact (idx_some e12_6).2.1⟩) ?_
      refine tk 8 rfl (OpV.fieldAddr rfl fo_61_7) ?_
      refine tk 9 rfl (OpV.loadBox rfl pt_3 mq0 rfl) ?_
      refine al1 7 rfl ?_
      refine OpH.light (OpV.load1 rfl pt_3 (fun w hs => Rd.cell1 tInt_flat (Ow.rd (hs.mem mq0)) e12_6 ha12_6 rfl)) ?_
      refine ⟨[_], rfl, ?_⟩
      refine tk 10 rfl (OpV.call (ec rfl (ec rfl e0)) ca_140 (fun w hs => w_spec_Fade e12_10)) ?_
      refine tk 11 rfl (OpV.idxA rfl rfl se_23 ha12_11 ⟨(upd_some e12_12).1.1, by rw [hn12_11]; exact (upd_some e12_12).1.2⟩) ?_
      refine al0 12 rfl ?_
      refine OpH.wkF (fun _ h => St.elFlat tInt_flat x12_10 h) ?_
      refine OpH.setEl (A := tInt) ha12_11 rfl rfl rfl ts_3 e12_12 ?_
      intro f12_12
      refine ⟨[_], rfl, ?_⟩
      refine WAE.rebase (H := []) ?_
      refine WAE.done (by kernel_rfl) ?_ _
      refine En.block_norm (En.next (WC.region ?_))
      refine mv ?_
      refine sp (OpV.addR rfl rfl) ?_
      refine ag ?_
      refine WL.nil ?_
      exact En.backP zb1 zh1 f12_12 (sc (sc (sc (sc sn)))) (fun _ h => (((h).pm 3).pm 3).pm 3)
     ·
      intro hc_6
      replace zh1 := ifO_f hc_6 zh1
      refine WC.exit (En.then_exit (En.then_exit ?_))
      have hx := exitP ze1 zh1
      exact En.wk _ _ (sc (sc sn)) (fun _ h => ((((h).pm 3).pm 3).pm 3).sub (.cons_cons _ (.cons_cons _ (.cons_cons _ (.cons _ (.slnil)))))) (zK1_0 (i_1, fi_1) hx.symm)

theorem w_spec_l10Opaque {p_p0 : Int} {r : Bool}  (h : spec_l10Opaque p_p0 = some r) {w : World}    :
    Calls Tryz.prog 136 #[.int .i64 p_p0] w (fun en w' => en = .returned (.bool r) ∧ Ext w w') := by
 unfold spec_l10Opaque at h
 refine enter (vs := [_]) Tryz.func136 rfl rfl rfl rfl ?_
 refine WC.sr ?_
 refine ag ?_
 refine WL.nil (En.next (WC.seq ?_))
 obtain ⟨x1_1, e1_1, h⟩ := bnd h
 obtain ⟨q1_6, e1_6, h⟩ := bnd h
 refine WC.region ?_
 refine mv ?_
 refine sp (OpV.call (ec rfl e0) ca_118 (fun w hs => w_spec_l04Pixel e1_1)) ?_
 refine mv ?_
 refine Lt.ofWL.andQ 5 9 8 (p := ?pz1) (rest := ?qz1) (B := q1_6) rfl (fun hz => andO_f e1_6 hz) ?Tz1 ?Fz1 ?az1 ?bz1 ?cz1 ?dz1 ?ez1
 case Tz1 =>
  intro hcz1 hkz1
  have hqz1 := andO_t e1_6 hcz1
  obtain ⟨x1_4, e1_4, hqz1⟩ := bnd hqz1
  obtain rfl := Option.some.inj hqz1
  refine mv ?_
  refine sp (OpV.call (ec rfl (ec rfl e0)) ca_141 (fun w hs => w_spec_ChannelOf e1_4)) ?_
  refine sp (OpV.eql rfl rfl) ?_
  refine hkz1 _ ?_ ?_
  exact rfl
  repeat (first | exact Sub.refl _ | refine Sub.skip rfl ?_)
 case Fz1 =>
  intro hcz1 hkz1
  refine sk ?_
  refine sk ?_
  refine sk ?_
  refine hkz1 _ ?_
  repeat (first | exact Sub.refl _ | refine Sub.skip rfl ?_)
 case az1 => exact rfl
 case bz1 => exact rfl
 case cz1 => exact rfl
 case dz1 => exact rfl
 refine ag ?_
 refine WL.nil (En.next (WC.ret ?_))
 refine En.ret1 rfl (Res.tmp rfl) ?_
 obtain rfl := Option.some.inj h
 intro w' hs
 exact ⟨rfl, hs.below⟩

theorem w_spec_PlaneOk {a_p0 : Int} {a_p1 : PlaneT} {a_p2 : Int} {a_p3 : Int} {r : Bool} {q1_0 : Option Addr} {l1_0 k1_0 : Nat} (h : spec_PlaneOk a_p0 a_p1 a_p2 a_p3 = some r) {w : World} (r1_0 : Rd tInt w q1_0 l1_0 k1_0 a_p1.Words)   :
    Calls Tryz.prog 120 #[.int .i64 a_p0, .agg #[.bool a_p1.On, .int .i64 a_p1.X, .int .i64 a_p1.Y, .int .i64 a_p1.W, .int .i64 a_p1.H, .int .i64 a_p1.Layout, .slice q1_0 l1_0 k1_0, .int .i64 a_p1.Alpha, .int .i64 a_p1.Orient, .int .i64 a_p1.ToW, .int .i64 a_p1.ToH], .int .i64 a_p2, .int .i64 a_p3] w (fun en w' => en = .returned (.bool r) ∧ Ext w w') := by
 obtain rfl := r1_0.1
 unfold spec_PlaneOk at h
 refine enter (vs := [_, _, _, _]) Tryz.func120 rfl rfl rfl rfl ?_
 refine WC.sr ?_
 refine WL.heavy rfl rfl rfl (OpH.box rfl rfl ?_)
 intro b0_0
 refine ag ?_
 refine WL.nil (En.next (WC.seq (WC.seq ?_)))
 obtain ⟨x1_1, e1_1, h⟩ := bnd h
 obtain ⟨q1_7, e1_7, h⟩ := bnd h
 obtain ⟨q1_12, e1_12, h⟩ := bnd h
 refine WC.region ?_
 refine mv ?_
 refine sp (OpV.call (ec rfl (ec rfl (ec rfl e0))) ca_64 (fun w hs => w_spec_l01In e1_1)) ?_
 refine sp (OpV.not rfl) ?_
 refine mv ?_
 refine Lt.ofWL.orQ 16 20 19 (p := ?pz1) (rest := ?qz1) (B := q1_7) rfl (fun hz => orO_t e1_7 hz) ?Tz1 ?Fz1 ?az1 ?bz1 ?cz1 ?dz1 ?ez1
 case Tz1 =>
  intro hcz1 hkz1
  refine sk ?_
  refine sk ?_
  refine sk ?_
  refine hkz1 _ ?_
  repeat (first | exact Sub.refl _ | refine Sub.skip rfl ?_)
 case Fz1 =>
  intro hcz1 hkz1
  have hqz1 := orO_f e1_7 hcz1
  obtain ⟨x1_5, e1_5, hqz1⟩ := bnd hqz1
  obtain rfl := Option.some.inj hqz1
  refine mv ?_
  refine sp (OpV.call (ec rfl (ec rfl (ec rfl e0))) ca_64 (fun w hs => w_spec_l01In e1_5)) ?_
  refine sp (OpV.not rfl) ?_
  refine hkz1 _ ?_ ?_
  exact rfl
  repeat (first | exact Sub.refl _ | refine Sub.skip rfl ?_)
 case az1 => exact rfl
 case bz1 => exact rfl
 case cz1 => exact rfl
 case dz1 => exact rfl
 refine mv ?_
 refine Lt.ofWL.orQ 21 25 24 (p := ?pz2) (rest := ?qz2) (B := q1_12) rfl (fun hz => orO_t e1_12 hz) ?Tz2 ?Fz2 ?az2 ?bz2 ?cz2 ?dz2 ?ez2
 case Tz2 =>
  intro hcz2 hkz2
  refine sk ?_
  refine sk ?_
  refine sk ?_
  refine hkz2 _ ?_
  repeat (first | exact Sub.refl _ | refine Sub.skip rfl ?_)
 case Fz2 =>
  intro hcz2 hkz2
  have hqz2 := orO_f e1_12 hcz2
  obtain ⟨x1_10, e1_10, hqz2⟩ := bnd hqz2
  obtain rfl := Option.some.inj hqz2
  refine mv ?_
  refine sp (OpV.call (ec rfl (ec rfl (ec rfl e0))) ca_64 (fun w hs => w_spec_l01In e1_10)) ?_
  refine sp (OpV.not rfl) ?_
  refine hkz2 _ ?_ ?_
  exact rfl
  repeat (first | exact Sub.refl _ | refine Sub.skip rfl ?_)
 case az2 => exact rfl
 case bz2 => exact rfl
 case cz2 => exact rfl
 case dz2 => exact rfl
 refine WL.nil (En.next ?_)
 refine WC.cond rfl ?_ ?_
 ·
  intro hc_1
  replace h := ifO_t hc_1 h
  refine WC.sr ?_
  refine ag ?_
  refine WL.nil (En.next (WC.ret (En.then_ret ?_)))
  refine En.ret1 rfl (Res.tmp rfl) ?_
  obtain rfl := Option.some.inj h
  intro w' hs
  exact ⟨rfl, hs.below⟩
 ·
  intro hc_1
  replace h := ifO_f hc_1 h
  refine WC.skip (En.next (WC.seq (WC.sr ?_)))
  refine sp (OpV.fieldAddr rfl fo_61_0) ?_
  refine sp (OpV.loadBox rfl pt_4 mq0 rfl) ?_
  refine sp (OpV.not rfl) ?_
  refine WL.nil (En.next ?_)
  refine WC.cond rfl ?_ ?_
  ·
   intro hc_2
   replace h := ifO_t hc_2 h
   refine WC.seq ?_
   obtain ⟨q4_5, e4_5, h⟩ := bnd h
   refine WC.region ?_
   refine mv ?_
   refine sp (OpV.neq rfl rfl) ?_
   refine mv ?_
   refine Lt.ofWL.andQ 31 34 33 (p := ?pz3) (rest := ?qz3) (B := q4_5) rfl (fun hz => andO_f e4_5 hz) ?Tz3 ?Fz3 ?az3 ?bz3 ?cz3 ?dz3 ?ez3
   case Tz3 =>
    intro hcz3 hkz3
    have hqz3 := andO_t e4_5 hcz3
    obtain ⟨x4_4, e4_4, hqz3⟩ := bnd hqz3
    obtain rfl := Option.some.inj hqz3
    refine sp (OpV.loadAll rfl mq0 ag_61) ?_
    refine sp (OpV.call (ec rfl e0) ca_112 (fun w hs => w_spec_l19Zero e4_4 (r1_0.ext hs.below))) ?_
    refine hkz3 _ ?_ ?_
    exact rfl
    repeat (first | exact Sub.refl _ | refine Sub.skip rfl ?_)
   case Fz3 =>
    intro hcz3 hkz3
    refine sk ?_
    refine sk ?_
    refine hkz3 _ ?_
    repeat (first | exact Sub.refl _ | refine Sub.skip rfl ?_)
   case az3 => exact rfl
   case bz3 => exact rfl
   case cz3 => exact rfl
   case dz3 => exact rfl
   refine ag ?_
   refine WL.nil (En.next (WC.ret (En.then_ret ?_)))
   refine En.ret1 rfl (Res.tmp rfl) ?_
   obtain rfl := Option.some.inj h
   intro w' hs
   exact ⟨rfl, hs.below⟩
  ·
   intro hc_2
   replace h := ifO_f hc_2 h
   refine WC.skip (En.next (WC.seq ?_))
   obtain ⟨⟨x5_1a, x5_1b⟩, e5_1, h⟩ := bnd h
   refine WC.region ?_
   refine sp (OpV.loadAll rfl mq0 ag_61) ?_
   refine WL.heavy rfl rfl rfl (OpH.callR (ec rfl e0) ca_121 (fun w hs => w_spec_PlaneImage e5_1 (r1_0.ext hs.below)) ?_)
   rintro _ _ ⟨a5_100, n5_100, c5_100, f5_100, rfl, rfl⟩
   refine mv ?_
   refine sp (OpV.extract rfl rfl) ?_
   refine sp (OpV.extract rfl rfl) ?_
   refine WL.heavy rfl rfl rfl (OpH.alloc zc_107 ?_)
   intro b5_5
   refine WL.heavy0 rfl rfl (OpH.storeTo (A := []) [_, _, _] rfl rfl rfl ts_107 rfl rfl rfl ?_)
   refine ag ?_
   refine WL.nil (En.next (WC.seq (WC.seq ?_)))
   obtain ⟨q6_7, e6_7, h⟩ := bnd h
   obtain ⟨q6_13, e6_13, h⟩ := bnd h
   refine WC.region ?_
   refine mv ?_
   refine sp (OpV.not rfl) ?_
   refine mv ?_
   refine Lt.ofWL.orQ 42 47 46 (p := ?pz4) (rest := ?qz4) (B := q6_7) rfl (fun hz => orO_t e6_7 hz) ?Tz4 ?Fz4 ?az4 ?bz4 ?cz4 ?dz4 ?ez4
   case Tz4 =>
    intro hcz4 hkz4
    refine sk ?_
    refine sk ?_
    refine sk ?_
    refine sk ?_
    refine hkz4 _ ?_
    repeat (first | exact Sub.refl _ | refine Sub.skip rfl ?_)
   case Fz4 =>
    intro hcz4 hkz4
    have hqz4 := orO_f e6_7 hcz4
    obtain ⟨x6_5, e6_5, hqz4⟩ := bnd hqz4
    obtain rfl := Option.some.inj hqz4
    refine sp (OpV.fieldAddr rfl fo_61_1) ?_
    refine sp (OpV.loadBox rfl pt_3 mq2 rfl) ?_
    refine sp (OpV.call (ec rfl (ec rfl (ec rfl e0))) ca_64 (fun w hs => w_spec_l01In e6_5)) ?_
    refine sp (OpV.not rfl) ?_
    refine hkz4 _ ?_ ?_
    exact rfl
    repeat (first | exact Sub.refl _ | refine Sub.skip rfl ?_)
   case az4 => exact rfl
   case bz4 => exact rfl
   case cz4 => exact rfl
   case dz4 => exact rfl
   refine mv ?_
   refine Lt.ofWL.orQ 48 53 52 (p := ?pz5) (rest := ?qz5) (B := q6_13) rfl (fun hz => orO_t e6_13 hz) ?Tz5 ?Fz5 ?az5 ?bz5 ?cz5 ?dz5 ?ez5
   case Tz5 =>
    intro hcz5 hkz5
    refine sk ?_
    refine sk ?_
    refine sk ?_
    refine sk ?_
    refine hkz5 _ ?_
    repeat (first | exact Sub.refl _ | refine Sub.skip rfl ?_)
   case Fz5 =>
    intro hcz5 hkz5
    have hqz5 := orO_f e6_13 hcz5
    obtain ⟨x6_11, e6_11, hqz5⟩ := bnd hqz5
    obtain rfl := Option.some.inj hqz5
    refine sp (OpV.fieldAddr rfl fo_61_2) ?_
    refine sp (OpV.loadBox rfl pt_3 mq2 rfl) ?_
    refine sp (OpV.call (ec rfl (ec rfl (ec rfl e0))) ca_64 (fun w hs => w_spec_l01In e6_11)) ?_
    refine sp (OpV.not rfl) ?_
    refine hkz5 _ ?_ ?_
    exact rfl
    repeat (first | exact Sub.refl _ | refine Sub.skip rfl ?_)
   case az5 => exact rfl
   case bz5 => exact rfl
   case cz5 => exact rfl
   case dz5 => exact rfl
   refine WL.nil (En.next ?_)
   refine WC.cond rfl ?_ ?_
   ·
    intro hc_3
    replace h := ifO_t hc_3 h
    refine WC.sr ?_
    refine ag ?_
    refine WL.nil (En.next (WC.ret (En.then_ret ?_)))
    refine En.ret1 rfl (Res.tmp rfl) ?_
    obtain rfl := Option.some.inj h
    intro w' hs
    exact ⟨rfl, hs.below⟩
   ·
    intro hc_3
    replace h := ifO_f hc_3 h
    refine WC.skip (En.next (WC.sr ?_))
    refine sp (OpV.fieldAddr rfl fo_61_8) ?_
    refine sp (OpV.loadBox rfl pt_3 mq2 rfl) ?_
    refine sp (OpV.eql rfl rfl) ?_
    refine mv ?_
    refine Lt.ofWL.and 57 61 60 (p := ?pz6) (rest := ?qz6) (B := ?Bz6) rfl ?Tz6 ?Fz6 ?az6 ?bz6 ?cz6 ?dz6 ?ez6
    case Tz6 =>
     intro hcz6 hkz6
     refine sp (OpV.fieldAddr rfl fo_61_9) ?_
     refine sp (OpV.loadBox rfl pt_3 mq2 rfl) ?_
     refine sp (OpV.eql rfl rfl) ?_
     refine hkz6 _ ?_ ?_
     exact rfl
     repeat (first | exact Sub.refl _ | refine Sub.skip rfl ?_)
    case Fz6 =>
     intro hcz6 hkz6
     refine sk ?_
     refine sk ?_
     refine sk ?_
     refine hkz6 _ ?_
     repeat (first | exact Sub.refl _ | refine Sub.skip rfl ?_)
    case az6 => exact rfl
    case bz6 => exact rfl
    case cz6 => exact rfl
    case dz6 => exact rfl
    refine mv ?_
    refine Lt.ofWL.and 62 66 65 (p := ?pz7) (rest := ?qz7) (B := ?Bz7) rfl ?Tz7 ?Fz7 ?az7 ?bz7 ?cz7 ?dz7 ?ez7
    case Tz7 =>
     intro hcz7 hkz7
     refine sp (OpV.fieldAddr rfl fo_61_10) ?_
     refine sp (OpV.loadBox rfl pt_3 mq2 rfl) ?_
     refine sp (OpV.eql rfl rfl) ?_
     refine hkz7 _ ?_ ?_
     exact rfl
     repeat (first | exact Sub.refl _ | refine Sub.skip rfl ?_)
    case Fz7 =>
     intro hcz7 hkz7
     refine sk ?_
     refine sk ?_
     refine sk ?_
     refine hkz7 _ ?_
     repeat (first | exact Sub.refl _ | refine Sub.skip rfl ?_)
    case az7 => exact rfl
    case bz7 => exact rfl
    case cz7 => exact rfl
    case dz7 => exact rfl
    refine mv ?_
    refine Lt.ofWL.and 67 71 70 (p := ?pz8) (rest := ?qz8) (B := ?Bz8) rfl ?Tz8 ?Fz8 ?az8 ?bz8 ?cz8 ?dz8 ?ez8
    case Tz8 =>
     intro hcz8 hkz8
     refine sp (OpV.fieldAddr rfl fo_61_7) ?_
     refine sp (OpV.loadBox rfl pt_3 mq2 rfl) ?_
     refine sp (OpV.eql rfl rfl) ?_
     refine hkz8 _ ?_ ?_
     exact rfl
     repeat (first | exact Sub.refl _ | refine Sub.skip rfl ?_)
    case Fz8 =>
     intro hcz8 hkz8
     refine sk ?_
     refine sk ?_
     refine sk ?_
     refine hkz8 _ ?_
     repeat (first | exact Sub.refl _ | refine Sub.skip rfl ?_)
    case az8 => exact rfl
    case bz8 => exact rfl
    case cz8 => exact rfl
    case dz8 => exact rfl
    refine ag ?_
    refine WL.nil (En.next (WC.seq (WC.sr ?_)))
    refine mv ?_
    refine sp (OpV.eql rfl rfl) ?_
    refine WL.nil (En.next ?_)
    refine WC.cond rfl ?_ ?_
    ·
     intro hc_4
     replace h := ifO_t hc_4 h
     refine WC.sr ?_
     refine mv ?_
     refine mv ?_
     refine Lt.ofWL.and 75 79 78 (p := ?pz9) (rest := ?qz9) (B := ?Bz9) rfl ?Tz9 ?Fz9 ?az9 ?bz9 ?cz9 ?dz9 ?ez9
     case Tz9 =>
      intro hcz9 hkz9
      refine sp (OpV.fieldAddr rfl fo_61_3) ?_
      refine sp (OpV.loadBox rfl pt_3 mq2 rfl) ?_
      refine sp (OpV.leq rfl rfl) ?_
      refine hkz9 _ ?_ ?_
      exact rfl
      repeat (first | exact Sub.refl _ | refine Sub.skip rfl ?_)
     case Fz9 =>
      intro hcz9 hkz9
      refine sk ?_
      refine sk ?_
      refine sk ?_
      refine hkz9 _ ?_
      repeat (first | exact Sub.refl _ | refine Sub.skip rfl ?_)
     case az9 => exact rfl
     case bz9 => exact rfl
     case cz9 => exact rfl
     case dz9 => exact rfl
     refine mv ?_
     refine Lt.ofWL.and 80 84 83 (p := ?pz10) (rest := ?qz10) (B := ?Bz10) rfl ?Tz10 ?Fz10 ?az10 ?bz10 ?cz10 ?dz10 ?ez10
     case Tz10 =>
      intro hcz10 hkz10
      refine sp (OpV.fieldAddr rfl fo_61_4) ?_
      refine sp (OpV.loadBox rfl pt_3 mq2 rfl) ?_
      refine sp (OpV.leq rfl rfl) ?_
      refine hkz10 _ ?_ ?_
      exact rfl
      repeat (first | exact Sub.refl _ | refine Sub.skip rfl ?_)
     case Fz10 =>
      intro hcz10 hkz10
      refine sk ?_
      refine sk ?_
      refine sk ?_
      refine hkz10 _ ?_
      repeat (first | exact Sub.refl _ | refine Sub.skip rfl ?_)
     case az10 => exact rfl
     case bz10 => exact rfl
     case cz10 => exact rfl
     case dz10 => exact rfl
     refine ag ?_
     refine WL.nil (En.next (WC.ret (En.then_ret ?_)))
     refine En.ret1 rfl (Res.tmp rfl) ?_
     obtain rfl := Option.some.inj h
     intro w' hs
     exact ⟨rfl, hs.below⟩
    ·
     intro hc_4
     replace h := ifO_f hc_4 h
     refine WC.skip (En.next (WC.seq (WC.sr ?_)))
     refine mv ?_
     refine sp (OpV.neq rfl rfl) ?_
     refine WL.nil (En.next ?_)
     refine WC.cond rfl ?_ ?_
     ·
      intro hc_5
      replace h := ifO_t hc_5 h
      refine WC.sr ?_
      refine ag ?_
      refine WL.nil (En.next (WC.ret (En.then_ret ?_)))
      refine En.ret1 rfl (Res.tmp rfl) ?_
      obtain rfl := Option.some.inj h
      intro w' hs
      exact ⟨rfl, hs.below⟩
     ·
      intro hc_5
      replace h := ifO_f hc_5 h
      refine WC.skip (En.next (WC.seq (WC.sr ?_)))
      refine ag ?_
      refine WL.nil (En.next (WC.block ?_))
      obtain ⟨zy0, ezy0, h⟩ := bnd h
      refine WC.cut (X := (Unit) × (Unit)) (.exit 0) (fun x => zy0 = .inl x.1) (fun x => match x with | ((), ()) => [(2, .int .i64 a_p2), (3, .int .i64 a_p3), (5, .pointer (some ⟨b0_0, 0, .none⟩)), (11, .bool ((((decide (a_p1.Orient = 0)) && (decide (a_p1.ToW = 0))) && (decide (a_p1.ToH = 0))) && (decide (a_p1.Alpha = 255))))]) (fun x => match x with | ((), ()) => [Chunk.box b0_0 61 [.bool a_p1.On, .int .i64 a_p1.X, .int .i64 a_p1.Y, .int .i64 a_p1.W, .int .i64 a_p1.H, .int .i64 a_p1.Layout, .slice q1_0 a_p1.Words.length k1_0, .int .i64 a_p1.Alpha, .int .i64 a_p1.Orient, .int .i64 a_p1.ToW, .int .i64 a_p1.ToH]]) ?_ ?_
      ·
       rintro ⟨⟨⟩, ⟨⟩⟩ hx
       replace hx : .inl () = zy0 := hx.symm
       subst hx
       replace h := fork_l h
       show En _ _ _ _ [(2, .int .i64 a_p2), (3, .int .i64 a_p3), (5, .pointer (some ⟨b0_0, 0, .none⟩)), (11, .bool ((((decide (a_p1.Orient = 0)) && (decide (a_p1.ToW = 0))) && (decide (a_p1.ToH = 0))) && (decide (a_p1.Alpha = 255))))] [Chunk.box b0_0 61 [.bool a_p1.On, .int .i64 a_p1.X, .int .i64 a_p1.Y, .int .i64 a_p1.W, .int .i64 a_p1.H, .int .i64 a_p1.Layout, .slice q1_0 a_p1.Words.length k1_0, .int .i64 a_p1.Alpha, .int .i64 a_p1.Orient, .int .i64 a_p1.ToW, .int .i64 a_p1.ToH]]
       refine En.block_exit (En.next (WC.sr ?_))
       refine mv ?_
       refine mv ?_
       refine Lt.ofWL.and 102 106 105 (p := ?pz11) (rest := ?qz11) (B := ?Bz11) rfl ?Tz11 ?Fz11 ?az11 ?bz11 ?cz11 ?dz11 ?ez11
       case Tz11 =>
        intro hcz11 hkz11
        refine sp (OpV.fieldAddr rfl fo_61_1) ?_
        refine sp (OpV.loadBox rfl pt_3 mq0 rfl) ?_
        refine sp (OpV.eql rfl rfl) ?_
        refine hkz11 _ ?_ ?_
        exact rfl
        repeat (first | exact Sub.refl _ | refine Sub.skip rfl ?_)
       case Fz11 =>
        intro hcz11 hkz11
        refine sk ?_
        refine sk ?_
        refine sk ?_
        refine hkz11 _ ?_
        repeat (first | exact Sub.refl _ | refine Sub.skip rfl ?_)
       case az11 => exact rfl
       case bz11 => exact rfl
       case cz11 => exact rfl
       case dz11 => exact rfl
       refine mv ?_
       refine Lt.ofWL.and 107 111 110 (p := ?pz12) (rest := ?qz12) (B := ?Bz12) rfl ?Tz12 ?Fz12 ?az12 ?bz12 ?cz12 ?dz12 ?ez12
       case Tz12 =>
        intro hcz12 hkz12
        refine sp (OpV.fieldAddr rfl fo_61_2) ?_
        refine sp (OpV.loadBox rfl pt_3 mq0 rfl) ?_
        refine sp (OpV.eql rfl rfl) ?_
        refine hkz12 _ ?_ ?_
        exact rfl
        repeat (first | exact Sub.refl _ | refine Sub.skip rfl ?_)
       case Fz12 =>
        intro hcz12 hkz12
        refine sk ?_
        refine sk ?_
        refine sk ?_
        refine hkz12 _ ?_
        repeat (first | exact Sub.refl _ | refine Sub.skip rfl ?_)
       case az12 => exact rfl
       case bz12 => exact rfl
       case cz12 => exact rfl
       case dz12 => exact rfl
       refine mv ?_
       refine Lt.ofWL.and 112 117 116 (p := ?pz13) (rest := ?qz13) (B := ?Bz13) rfl ?Tz13 ?Fz13 ?az13 ?bz13 ?cz13 ?dz13 ?ez13
       case Tz13 =>
        intro hcz13 hkz13
        refine sp (OpV.fieldAddr rfl fo_61_3) ?_
        refine sp (OpV.loadBox rfl pt_3 mq0 rfl) ?_
        refine mv ?_
        refine sp (OpV.eql rfl rfl) ?_
        refine hkz13 _ ?_ ?_
        exact rfl
        repeat (first | exact Sub.refl _ | refine Sub.skip rfl ?_)
       case Fz13 =>
        intro hcz13 hkz13
        refine sk ?_
        refine sk ?_
        refine sk ?_
        refine sk ?_
        refine hkz13 _ ?_
        repeat (first | exact Sub.refl _ | refine Sub.skip rfl ?_)
       case az13 => exact rfl
       case bz13 => exact rfl
       case cz13 => exact rfl
       case dz13 => exact rfl
       refine mv ?_
       refine Lt.ofWL.and 118 123 122 (p := ?pz14) (rest := ?qz14) (B := ?Bz14) rfl ?Tz14 ?Fz14 ?az14 ?bz14 ?cz14 ?dz14 ?ez14
       case Tz14 =>
        intro hcz14 hkz14
        refine sp (OpV.fieldAddr rfl fo_61_4) ?_
        refine sp (OpV.loadBox rfl pt_3 mq0 rfl) ?_
        refine mv ?_
        refine sp (OpV.eql rfl rfl) ?_
        refine hkz14 _ ?_ ?_
        exact rfl
        repeat (first | exact Sub.refl _ | refine Sub.skip rfl ?_)
       case Fz14 =>
        intro hcz14 hkz14
        refine sk ?_
        refine sk ?_
        refine sk ?_
        refine sk ?_
        refine hkz14 _ ?_
        repeat (first | exact Sub.refl _ | refine Sub.skip rfl ?_)
       case az14 => exact rfl
       case bz14 => exact rfl
       case cz14 => exact rfl
       case dz14 => exact rfl
       refine ag ?_
       refine WL.nil (En.next (WC.ret ?_))
       refine En.ret1 rfl (Res.tmp rfl) ?_
       obtain rfl := Option.some.inj h
       intro w' hs
       exact ⟨rfl, hs.below⟩
      ·
       intro zK0_0
       refine WC.loopP (G := Unit) (fun s g => match s, g with | v_0, () => [(2, .int .i64 a_p2), (3, .int .i64 a_p3), (5, .pointer (some ⟨b0_0, 0, .none⟩)), (9, .pointer (some ⟨b5_5, 0, .none⟩)), (11, .bool ((((decide (a_p1.Orient = 0)) && (decide (a_p1.ToW = 0))) && (decide (a_p1.ToH = 0))) && (decide (a_p1.Alpha = 255)))), (12, .int .i64 v_0)]) (fun s g => match s, g with | v_0, () => [Chunk.box b0_0 61 [.bool a_p1.On, .int .i64 a_p1.X, .int .i64 a_p1.Y, .int .i64 a_p1.W, .int .i64 a_p1.H, .int .i64 a_p1.Layout, .slice q1_0 a_p1.Words.length k1_0, .int .i64 a_p1.Alpha, .int .i64 a_p1.Orient, .int .i64 a_p1.ToW, .int .i64 a_p1.ToH], Chunk.box b5_5 107 [.int .i64 x5_1a.W, .int .i64 x5_1a.H, .slice a5_100 n5_100 c5_100], Chunk.own tInt f5_100 a5_100 n5_100 c5_100 x5_1a.Data]) 0 () ezy0 (by exact sc (sc (sc (sc (sc (sc sn)))))) (by exact (fun _ h => (((h).pm 1).pm 1).pm 2)) ?_
       rintro zm0 v_0 ⟨⟩ zo0 zf0 zb0 ze0
       have zh0 : spec_PlaneOk_L0 x5_1a v_0 = some zo0 := zf0
       unfold spec_PlaneOk_L0 at zh0
       show WC _ _ _ _ _ [(2, .int .i64 a_p2), (3, .int .i64 a_p3), (5, .pointer (some ⟨b0_0, 0, .none⟩)), (9, .pointer (some ⟨b5_5, 0, .none⟩)), (11, .bool ((((decide (a_p1.Orient = 0)) && (decide (a_p1.ToW = 0))) && (decide (a_p1.ToH = 0))) && (decide (a_p1.Alpha = 255)))), (12, .int .i64 v_0)] [Chunk.box b0_0 61 [.bool a_p1.On, .int .i64 a_p1.X, .int .i64 a_p1.Y, .int .i64 a_p1.W, .int .i64 a_p1.H, .int .i64 a_p1.Layout, .slice q1_0 a_p1.Words.length k1_0, .int .i64 a_p1.Alpha, .int .i64 a_p1.Orient, .int .i64 a_p1.ToW, .int .i64 a_p1.ToH], Chunk.box b5_5 107 [.int .i64 x5_1a.W, .int .i64 x5_1a.H, .slice a5_100 n5_100 c5_100], Chunk.own tInt f5_100 a5_100 n5_100 c5_100 x5_1a.Data]
       refine WC.seq (WC.sr ?_)
       refine mv ?_
       refine sp (OpV.fieldAddr rfl fo_107_2) ?_
       refine sp (OpV.loadBox rfl pt_23 mq1 rfl) ?_
       refine sp (OpV.inhF fun hin => OpV.lenO (xs := x5_1a.Data) rfl si_23 rfl (ownLen hin mq2)) ?_
       refine sp (OpV.lss rfl rfl) ?_
       refine WL.nil (En.next ?_)
       refine WC.cond rfl ?_ ?_
       ·
        intro hc_6
        replace zh0 := ifO_t hc_6 zh0
        refine WC.skip (En.next (WC.seq (WC.block (WC.seq ?_))))
        refine WC.inh fun hin16 => ?_
        obtain ⟨x16_3, e16_3, zh0⟩ := bnd zh0
        obtain ⟨g16_3, o16_3, ha16_3⟩ := ownAddr hin16 mq2 e16_3
        have hn16_3 := ownLen hin16 mq2
        obtain ⟨x16_5, e16_5, zh0⟩ := bnd zh0
        refine WC.region ?_
        refine sp (OpV.fieldAddr rfl fo_107_2) ?_
        refine sp (OpV.loadBox rfl pt_23 mq1 rfl) ?_
        refine mv ?_
        refine sp (OpV.idxA rfl rfl se_23 ha16_3 ⟨(idx_some e16_3).1, by rw [hn16_3]; exact (idx_some e16_3).2.1⟩) ?_
        refine sp (OpV.load1 rfl pt_3 (fun w hs => Rd.cell1 tInt_flat (Ow.rd (hs.mem mq2)) e16_3 ha16_3 rfl)) ?_
        refine sp (OpV.call (ec rfl e0) ca_136 (fun w hs => w_spec_l10Opaque e16_5)) ?_
        refine sp (OpV.not rfl) ?_
        refine WL.nil (En.next ?_)
        refine WC.cond rfl ?_ ?_
        ·
         intro hc_7
         replace zh0 := ifO_t hc_7 zh0
         refine WC.sr ?_
         refine ag ?_
         refine WL.nil (En.next (WC.ret (En.block_ret (En.then_ret (En.then_ret (En.block_ret (En.then_ret ?_)))))))
         refine En.ret1 rfl (Res.tmp rfl) ?_
         have hx := exitP ze0 zh0
         subst hx
         replace h := fork_r h
         obtain rfl := Option.some.inj h
         intro w' hs
         exact ⟨rfl, hs.below⟩
        ·
         intro hc_7
         replace zh0 := ifO_f hc_7 zh0
         refine WC.skip (En.block_norm (En.next (WC.region ?_)))
         refine mv ?_
         refine sp (OpV.addR rfl rfl) ?_
         refine ag ?_
         refine WL.nil ?_
         exact En.backP zb0 zh0 () (sc (sc (sc (sc (sc (sc sn)))))) (fun _ h => h)
       ·
        intro hc_6
        replace zh0 := ifO_f hc_6 zh0
        refine WC.exit (En.then_exit (En.then_exit ?_))
        have hx := exitP ze0 zh0
        exact En.wk _ _ (sc (sc (sc (sc sn)))) (fun _ h => (h).sub (.cons_cons _ (.cons _ (.cons _ (.slnil))))) (zK0_0 ((), ()) hx.symm)

theorem w_spec_PlanesOk {list_p0 : List PlaneT} {w_p1 : Int} {h_p2 : Int} {r : Bool} {q0_0 : Option Addr} {l0_0 k0_0 : Nat} (h : spec_PlanesOk list_p0 w_p1 h_p2 = some r) {w : World} (r0_0 : Rd tPlane w q0_0 l0_0 k0_0 list_p0)   :
    Calls Tryz.prog 86 #[.slice q0_0 l0_0 k0_0, .int .i64 w_p1, .int .i64 h_p2] w (fun en w' => en = .returned (.bool r) ∧ Ext w w') := by
 obtain rfl := r0_0.1
 unfold spec_PlanesOk at h
 refine enter (vs := [_, _, _]) Tryz.func86 rfl rfl rfl rfl ?_
 refine WC.sr ?_
 refine ag ?_
 refine WL.nil (En.next (WC.seq (WC.sr ?_)))
 refine mv ?_
 refine sp (OpV.len rfl si_36 rfl) ?_
 refine sp (OpV.neq rfl rfl) ?_
 refine WL.nil (En.next ?_)
 refine WC.cond rfl ?_ ?_
 ·
  intro hc_1
  replace h := ifO_t hc_1 h
  refine WC.sr ?_
  refine ag ?_
  refine WL.nil (En.next (WC.ret (En.then_ret ?_)))
  refine En.ret1 rfl (Res.tmp rfl) ?_
  obtain rfl := Option.some.inj h
  intro w' hs
  exact ⟨rfl, hs.below⟩
 ·
  intro hc_1
  replace h := ifO_f hc_1 h
  refine WC.skip (En.next (WC.seq (WC.sr ?_)))
  refine ag ?_
  refine WL.nil (En.next (WC.block ?_))
  obtain ⟨zy0, ezy0, h⟩ := bnd h
  refine WC.cut (X := (Unit) × (Unit)) (.exit 0) (fun x => zy0 = .inl x.1) (fun x => match x with | ((), ()) => [(0, .slice q0_0 list_p0.length k0_0)]) (fun x => match x with | ((), ()) => []) ?_ ?_
  ·
   rintro ⟨⟨⟩, ⟨⟩⟩ hx
   replace hx : .inl () = zy0 := hx.symm
   subst hx
   replace h := fork_l h
   show En _ _ _ _ [(0, .slice q0_0 list_p0.length k0_0)] []
   refine En.block_exit (En.next (WC.seq ?_))
   obtain ⟨x8_1, e8_1, h⟩ := bnd h
   obtain ⟨g8_1, o8_1, _, ha8_1, ⟨a8_1_1, c8_1_1, rfl, r8_1_1⟩, hd8_1⟩ := Rd.atIdx r0_0 e8_1
   replace hd8_1 : ∀ (j : Nat) v, ([.bool x8_1.On, .int .i64 x8_1.X, .int .i64 x8_1.Y, .int .i64 x8_1.W, .int .i64 x8_1.H, .int .i64 x8_1.Layout, .slice a8_1_1 x8_1.Words.length c8_1_1, .int .i64 x8_1.Alpha, .int .i64 x8_1.Orient, .int .i64 x8_1.ToW, .int .i64 x8_1.ToH] : List Value)[j]? = some v → w.cell? ⟨g8_1, o8_1 + (Int.toNat 1) * 11 + j, .none⟩ = some v := hd8_1
   obtain ⟨q8_11, e8_11, h⟩ := bnd h
   refine WC.region ?_
   refine mv ?_
   refine sp (OpV.idxA rfl rfl se_36 ha8_1 ⟨(idx_some e8_1).1, (idx_some e8_1).2.1⟩) ?_
   refine sp (OpV.fieldAddr rfl fo_61_9) ?_
   refine sp (OpV.load1 rfl pt_3 (fun w hs => hs.cell (hd8_1 9 _ rfl))) ?_
   refine sp (OpV.eql rfl rfl) ?_
   refine mv ?_
   refine Lt.ofWL.orQ 31 37 36 (p := ?pz1) (rest := ?qz1) (B := q8_11) rfl (fun hz => orO_t e8_11 hz) ?Tz1 ?Fz1 ?az1 ?bz1 ?cz1 ?dz1 ?ez1
   case Tz1 =>
    intro hcz1 hkz1
    refine sk ?_
    refine sk ?_
    refine sk ?_
    refine sk ?_
    refine sk ?_
    refine hkz1 _ ?_
    repeat (first | exact Sub.refl _ | refine Sub.skip rfl ?_)
   case Fz1 =>
    intro hcz1 hkz1
    have hqz1 := orO_f e8_11 hcz1
    obtain ⟨x8_7, e8_7, hqz1⟩ := bnd hqz1
    obtain ⟨g8_7, o8_7, _, ha8_7, ⟨a8_7_1, c8_7_1, rfl, r8_7_1⟩, hd8_7⟩ := Rd.atIdx r0_0 e8_7
    replace hd8_7 : ∀ (j : Nat) v, ([.bool x8_7.On, .int .i64 x8_7.X, .int .i64 x8_7.Y, .int .i64 x8_7.W, .int .i64 x8_7.H, .int .i64 x8_7.Layout, .slice a8_7_1 x8_7.Words.length c8_7_1, .int .i64 x8_7.Alpha, .int .i64 x8_7.Orient, .int .i64 x8_7.ToW, .int .i64 x8_7.ToH] : List Value)[j]? = some v → w.cell? ⟨g8_7, o8_7 + (Int.toNat 2) * 11 + j, .none⟩ = some v := hd8_7
    obtain rfl := Option.some.inj hqz1
    refine mv ?_
    refine sp (OpV.idxA rfl rfl se_36 ha8_7 ⟨(idx_some e8_7).1, (idx_some e8_7).2.1⟩) ?_
    refine sp (OpV.fieldAddr rfl fo_61_9) ?_
    refine sp (OpV.load1 rfl pt_3 (fun w hs => hs.cell (hd8_7 9 _ rfl))) ?_
    refine sp (OpV.eql rfl rfl) ?_
    refine hkz1 _ ?_ ?_
    exact rfl
    repeat (first | exact Sub.refl _ | refine Sub.skip rfl ?_)
   case az1 => exact rfl
   case bz1 => exact rfl
   case cz1 => exact rfl
   case dz1 => exact rfl
   refine ag ?_
   refine WL.nil (En.next (WC.ret ?_))
   refine En.ret1 rfl (Res.tmp rfl) ?_
   obtain rfl := Option.some.inj h
   intro w' hs
   exact ⟨rfl, hs.below⟩
  ·
   intro zK0_0
   refine WC.loopP (G := Unit) (fun s g => match s, g with | k_0, () => [(0, .slice q0_0 list_p0.length k0_0), (1, .int .i64 w_p1), (2, .int .i64 h_p2), (7, .int .i64 k_0)]) (fun s g => match s, g with | k_0, () => []) 0 () ezy0 (by exact sc (sc (sc (sc sn)))) (by exact (fun _ h => h)) ?_
   rintro zm0 k_0 ⟨⟩ zo0 zf0 zb0 ze0
   have zh0 : spec_PlanesOk_L0 list_p0 w_p1 h_p2 k_0 = some zo0 := zf0
   unfold spec_PlanesOk_L0 at zh0
   show WC _ _ _ _ _ [(0, .slice q0_0 list_p0.length k0_0), (1, .int .i64 w_p1), (2, .int .i64 h_p2), (7, .int .i64 k_0)] []
   refine WC.seq (WC.sr ?_)
   refine mv ?_
   refine mv ?_
   refine sp (OpV.len rfl si_36 rfl) ?_
   refine sp (OpV.lss rfl rfl) ?_
   refine WL.nil (En.next ?_)
   refine WC.cond rfl ?_ ?_
   ·
    intro hc_2
    replace zh0 := ifO_t hc_2 zh0
    refine WC.skip (En.next (WC.seq (WC.block (WC.seq ?_))))
    obtain ⟨x6_3, e6_3, zh0⟩ := bnd zh0
    obtain ⟨g6_3, o6_3, _, ha6_3, ⟨a6_3_1, c6_3_1, rfl, r6_3_1⟩, hd6_3⟩ := Rd.atIdx r0_0 e6_3
    replace hd6_3 : ∀ (j : Nat) v, ([.bool x6_3.On, .int .i64 x6_3.X, .int .i64 x6_3.Y, .int .i64 x6_3.W, .int .i64 x6_3.H, .int .i64 x6_3.Layout, .slice a6_3_1 x6_3.Words.length c6_3_1, .int .i64 x6_3.Alpha, .int .i64 x6_3.Orient, .int .i64 x6_3.ToW, .int .i64 x6_3.ToH] : List Value)[j]? = some v → w.cell? ⟨g6_3, o6_3 + k_0.toNat * 11 + j, .none⟩ = some v := hd6_3
    obtain ⟨x6_7, e6_7, zh0⟩ := bnd zh0
    refine WC.region ?_
    refine mv ?_
    refine mv ?_
    refine mv ?_
    refine sp (OpV.idxA rfl rfl se_36 ha6_3 ⟨(idx_some e6_3).1, (idx_some e6_3).2.1⟩) ?_
    refine sp (OpV.loadN rfl ag_61 rfl (fun w hs => hs.cellsAt hd6_3)) ?_
    refine mv ?_
    refine mv ?_
    refine sp (OpV.call (ec rfl (ec rfl (ec rfl (ec rfl e0)))) ca_120 (fun w hs => w_spec_PlaneOk e6_7 (r6_3_1.ext hs.below))) ?_
    refine sp (OpV.not rfl) ?_
    refine WL.nil (En.next ?_)
    refine WC.cond rfl ?_ ?_
    ·
     intro hc_3
     replace zh0 := ifO_t hc_3 zh0
     refine WC.sr ?_
     refine ag ?_
     refine WL.nil (En.next (WC.ret (En.block_ret (En.then_ret (En.then_ret (En.block_ret (En.then_ret ?_)))))))
     refine En.ret1 rfl (Res.tmp rfl) ?_
     have hx := exitP ze0 zh0
     subst hx
     replace h := fork_r h
     obtain rfl := Option.some.inj h
     intro w' hs
     exact ⟨rfl, hs.below⟩
    ·
     intro hc_3
     replace zh0 := ifO_f hc_3 zh0
     refine WC.skip (En.block_norm (En.next (WC.region ?_)))
     refine mv ?_
     refine sp (OpV.addR rfl rfl) ?_
     refine ag ?_
     refine WL.nil ?_
     exact En.backP zb0 zh0 () (sc (sc (sc (sc sn)))) (fun _ h => h)
   ·
    intro hc_2
    replace zh0 := ifO_f hc_2 zh0
    refine WC.exit (En.then_exit (En.then_exit ?_))
    have hx := exitP ze0 zh0
    exact En.wk _ _ (sc sn) (fun _ h => h) (zK0_0 ((), ()) hx.symm)

theorem w_spec_ColorOk {m_p0 : ColorMapT} {r : Bool} {q0_0 : Option Addr} {l0_0 k0_0 : Nat} {q0_1 : Option Addr} {l0_1 k0_1 : Nat} (h : spec_ColorOk m_p0 = some r) {w : World} (r0_0 : Rd tInt w q0_0 l0_0 k0_0 m_p0.Matrix) (r0_1 : Rd tInt w q0_1 l0_1 k0_1 m_p0.Curve)   :
    Calls Tryz.prog 111 #[.agg #[.slice q0_0 l0_0 k0_0, .slice q0_1 l0_1 k0_1]] w (fun en w' => en = .returned (.bool r) ∧ Ext w w') := by
 obtain rfl := r0_0.1
 obtain rfl := r0_1.1
 unfold spec_ColorOk at h
 refine enter (vs := [_]) Tryz.func111 rfl rfl rfl rfl ?_
 refine WC.sr ?_
 refine WL.heavy rfl rfl rfl (OpH.box rfl rfl ?_)
 intro b0_0
 refine ag ?_
 refine WL.nil (En.next (WC.seq (WC.sr ?_)))
 refine sp (OpV.fieldAddr rfl fo_37_0) ?_
 refine sp (OpV.loadBox rfl pt_23 mq0 rfl) ?_
 refine sp (OpV.len rfl si_23 rfl) ?_
 refine sp (OpV.neq rfl rfl) ?_
 refine mv ?_
 refine Lt.ofWL.or 9 14 13 (p := ?pz1) (rest := ?qz1) (B := ?Bz1) rfl ?Tz1 ?Fz1 ?az1 ?bz1 ?cz1 ?dz1 ?ez1
 case Tz1 =>
  intro hcz1 hkz1
  refine sk ?_
  refine sk ?_
  refine sk ?_
  refine sk ?_
  refine hkz1 _ ?_
  repeat (first | exact Sub.refl _ | refine Sub.skip rfl ?_)
 case Fz1 =>
  intro hcz1 hkz1
  refine sp (OpV.fieldAddr rfl fo_37_1) ?_
  refine sp (OpV.loadBox rfl pt_23 mq0 rfl) ?_
  refine sp (OpV.len rfl si_23 rfl) ?_
  refine sp (OpV.neq rfl rfl) ?_
  refine hkz1 _ ?_ ?_
  exact rfl
  repeat (first | exact Sub.refl _ | refine Sub.skip rfl ?_)
 case az1 => exact rfl
 case bz1 => exact rfl
 case cz1 => exact rfl
 case dz1 => exact rfl
 refine WL.nil (En.next ?_)
 refine WC.cond rfl ?_ ?_
 ·
  intro hc_1
  replace h := ifO_t hc_1 h
  refine WC.sr ?_
  refine ag ?_
  refine WL.nil (En.next (WC.ret (En.then_ret ?_)))
  refine En.ret1 rfl (Res.tmp rfl) ?_
  obtain rfl := Option.some.inj h
  intro w' hs
  exact ⟨rfl, hs.below⟩
 ·
  intro hc_1
  replace h := ifO_f hc_1 h
  refine WC.skip (En.next (WC.seq (WC.sr ?_)))
  refine ag ?_
  refine WL.nil (En.next (WC.block ?_))
  obtain ⟨zy0, ezy0, h⟩ := bnd h
  refine WC.cut (X := (Unit) × (Unit)) (.exit 0) (fun x => zy0 = .inl x.1) (fun x => match x with | ((), ()) => [(1, .pointer (some ⟨b0_0, 0, .none⟩))]) (fun x => match x with | ((), ()) => [Chunk.box b0_0 37 [.slice q0_0 m_p0.Matrix.length k0_0, .slice q0_1 m_p0.Curve.length k0_1]]) ?_ ?_
  ·
   rintro ⟨⟨⟩, ⟨⟩⟩ hx
   replace hx : .inl () = zy0 := hx.symm
   subst hx
   replace h := fork_l h
   show En _ _ _ _ [(1, .pointer (some ⟨b0_0, 0, .none⟩))] [Chunk.box b0_0 37 [.slice q0_0 m_p0.Matrix.length k0_0, .slice q0_1 m_p0.Curve.length k0_1]]
   refine En.block_exit (En.next (WC.seq (WC.sr ?_)))
   refine ag ?_
   refine WL.nil (En.next (WC.block ?_))
   obtain ⟨zy1, ezy1, h⟩ := bnd h
   refine WC.cut (X := (Unit) × (Unit)) (.exit 2) (fun x => zy1 = .inl x.1) (fun x => match x with | ((), ()) => []) (fun x => match x with | ((), ()) => []) ?_ ?_
   ·
    rintro ⟨⟨⟩, ⟨⟩⟩ hx
    replace hx : .inl () = zy1 := hx.symm
    subst hx
    replace h := fork_l h
    show En _ _ _ _ [] []
    refine En.block_exit (En.next (WC.sr ?_))
    refine ag ?_
    refine WL.nil (En.next (WC.ret ?_))
    refine En.ret1 rfl (Res.tmp rfl) ?_
    obtain rfl := Option.some.inj h
    intro w' hs
    exact ⟨rfl, hs.below⟩
   ·
    intro zK1_0
    refine WC.loopP (G := Unit) (fun s g => match s, g with | k_1, () => [(1, .pointer (some ⟨b0_0, 0, .none⟩)), (4, .int .i64 k_1)]) (fun s g => match s, g with | k_1, () => [Chunk.box b0_0 37 [.slice q0_0 m_p0.Matrix.length k0_0, .slice q0_1 m_p0.Curve.length k0_1]]) 0 () ezy1 (by exact sc (sc sn)) (by exact (fun _ h => h)) ?_
    rintro zm1 k_1 ⟨⟩ zo1 zf1 zb1 ze1
    have zh1 : spec_ColorOk_L1 m_p0 k_1 = some zo1 := zf1
    unfold spec_ColorOk_L1 at zh1
    show WC _ _ _ _ _ [(1, .pointer (some ⟨b0_0, 0, .none⟩)), (4, .int .i64 k_1)] [Chunk.box b0_0 37 [.slice q0_0 m_p0.Matrix.length k0_0, .slice q0_1 m_p0.Curve.length k0_1]]
    refine WC.seq (WC.sr ?_)
    refine mv ?_
    refine sp (OpV.lss rfl rfl) ?_
    refine WL.nil (En.next ?_)
    refine WC.cond rfl ?_ ?_
    ·
     intro hc_2
     replace zh1 := ifO_t hc_2 zh1
     refine WC.skip (En.next (WC.seq (WC.block (WC.seq ?_))))
     obtain ⟨x11_3, e11_3, zh1⟩ := bnd zh1
     obtain ⟨g11_3, o11_3, _, ha11_3, rfl, hd11_3⟩ := Rd.atIdx r0_1 e11_3
     replace hd11_3 : ∀ (j : Nat) v, ([.int .i64 x11_3] : List Value)[j]? = some v → w.cell? ⟨g11_3, o11_3 + k_1.toNat * 1 + j, .none⟩ = some v := hd11_3
     obtain ⟨x11_5, e11_5, zh1⟩ := bnd zh1
     refine WC.region ?_
     refine sp (OpV.fieldAddr rfl fo_37_1) ?_
     refine sp (OpV.loadBox rfl pt_23 mq0 rfl) ?_
     refine mv ?_
     refine sp (OpV.idxA rfl rfl se_23 ha11_3 ⟨(idx_some e11_3).1, (idx_some e11_3).2.1⟩) ?_
     refine sp (OpV.load1 rfl pt_3 (fun w hs => hs.cell (hd11_3 0 _ rfl))) ?_
     refine sp (OpV.call (ec rfl (ec rfl (ec rfl e0))) ca_64 (fun w hs => w_spec_l01In e11_5)) ?_
     refine sp (OpV.not rfl) ?_
     refine WL.nil (En.next ?_)
     refine WC.cond rfl ?_ ?_
     ·
      intro hc_3
      replace zh1 := ifO_t hc_3 zh1
      refine WC.sr ?_
      refine ag ?_
      refine WL.nil (En.next (WC.ret (En.block_ret (En.then_ret (En.then_ret (En.block_ret (En.then_ret ?_)))))))
      refine En.ret1 rfl (Res.tmp rfl) ?_
      have hx := exitP ze1 zh1
      subst hx
      replace h := fork_r h
      obtain rfl := Option.some.inj h
      intro w' hs
      exact ⟨rfl, hs.below⟩
     ·
      intro hc_3
      replace zh1 := ifO_f hc_3 zh1
      refine WC.skip (En.block_norm (En.next (WC.region ?_)))
      refine mv ?_
      refine sp (OpV.addR rfl rfl) ?_
      refine ag ?_
      refine WL.nil ?_
      exact En.backP zb1 zh1 () (sc (sc sn)) (fun _ h => h)
    ·
     intro hc_2
     replace zh1 := ifO_f hc_2 zh1
     refine WC.exit (En.then_exit (En.then_exit ?_))
     have hx := exitP ze1 zh1
     exact En.wk _ _ sn (fun _ h => (h).sub (.cons _ (.slnil))) (zK1_0 ((), ()) hx.symm)
  ·
   intro zK0_0
   refine WC.loopP (G := Unit) (fun s g => match s, g with | k_0, () => [(1, .pointer (some ⟨b0_0, 0, .none⟩)), (3, .int .i64 k_0)]) (fun s g => match s, g with | k_0, () => [Chunk.box b0_0 37 [.slice q0_0 m_p0.Matrix.length k0_0, .slice q0_1 m_p0.Curve.length k0_1]]) 0 () ezy0 (by exact sc (sc sn)) (by exact (fun _ h => h)) ?_
   rintro zm0 k_0 ⟨⟩ zo0 zf0 zb0 ze0
   have zh0 : spec_ColorOk_L0 m_p0 k_0 = some zo0 := zf0
   unfold spec_ColorOk_L0 at zh0
   show WC _ _ _ _ _ [(1, .pointer (some ⟨b0_0, 0, .none⟩)), (3, .int .i64 k_0)] [Chunk.box b0_0 37 [.slice q0_0 m_p0.Matrix.length k0_0, .slice q0_1 m_p0.Curve.length k0_1]]
   refine WC.seq (WC.sr ?_)
   refine mv ?_
   refine sp (OpV.lss rfl rfl) ?_
   refine WL.nil (En.next ?_)
   refine WC.cond rfl ?_ ?_
   ·
    intro hc_4
    replace zh0 := ifO_t hc_4 zh0
    refine WC.skip (En.next (WC.seq (WC.block (WC.seq ?_))))
    obtain ⟨x6_3, e6_3, zh0⟩ := bnd zh0
    obtain ⟨g6_3, o6_3, _, ha6_3, rfl, hd6_3⟩ := Rd.atIdx r0_0 e6_3
    replace hd6_3 : ∀ (j : Nat) v, ([.int .i64 x6_3] : List Value)[j]? = some v → w.cell? ⟨g6_3, o6_3 + k_0.toNat * 1 + j, .none⟩ = some v := hd6_3
    obtain ⟨x6_5, e6_5, zh0⟩ := bnd zh0
    refine WC.region ?_
    refine sp (OpV.fieldAddr rfl fo_37_0) ?_
    refine sp (OpV.loadBox rfl pt_23 mq0 rfl) ?_
    refine mv ?_
    refine sp (OpV.idxA rfl rfl se_23 ha6_3 ⟨(idx_some e6_3).1, (idx_some e6_3).2.1⟩) ?_
    refine sp (OpV.load1 rfl pt_3 (fun w hs => hs.cell (hd6_3 0 _ rfl))) ?_
    refine sp (OpV.call (ec rfl (ec rfl (ec rfl e0))) ca_64 (fun w hs => w_spec_l01In e6_5)) ?_
    refine sp (OpV.not rfl) ?_
    refine WL.nil (En.next ?_)
    refine WC.cond rfl ?_ ?_
    ·
     intro hc_5
     replace zh0 := ifO_t hc_5 zh0
     refine WC.sr ?_
     refine ag ?_
     refine WL.nil (En.next (WC.ret (En.block_ret (En.then_ret (En.then_ret (En.block_ret (En.then_ret ?_)))))))
     refine En.ret1 rfl (Res.tmp rfl) ?_
     have hx := exitP ze0 zh0
     subst hx
     replace h := fork_r h
     obtain rfl := Option.some.inj h
     intro w' hs
     exact ⟨rfl, hs.below⟩
    ·
     intro hc_5
     replace zh0 := ifO_f hc_5 zh0
     refine WC.skip (En.block_norm (En.next (WC.region ?_)))
     refine mv ?_
     refine sp (OpV.addR rfl rfl) ?_
     refine ag ?_
     refine WL.nil ?_
     exact En.backP zb0 zh0 () (sc (sc sn)) (fun _ h => h)
   ·
    intro hc_4
    replace zh0 := ifO_f hc_4 zh0
    refine WC.exit (En.then_exit (En.then_exit ?_))
    have hx := exitP ze0 zh0
    exact En.wk _ _ (sc sn) (fun _ h => h) (zK0_0 ((), ()) hx.symm)

theorem w_spec_CrtcOk {c_p0 : CrtcT} {r : Bool} {q0_0 : Option Addr} {l0_0 k0_0 : Nat} {q0_1 : Option Addr} {l0_1 k0_1 : Nat} {q0_2 : Option Addr} {l0_2 k0_2 : Nat} (h : spec_CrtcOk c_p0 = some r) {w : World} (r0_0 : Rd tPlane w q0_0 l0_0 k0_0 c_p0.Planes) (r0_1 : Rd tInt w q0_1 l0_1 k0_1 c_p0.Color.Matrix) (r0_2 : Rd tInt w q0_2 l0_2 k0_2 c_p0.Color.Curve)   :
    Calls Tryz.prog 72 #[.agg #[.int .i64 c_p0.W, .int .i64 c_p0.H, .slice q0_0 l0_0 k0_0, .slice q0_1 l0_1 k0_1, .slice q0_2 l0_2 k0_2]] w (fun en w' => en = .returned (.bool r) ∧ Ext w w') := by
 obtain rfl := r0_0.1
 obtain rfl := r0_1.1
 obtain rfl := r0_2.1
 unfold spec_CrtcOk at h
 refine enter (vs := [_]) Tryz.func72 rfl rfl rfl rfl ?_
 refine WC.sr ?_
 refine WL.heavy rfl rfl rfl (OpH.box rfl rfl ?_)
 intro b0_0
 refine ag ?_
 refine WL.nil (En.next (WC.seq ?_))
 obtain ⟨x1_6, e1_6, h⟩ := bnd h
 obtain ⟨q1_11, e1_11, h⟩ := bnd h
 refine WC.region ?_
 refine sp (OpV.fieldAddr rfl fo_39_2) ?_
 refine sp (OpV.loadBox rfl pt_36 mq0 rfl) ?_
 refine sp (OpV.fieldAddr rfl fo_39_0) ?_
 refine sp (OpV.loadBox rfl pt_3 mq0 rfl) ?_
 refine sp (OpV.fieldAddr rfl fo_39_1) ?_
 refine sp (OpV.loadBox rfl pt_3 mq0 rfl) ?_
 refine sp (OpV.call (ec rfl (ec rfl (ec rfl e0))) ca_86 (fun w hs => w_spec_PlanesOk e1_6 (r0_0.ext hs.below))) ?_
 refine mv ?_
 refine Lt.ofWL.andQ 10 14 13 (p := ?pz1) (rest := ?qz1) (B := q1_11) rfl (fun hz => andO_f e1_11 hz) ?Tz1 ?Fz1 ?az1 ?bz1 ?cz1 ?dz1 ?ez1
 case Tz1 =>
  intro hcz1 hkz1
  have hqz1 := andO_t e1_11 hcz1
  obtain ⟨x1_10, e1_10, hqz1⟩ := bnd hqz1
  obtain rfl := Option.some.inj hqz1
  refine sp (OpV.fieldAddr rfl fo_39_3) ?_
  refine sp (OpV.loadPart rfl mq0 ag_37 rfl rfl) ?_
  refine sp (OpV.call (ec rfl e0) ca_111 (fun w hs => w_spec_ColorOk e1_10 (r0_1.ext hs.below) (r0_2.ext hs.below))) ?_
  refine hkz1 _ ?_ ?_
  exact rfl
  repeat (first | exact Sub.refl _ | refine Sub.skip rfl ?_)
 case Fz1 =>
  intro hcz1 hkz1
  refine sk ?_
  refine sk ?_
  refine sk ?_
  refine hkz1 _ ?_
  repeat (first | exact Sub.refl _ | refine Sub.skip rfl ?_)
 case az1 => exact rfl
 case bz1 => exact rfl
 case cz1 => exact rfl
 case dz1 => exact rfl
 refine ag ?_
 refine WL.nil (En.next (WC.ret ?_))
 refine En.ret1 rfl (Res.tmp rfl) ?_
 obtain rfl := Option.some.inj h
 intro w' hs
 exact ⟨rfl, hs.below⟩

theorem w_spec_BlankCrtc {w_p0 : Int} {h_p1 : Int} {p_p2 : Int} {r : CrtcT × Bool}  (h : spec_BlankCrtc w_p0 h_p1 p_p2 = some r) {w : World}    :
    Calls Tryz.prog 28 #[.int .i64 w_p0, .int .i64 h_p1, .int .i64 p_p2] w (fun en w' => ∃ rv G, en = .returned rv ∧ (∃ (a0_0 : Option Addr) (n0_0 : Nat) (c0_0 : Nat) (f0_0 : List Nat) (a0_1 : Option Addr) (n0_1 : Nat) (c0_1 : Nat) (f0_1 : List Nat) (a0_2 : Option Addr) (n0_2 : Nat) (c0_2 : Nat) (f0_2 : List Nat), rv = .tuple #[.agg #[.int .i64 r.1.W, .int .i64 r.1.H, .slice a0_0 n0_0 c0_0, .slice a0_1 n0_1 c0_1, .slice a0_2 n0_2 c0_2], .bool r.2] ∧ G = [Chunk.own tPlane f0_0 a0_0 n0_0 c0_0 r.1.Planes, Chunk.own tInt f0_1 a0_1 n0_1 c0_1 r.1.Color.Matrix, Chunk.own tInt f0_2 a0_2 n0_2 c0_2 r.1.Color.Curve]) ∧ St w G w') := by
 unfold spec_BlankCrtc at h
 refine enter (vs := [_, _, _]) Tryz.func28 rfl rfl rfl rfl ?_
 refine WC.sr ?_
 refine WL.heavy rfl rfl rfl (OpH.alloc zc_39 ?_)
 intro b0_0
 refine ag ?_
 refine WL.nil (En.next (WC.seq ?_))
 obtain ⟨x1_5, e1_5, h⟩ := bnd h
 obtain ⟨x1_6, e1_6, h⟩ := bnd h
 obtain ⟨x1_11, e1_11, h⟩ := bnd h
 refine WC.region ?_
 refine mv ?_
 refine mv ?_
 refine mv ?_
 refine mv ?_
 refine mv ?_
 refine WL.heavy rfl rfl rfl (OpH.callR (ec rfl (ec rfl (ec rfl e0))) ca_83 (fun w hs => w_spec_NewImage e1_5) ?_)
 rintro _ _ ⟨a1_500, n1_500, c1_500, f1_500, rfl, rfl⟩
 refine WL.heavy rfl rfl rfl (OpH.callR (ec rfl (ec rfl (ec rfl (ec rfl e0)))) ca_82 (fun w hs => w_spec_PlaneOf e1_6 (Ow.rd (hs.mem mq0))) ?_)
 rintro _ _ ⟨a1_600, n1_600, c1_600, f1_600, rfl, rfl⟩
 refine sp (OpV.build (evps.nil) bd_61_) ?_
 refine sp (OpV.build (evps.nil) bd_61_) ?_
 refine sp (OpV.build (evps.nil) bd_61_) ?_
 refine WL.wkF (fun _ h => h.innNil (A := tPlane)) ?_
 refine WL.wkF (fun _ h => h.pm 1) ?_
 refine WL.wkF (fun _ h => tPlane_mk x1_6.On x1_6.X x1_6.Y x1_6.W x1_6.H x1_6.Layout x1_6.Words x1_6.Alpha x1_6.Orient x1_6.ToW x1_6.ToH h) ?_
 refine WL.wkF (fun _ h => h.innSnoc) ?_
 refine WL.wkF (fun _ h => h.ownNil (A := tInt)) ?_
 refine WL.wkF (fun _ h => tPlane_mk false 0 0 0 0 0 ([] : List Int) 0 0 0 0 h) ?_
 refine WL.wkF (fun _ h => h.innSnoc) ?_
 refine WL.wkF (fun _ h => h.ownNil (A := tInt)) ?_
 refine WL.wkF (fun _ h => tPlane_mk false 0 0 0 0 0 ([] : List Int) 0 0 0 0 h) ?_
 refine WL.wkF (fun _ h => h.innSnoc) ?_
 refine WL.wkF (fun _ h => h.ownNil (A := tInt)) ?_
 refine WL.wkF (fun _ h => tPlane_mk false 0 0 0 0 0 ([] : List Int) 0 0 0 0 h) ?_
 refine WL.wkF (fun _ h => h.innSnoc) ?_
 refine WL.heavy rfl rfl rfl (OpH.litN (A := tPlane) (evps.cons rfl (evps.cons rfl (evps.cons rfl (evps.cons rfl (evps.nil))))) (bs_36_4_0_1_2_3 _ _ _ _ _ _ _ _ _ _ _ _ _ _ _ _ _ _ _ _ _ _ _ _ _ _ _ _ _ _ _ _ _ _ _ _ _ _ _ _ _ _ _ _ _ _ _ _ _ _ _ _) rfl rfl (Nat.le_of_ble_eq_true rfl) ?_)
 intro b1_10 f1_10
 refine WL.heavy rfl rfl rfl (OpH.callR e0 ca_84 (fun w hs => w_spec_IdentityColor e1_11) ?_)
 rintro _ _ ⟨a1_1100, n1_1100, c1_1100, f1_1100, a1_1101, n1_1101, c1_1101, f1_1101, rfl, rfl⟩
 refine sp (OpV.build (evps.cons rfl (evps.cons rfl (evps.cons rfl (evps.cons rfl (evps.nil))))) (bd_39_0_1_2_3 _ _ _ _ _ _ _ _ _ _ _)) ?_
 refine WL.heavy rfl rfl rfl (OpH.alloc zc_39 ?_)
 intro b1_13
 refine WL.heavy0 rfl rfl (OpH.storeTo (A := []) [_, _, _, _, _] rfl rfl rfl ts_39 rfl rfl rfl ?_)
 refine WL.nil (En.next (WC.seq (WC.seq ?_)))
 obtain ⟨x2_1, e2_1, h⟩ := bnd h
 refine WC.region ?_
 refine sp (OpV.loadAll rfl mq0 ag_39) ?_
 refine sp (OpV.call (ec rfl e0) ca_72 (fun w hs => w_spec_CrtcOk e2_1 (Ow.rd (hs.mem mq3)) (Ow.rd (hs.mem mq1)) (Ow.rd (hs.mem mq2)))) ?_
 refine sp (OpV.not rfl) ?_
 refine WL.nil (En.next ?_)
 refine WC.cond rfl ?_ ?_
 ·
  intro hc_1
  replace h := ifO_t hc_1 h
  refine WC.sr ?_
  refine sp (OpV.build (evps.nil) bd_39_) ?_
  refine WL.heavy0 rfl rfl (OpH.storeTo (A := [_, _, _, _, _]) [_, _, _, _, _] rfl rfl rfl ts_39 rfl rfl rfl ?_)
  refine ag ?_
  refine WL.nil (En.next (WC.ret (En.then_ret ?_)))
  refine En.ret2 rfl (Res.cell rfl mq5 ag_39) (Res.tmp rfl) ?_
  obtain rfl := Option.some.inj h
  intro w' hs
  have hs := ((((((hs).ownNil (A := tPlane)).ownNil (A := tInt)).ownNil (A := tInt)).pm 1).pm 2).sub (.cons_cons _ (.cons_cons _ (.cons_cons _ (.cons _ (.cons _ (.cons _ (.cons _ (.cons _ (.cons _ (.slnil))))))))))
  exact ⟨_, _, rfl, ⟨.none, 0, 0, [], .none, 0, 0, [], .none, 0, 0, [], rfl, rfl⟩, hs⟩
 ·
  intro hc_1
  replace h := ifO_f hc_1 h
  refine WC.skip (En.next (WC.sr ?_))
  refine sp (OpV.loadAll rfl mq0 ag_39) ?_
  refine WL.heavy0 rfl rfl (OpH.storeTo (A := [_, _, _, _, _]) [_, _, _, _, _] rfl rfl rfl ts_39 rfl rfl rfl ?_)
  refine ag ?_
  refine WL.nil (En.next (WC.ret ?_))
  refine En.ret2 rfl (Res.cell rfl mq5 ag_39) (Res.tmp rfl) ?_
  obtain rfl := Option.some.inj h
  intro w' hs
  have hs := ((((hs).pm 2).pm 2).pm 3).sub (.cons_cons _ (.cons_cons _ (.cons_cons _ (.cons _ (.cons _ (.cons _ (.slnil)))))))
  exact ⟨_, _, rfl, ⟨(some ⟨b1_10, 0, .none⟩), 4, 4, f1_10, a1_1100, n1_1100, c1_1100, f1_1100, a1_1101, n1_1101, c1_1101, f1_1101, rfl, rfl⟩, hs⟩

theorem w_laws_at {code_p0 : List Int} {i_p1 : Int} {r : Int} {q0_0 : Option Addr} {l0_0 k0_0 : Nat} (h : laws_at code_p0 i_p1 = some r) {w : World} (r0_0 : Rd tU8 w q0_0 l0_0 k0_0 code_p0)   :
    Calls Tryz.prog 29 #[.slice q0_0 l0_0 k0_0, .int .i64 i_p1] w (fun en w' => en = .returned (.int .i64 r) ∧ Ext w w') := by
 obtain rfl := r0_0.1
 unfold laws_at at h
 refine enter (vs := [_, _]) Tryz.func29 rfl rfl rfl rfl ?_
 refine WC.sr ?_
 refine ag ?_
 refine WL.nil (En.next (WC.seq (WC.sr ?_)))
 refine mv ?_
 refine sp (OpV.len rfl si_51 rfl) ?_
 refine sp (OpV.eql rfl rfl) ?_
 refine WL.nil (En.next ?_)
 refine WC.cond rfl ?_ ?_
 ·
  intro hc_1
  replace h := ifO_t hc_1 h
  refine WC.sr ?_
  refine ag ?_
  refine WL.nil (En.next (WC.ret (En.then_ret ?_)))
  refine En.ret1 rfl (Res.tmp rfl) ?_
  obtain rfl := Option.some.inj h
  intro w' hs
  exact ⟨rfl, hs.below⟩
 ·
  intro hc_1
  replace h := ifO_f hc_1 h
  refine WC.skip (En.next (WC.seq ?_))
  obtain ⟨x3_6, e3_6, h⟩ := bnd h
  obtain ⟨x3_7, e3_7, h⟩ := bnd h
  obtain ⟨g3_7, o3_7, _, ha3_7, rfl, hd3_7⟩ := Rd.atIdx r0_0 e3_7
  replace hd3_7 : ∀ (j : Nat) v, ([.int .u8 x3_7] : List Value)[j]? = some v → w.cell? ⟨g3_7, o3_7 + x3_6.toNat * 1 + j, .none⟩ = some v := hd3_7
  refine WC.region ?_
  refine mv ?_
  refine mv ?_
  refine sp (OpV.mulR rfl rfl) ?_
  refine sp (OpV.addR rfl rfl) ?_
  refine mv ?_
  refine sp (OpV.len rfl si_51 rfl) ?_
  refine sp (OpV.remR rfl rfl e3_6) ?_
  refine sp (OpV.idxA rfl rfl se_51 ha3_7 ⟨(idx_some e3_7).1, (idx_some e3_7).2.1⟩) ?_
  refine sp (OpV.load1 rfl pt_5 (fun w hs => hs.cell (hd3_7 0 _ rfl))) ?_
  refine sp (OpV.convR rfl uS_5 ui_3_i64) ?_
  refine ag ?_
  refine WL.nil (En.next (WC.ret ?_))
  refine En.ret1 rfl (Res.tmp rfl) ?_
  obtain rfl := Option.some.inj h
  intro w' hs
  exact ⟨rfl, hs.below⟩

theorem w_slices_Clone_S_int_int {s_p0 : List Int} {r : List Int} {q0_0 : Option Addr} {n0_0 k0_0 : Nat} (h : slices_Clone_S_int_int s_p0 = some r) {w : World} (r0_0 : Rd tInt w q0_0 n0_0 k0_0 s_p0) :
    Calls Tryz.prog 98 #[.slice q0_0 n0_0 k0_0] w (fun en w' => ∃ rv G, en = .returned rv ∧ (∃ (a0_0 : Option Addr) (n0_0 : Nat) (c0_0 : Nat) (f0_0 : List Nat), rv = .slice a0_0 n0_0 c0_0 ∧ G = [Chunk.own tInt f0_0 a0_0 n0_0 c0_0 r]) ∧ St w G w') := by
  obtain rfl := r0_0.1
  obtain ⟨hn, h⟩ := need_some h
  obtain rfl := Option.some.inj h
  refine enter (vs := [_]) Tryz.func98 rfl rfl rfl rfl ?_
  refine WC.sr ?_
  refine ag ?_
  refine WL.nil (En.next (WC.seq (WC.sr ?_)))
  refine mv ?_
  refine sp (OpV.eqNil rfl si_23) ?_
  refine WL.nil (En.next ?_)
  refine WC.cond rfl ?_ ?_
  · intro hc
    have hnil := Rd.isNil r0_0 hc
    refine WC.sr ?_
    refine ag ?_
    refine WL.nil (En.next (WC.ret (En.then_ret ?_)))
    refine En.ret1 rfl (Res.tmp rfl) ?_
    intro w' hs
    refine ⟨_, _, rfl, ⟨.none, 0, 0, [], rfl, rfl⟩, ?_⟩
    rw [hnil]; exact hs.ownNil
  · intro hc
    refine WC.skip (En.next (WC.sr ?_))
    refine WL.heavy rfl rfl rfl (OpH.lit0 (A := tInt) evps.nil bs_23_0_ ?_)
    intro b
    refine mv ?_
    refine WL.heavy rfl rfl rfl (OpH.appS (F := []) (A := tInt) tInt_flat rfl rfl rfl mi_23 rfl (by decide) (fun w hs => r0_0.ext hs.below) (app_nil hn) ?_)
    intro fp a c
    refine ag ?_
    refine WL.nil (En.next (WC.ret ?_))
    refine En.ret1 rfl (Res.tmp rfl) ?_
    intro w' hs
    exact ⟨_, _, rfl, ⟨_, _, _, _, rfl, rfl⟩, hs⟩

theorem w_impl_copyPlanes {list_p0 : List PlaneT} {r : List PlaneT} {q0_0 : Option Addr} {n0_0 k0_0 : Nat} (h : impl_copyPlanes list_p0 = some r) {w : World} (r0_0 : Rd tPlane w q0_0 n0_0 k0_0 list_p0) :
    Calls Tryz.prog 76 #[.slice q0_0 n0_0 k0_0] w (fun en w' => ∃ rv G, en = .returned rv ∧ (∃ (a0_0 : Option Addr) (n0_0 : Nat) (c0_0 : Nat) (f0_0 : List Nat), rv = .slice a0_0 n0_0 c0_0 ∧ G = [Chunk.own tPlane f0_0 a0_0 n0_0 c0_0 r]) ∧ St w G w') := by
 unfold impl_copyPlanes at h
 obtain ⟨⟨h1, h2⟩, h⟩ := need_some h
 obtain rfl := Option.some.inj h
 exact w_copyPlanesO h1 h2 r0_0 (fun s q n k w hs hr => w_slices_Clone_S_int_int (show slices_Clone_S_int_int s = some s from need_t hs _) hr)

theorem w_impl_copyColor {m_p0 : ColorMapT} {r : ColorMapT} {q0_0 : Option Addr} {l0_0 k0_0 : Nat} {q0_1 : Option Addr} {l0_1 k0_1 : Nat} (h : impl_copyColor m_p0 = some r) {w : World} (r0_0 : Rd tInt w q0_0 l0_0 k0_0 m_p0.Matrix) (r0_1 : Rd tInt w q0_1 l0_1 k0_1 m_p0.Curve)   :
    Calls Tryz.prog 79 #[.agg #[.slice q0_0 l0_0 k0_0, .slice q0_1 l0_1 k0_1]] w (fun en w' => ∃ rv G, en = .returned rv ∧ (∃ (a0_0 : Option Addr) (n0_0 : Nat) (c0_0 : Nat) (f0_0 : List Nat) (a0_1 : Option Addr) (n0_1 : Nat) (c0_1 : Nat) (f0_1 : List Nat), rv = .agg #[.slice a0_0 n0_0 c0_0, .slice a0_1 n0_1 c0_1] ∧ G = [Chunk.own tInt f0_0 a0_0 n0_0 c0_0 r.Matrix, Chunk.own tInt f0_1 a0_1 n0_1 c0_1 r.Curve]) ∧ St w G w') := by
 obtain rfl := r0_0.1
 obtain rfl := r0_1.1
 unfold impl_copyColor at h
 refine enter (vs := [_]) Tryz.func79 rfl rfl rfl rfl ?_
 refine WC.sr ?_
 refine WL.heavy rfl rfl rfl (OpH.box rfl rfl ?_)
 intro b0_0
 refine WL.heavy rfl rfl rfl (OpH.alloc zc_37 ?_)
 intro b0_1
 refine WL.nil (En.next (WC.seq ?_))
 obtain ⟨x1_2, e1_2, h⟩ := bnd h
 obtain ⟨x1_5, e1_5, h⟩ := bnd h
 refine WC.drawnH [_] ([_]) (fun _ h => h) (by kernel_rfl) ?_
 refine tk 0 rfl (OpV.fieldAddr rfl fo_37_0) ?_
 refine tk 1 rfl (OpV.loadBox rfl pt_23 mq0 rfl) ?_
 refine tk 3 rfl (OpV.fieldAddr rfl fo_37_1) ?_
 refine tk 4 rfl (OpV.loadBox rfl pt_23 mq0 rfl) ?_
 refine al1 2 rfl ?_
 refine OpH.callR (ec rfl e0) ca_98 (fun w hs => w_slices_Clone_S_int_int e1_2 (r0_0.ext hs.below)) ?_
 rintro _ _ ⟨a1_200, n1_200, c1_200, f1_200, rfl, rfl⟩
 refine ⟨[_, _], rfl, ?_⟩
 refine al1 5 rfl ?_
 refine OpH.callR (ec rfl e0) ca_98 (fun w hs => w_slices_Clone_S_int_int e1_5 (r0_1.ext hs.below)) ?_
 rintro _ _ ⟨a1_500, n1_500, c1_500, f1_500, rfl, rfl⟩
 refine ⟨[_, _, _], rfl, ?_⟩
 refine tk 6 rfl (OpV.build (evps.cons rfl (evps.cons rfl (evps.nil))) (bd_37_0_1 _ _ _ _ _ _)) ?_
 refine al0 7 rfl ?_
 refine OpH.storeTo (A := [_, _]) [_, _] rfl rfl rfl ts_37 rfl rfl rfl ?_
 refine ⟨[_, _, _], rfl, ?_⟩
 refine WAE.rebase (H := []) ?_
 refine WAE.done (by kernel_rfl) ?_ _
 refine En.next (WC.ret ?_)
 refine En.ret1 rfl (Res.cell rfl mq2 ag_37) ?_
 obtain rfl := Option.some.inj h
 intro w' hs
 have hs := ((hs).pm 1).sub (.cons_cons _ (.cons_cons _ (.cons _ (.cons _ (.slnil)))))
 exact ⟨_, _, rfl, ⟨a1_200, n1_200, c1_200, f1_200, a1_500, n1_500, c1_500, f1_500, rfl, rfl⟩, hs⟩

end Go.Proofs.YtmhalmnbgkpmnaaGreat
