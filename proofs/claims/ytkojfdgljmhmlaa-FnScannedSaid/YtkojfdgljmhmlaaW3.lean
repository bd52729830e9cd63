/- Walks: the program computes the pure functions. -/
import Derived.Test.YtkojfdgljmhmlaaW2
namespace Go.Proofs.Ytkojfdgljmhmlaa
open Go.RowKit K
set_option maxRecDepth 100000
set_option maxHeartbeats 4000000

theorem w_impl_ScanOut {list_p0 : List PlaneT} {w_p1 : Int} {h_p2 : Int} {r : ImageT} {q0_0 : Option Addr} {l0_0 k0_0 : Nat} (h : impl_ScanOut list_p0 w_p1 h_p2 = some r) {w : World} (r0_0 : Rd tPlane w q0_0 l0_0 k0_0 list_p0)   :
    Calls Try.prog 36 #[.slice q0_0 l0_0 k0_0, .int .i64 w_p1, .int .i64 h_p2] w (fun en w' => ∃ rv G, en = .returned rv ∧ (∃ (a0_0 : Option Addr) (n0_0 : Nat) (c0_0 : Nat) (f0_0 : List Nat), rv = .agg #[.int .i64 r.W, .int .i64 r.H, .slice a0_0 n0_0 c0_0] ∧ G = [Chunk.own tInt f0_0 a0_0 n0_0 c0_0 r.Data]) ∧ St w G w') := by
 obtain rfl := r0_0.1
 unfold impl_ScanOut at h
 refine enter (vs := [_, _, _]) Try.func36 rfl rfl rfl rfl ?_
 refine WC.seq (WC.region ?_)
 refine WL.heavy rfl rfl rfl (OpH.alloc zc_36 ?_)
 intro b0_0
 refine WL.nil (En.next (WC.seq (WC.seq ?_)))
 obtain ⟨x1_3, e1_3, h⟩ := bnd h
 refine WC.region ?_
 refine sp (OpV.move rfl) ?_
 refine sp (OpV.move rfl) ?_
 refine sp (OpV.move rfl) ?_
 refine sp (OpV.call (evs.cons rfl (evs.cons rfl (evs.cons rfl (evs.nil)))) ca_37 (fun w hs => w_impl_PlanesOk e1_3 (r0_0.ext hs.below))) ?_
 refine sp (OpV.not rfl) ?_
 refine WL.nil (En.next ?_)
 refine WC.cond rfl ?_ ?_
 ·
  intro hc_1
  replace h := ifO_t hc_1 h
  refine WC.seq (WC.region ?_)
  refine sp (OpV.build (evps.nil) bd_36_) ?_
  refine WL.heavy0 rfl rfl (OpH.storeTo (A := []) [_, _, _] rfl rfl rfl ts_36 rfl rfl rfl ?_)
  refine WL.nil (En.next (WC.ret (En.then_ret ?_)))
  refine En.ret1 rfl (Res.cell rfl (.head _) ag_36) ?_
  obtain rfl := Option.some.inj h
  intro w' hs
  have hs := ((hs).ownNil (A := tInt)).sub (.cons_cons _ (.cons _ (.slnil)))
  exact ⟨_, _, rfl, ⟨.none, 0, 0, [], rfl, rfl⟩, hs⟩
 ·
  intro hc_1
  replace h := ifO_f hc_1 h
  refine WC.skip (En.next (WC.seq ?_))
  obtain ⟨x3_1, e3_1, h⟩ := bnd h
  refine WC.region ?_
  refine sp (OpV.move rfl) ?_
  refine WL.heavy rfl rfl rfl (OpH.callR (evs.cons rfl (evs.nil)) ca_90 (fun w hs => w_impl_scanned e3_1 (r0_0.ext hs.below)) ?_)
  rintro _ _ ⟨a3_100, n3_100, c3_100, f3_100, rfl, rfl⟩
  refine WL.heavy0 rfl rfl (OpH.storeTo (A := [_]) [_, _, _] rfl rfl rfl ts_36 rfl rfl rfl ?_)
  refine WL.nil (En.next (WC.ret ?_))
  refine En.ret1 rfl (Res.cell rfl (.tail _ (.head _)) ag_36) ?_
  obtain rfl := Option.some.inj h
  intro w' hs
  have hs := (hs).sub (.cons_cons _ (.cons _ (.slnil)))
  exact ⟨_, _, rfl, ⟨a3_100, n3_100, c3_100, f3_100, rfl, rfl⟩, hs⟩

theorem w_laws_at {code_p0 : List Int} {i_p1 : Int} {r : Int} {q0_0 : Option Addr} {l0_0 k0_0 : Nat} (h : laws_at code_p0 i_p1 = some r) {w : World} (r0_0 : Rd tU8 w q0_0 l0_0 k0_0 code_p0)   :
    Calls Try.prog 17 #[.slice q0_0 l0_0 k0_0, .int .i64 i_p1] w (fun en w' => en = .returned (.int .i64 r) ∧ Ext w w') := by
 obtain rfl := r0_0.1
 unfold laws_at at h
 refine enter (vs := [_, _]) Try.func17 rfl rfl rfl rfl ?_
 refine WC.seq (WC.region ?_)
 refine sp (OpV.assign rfl) ?_
 refine WL.nil (En.next (WC.seq (WC.seq (WC.region ?_))))
 refine sp (OpV.move rfl) ?_
 refine sp (OpV.len rfl si_22 rfl) ?_
 refine sp (OpV.eql rfl rfl) ?_
 refine WL.nil (En.next ?_)
 refine WC.cond rfl ?_ ?_
 ·
  intro hc_1
  replace h := ifO_t hc_1 h
  refine WC.seq (WC.region ?_)
  refine sp (OpV.assign rfl) ?_
  refine WL.nil (En.next (WC.ret (En.then_ret ?_)))
  refine En.ret1 rfl (Res.tmp rfl) ?_
  obtain rfl := Option.some.inj h
  intro w' hs
  exact ⟨rfl, hs.below⟩
 ·
  intro hc_1
  replace h := ifO_f hc_1 h
  refine WC.skip (En.next (WC.seq ?_))
  obtain ⟨x3_6, e3_6, h⟩ := bnd h
  obtain ⟨x3_7, e3_7, h⟩ := bnd h
  obtain ⟨g3_7, o3_7, _, ha3_7, rfl, hd3_7⟩ := Rd.atIdx r0_0 e3_7
  replace hd3_7 : ∀ (j : Nat) v, ([.int .u8 x3_7] : List Value)[j]? = some v → w.cell? ⟨g3_7, o3_7 + x3_6.toNat * 1 + j, .none⟩ = some v := hd3_7
  refine WC.region ?_
  refine sp (OpV.move rfl) ?_
  refine sp (OpV.move rfl) ?_
  refine sp (OpV.mulR rfl rfl) ?_
  refine sp (OpV.addR rfl rfl) ?_
  refine sp (OpV.move rfl) ?_
  refine sp (OpV.len rfl si_22 rfl) ?_
  refine sp (OpV.remR rfl rfl e3_6) ?_
  refine sp (OpV.idxA rfl rfl se_22 ha3_7 ⟨(idx_some e3_7).1, (idx_some e3_7).2.1⟩) ?_
  refine sp (OpV.load1 rfl pt_5 (fun w hs => hs.cell (hd3_7 0 _ rfl))) ?_
  refine sp (OpV.convR rfl uS_5 ui_3_i64) ?_
  refine sp (OpV.assign rfl) ?_
  refine WL.nil (En.next (WC.ret ?_))
  refine En.ret1 rfl (Res.tmp rfl) ?_
  obtain rfl := Option.some.inj h
  intro w' hs
  exact ⟨rfl, hs.below⟩

theorem w_slices_Clone_S_int_int {s_p0 : List Int} {r : List Int} {q0_0 : Option Addr} {n0_0 k0_0 : Nat} (h : slices_Clone_S_int_int s_p0 = some r) {w : World} (r0_0 : Rd tInt w q0_0 n0_0 k0_0 s_p0) :
    Calls Try.prog 111 #[.slice q0_0 n0_0 k0_0] w (fun en w' => ∃ rv G, en = .returned rv ∧ (∃ (a0_0 : Option Addr) (n0_0 : Nat) (c0_0 : Nat) (f0_0 : List Nat), rv = .slice a0_0 n0_0 c0_0 ∧ G = [Chunk.own tInt f0_0 a0_0 n0_0 c0_0 r]) ∧ St w G w') := by
  obtain rfl := r0_0.1
  obtain ⟨hn, h⟩ := need_some h
  obtain rfl := Option.some.inj h
  refine enter (vs := [_]) Try.func111 rfl rfl rfl rfl ?_
  refine WC.seq (WC.region ?_)
  refine sp (OpV.assign rfl) ?_
  refine WL.nil (En.next (WC.seq (WC.seq (WC.region ?_))))
  refine sp (OpV.move rfl) ?_
  refine sp (OpV.eqNil rfl si_32) ?_
  refine WL.nil (En.next ?_)
  refine WC.cond rfl ?_ ?_
  · intro hc
    have hnil := Rd.isNil r0_0 hc
    refine WC.seq (WC.region ?_)
    refine sp (OpV.assign rfl) ?_
    refine WL.nil (En.next (WC.ret (En.then_ret ?_)))
    refine En.ret1 rfl (Res.tmp rfl) ?_
    intro w' hs
    refine ⟨_, _, rfl, ⟨.none, 0, 0, [], rfl, rfl⟩, ?_⟩
    rw [hnil]; exact hs.ownNil
  · intro hc
    refine WC.skip (En.next (WC.seq (WC.region ?_)))
    refine WL.heavy rfl rfl rfl (OpH.lit0 (A := tInt) evps.nil bs_32_0_ ?_)
    intro b
    refine sp (OpV.move rfl) ?_
    refine WL.heavy rfl rfl rfl (OpH.appS (F := []) (A := tInt) tInt_flat rfl rfl rfl mi_32 rfl (by decide) (fun w hs => r0_0.ext hs.below) (app_nil hn) ?_)
    intro fp a c
    refine sp (OpV.assign rfl) ?_
    refine WL.nil (En.next (WC.ret ?_))
    refine En.ret1 rfl (Res.tmp rfl) ?_
    intro w' hs
    exact ⟨_, _, rfl, ⟨_, _, _, _, rfl, rfl⟩, hs⟩

theorem w_impl_ScanLine {list_p0 : List PlaneT} {w_p1 : Int} {h_p2 : Int} {y_p3 : Int} {r : (List Int)} {q0_0 : Option Addr} {l0_0 k0_0 : Nat} (h : impl_ScanLine list_p0 w_p1 h_p2 y_p3 = some r) {w : World} (r0_0 : Rd tPlane w q0_0 l0_0 k0_0 list_p0)   :
    Calls Try.prog 53 #[.slice q0_0 l0_0 k0_0, .int .i64 w_p1, .int .i64 h_p2, .int .i64 y_p3] w (fun en w' => ∃ rv G, en = .returned rv ∧ (∃ (a0_0 : Option Addr) (n0_0 : Nat) (c0_0 : Nat) (f0_0 : List Nat), rv = .slice a0_0 n0_0 c0_0 ∧ G = [Chunk.own tInt f0_0 a0_0 n0_0 c0_0 r]) ∧ St w G w') := by
 obtain rfl := r0_0.1
 unfold impl_ScanLine at h
 refine enter (vs := [_, _, _, _]) Try.func53 rfl rfl rfl rfl ?_
 refine WC.seq (WC.region ?_)
 refine sp (OpV.assign rfl) ?_
 refine WL.nil (En.next (WC.seq (WC.seq ?_)))
 obtain ⟨x1_3, e1_3, h⟩ := bnd h
 obtain ⟨q1_11, e1_11, h⟩ := bnd h
 refine WC.region ?_
 refine sp (OpV.move rfl) ?_
 refine sp (OpV.move rfl) ?_
 refine sp (OpV.move rfl) ?_
 refine sp (OpV.call (evs.cons rfl (evs.cons rfl (evs.cons rfl (evs.nil)))) ca_37 (fun w hs => w_impl_PlanesOk e1_3 (r0_0.ext hs.below))) ?_
 refine sp (OpV.not rfl) ?_
 refine sp (OpV.move rfl) ?_
 refine Lt.ofWL.orQ 14 20 19 (p := ?pz1) (rest := ?qz1) (B := q1_11) rfl (fun hz => orO_t e1_11 hz) ?Tz1 ?Fz1 ?az1 ?bz1 ?cz1 ?dz1 ?ez1
 case Tz1 =>
  intro hcz1 hkz1
  refine sk ?_
  refine sk ?_
  refine sk ?_
  refine sk ?_
  refine sk ?_
  refine hkz1 _ ?_
  repeat (first | exact Sub.refl _ | refine Sub.skip rfl ?_)
 case Fz1 =>
  intro hcz1 hkz1
  have hqz1 := orO_f e1_11 hcz1
  obtain ⟨x1_9, e1_9, hqz1⟩ := bnd hqz1
  obtain rfl := Option.some.inj hqz1
  refine sp (OpV.move rfl) ?_
  refine sp (OpV.move rfl) ?_
  refine sp (OpV.subR rfl rfl) ?_
  refine sp (OpV.call (evs.cons rfl (evs.cons rfl (evs.cons rfl (evs.nil)))) ca_91 (fun w hs => w_impl_within e1_9)) ?_
  refine sp (OpV.not rfl) ?_
  refine hkz1 _ ?_ ?_
  exact rfl
  repeat (first | exact Sub.refl _ | refine Sub.skip rfl ?_)
 case az1 => exact rfl
 case bz1 => exact rfl
 case cz1 => exact rfl
 case dz1 => exact rfl
 refine WL.nil (En.next ?_)
 refine WC.cond rfl ?_ ?_
 ·
  intro hc_1
  replace h := ifO_t hc_1 h
  refine WC.seq (WC.region ?_)
  refine sp (OpV.assign rfl) ?_
  refine WL.nil (En.next (WC.ret (En.then_ret ?_)))
  refine En.ret1 rfl (Res.tmp rfl) ?_
  obtain rfl := Option.some.inj h
  intro w' hs
  have hs := (hs).ownNil (A := tInt)
  exact ⟨_, _, rfl, ⟨.none, 0, 0, [], rfl, rfl⟩, hs⟩
 ·
  intro hc_1
  replace h := ifO_f hc_1 h
  refine WC.skip (En.next (WC.seq ?_))
  obtain ⟨x3_1, e3_1, h⟩ := bnd h
  obtain ⟨x3_10, e3_10, h⟩ := bnd h
  obtain ⟨x3_11, e3_11, h⟩ := bnd h
  refine WC.region ?_
  refine sp (OpV.move rfl) ?_
  refine WL.heavy rfl rfl rfl (OpH.callR (evs.cons rfl (evs.nil)) ca_90 (fun w hs => w_impl_scanned e3_1 (r0_0.ext hs.below)) ?_)
  rintro _ _ ⟨a3_100, n3_100, c3_100, f3_100, rfl, rfl⟩
  refine sp (OpV.field1 rfl ft_36_2 pt_32 rfl) ?_
  refine sp (OpV.move rfl) ?_
  refine sp (OpV.move rfl) ?_
  refine sp (OpV.mulR rfl rfl) ?_
  refine sp (OpV.move rfl) ?_
  refine sp (OpV.addR rfl rfl) ?_
  refine sp (OpV.move rfl) ?_
  refine sp (OpV.mulR rfl rfl) ?_
  refine sp (OpV.inhF fun hin => OpV.subLH (ownLen hin (.head _)) rfl rfl rfl se_32 (ownCap hin (.head _)) e3_10) ?_
  refine WL.heavy rfl rfl rfl (OpH.callR (evs.cons rfl (evs.nil)) ca_111 (fun w hs => w_slices_Clone_S_int_int e3_11 (Rd.sub (Ow.rd (hs.mem (.head _))) e3_10)) ?_)
  rintro _ _ ⟨a3_1100, n3_1100, c3_1100, f3_1100, rfl, rfl⟩
  refine sp (OpV.assign rfl) ?_
  refine WL.nil (En.next (WC.ret ?_))
  refine En.ret1 rfl (Res.tmp rfl) ?_
  obtain rfl := Option.some.inj h
  intro w' hs
  have hs := (hs).sub (.cons_cons _ (.cons _ (.slnil)))
  exact ⟨_, _, rfl, ⟨a3_1100, n3_1100, c3_1100, f3_1100, rfl, rfl⟩, hs⟩

theorem w_impl_IdentityColor  {r : ColorMapT}  (h : impl_IdentityColor = some r) {w : World}    :
    Calls Try.prog 55 #[] w (fun en w' => ∃ rv G, en = .returned rv ∧ (∃ (a0_0 : Option Addr) (n0_0 : Nat) (c0_0 : Nat) (f0_0 : List Nat) (a0_1 : Option Addr) (n0_1 : Nat) (c0_1 : Nat) (f0_1 : List Nat), rv = .agg #[.slice a0_0 n0_0 c0_0, .slice a0_1 n0_1 c0_1] ∧ G = [Chunk.own tInt f0_0 a0_0 n0_0 c0_0 r.Matrix, Chunk.own tInt f0_1 a0_1 n0_1 c0_1 r.Curve]) ∧ St w G w') := by
 unfold impl_IdentityColor at h
 refine enter (vs := []) Try.func55 rfl rfl rfl rfl ?_
 refine WC.seq (WC.region ?_)
 refine WL.heavy rfl rfl rfl (OpH.alloc zc_82 ?_)
 intro b0_0
 refine WL.nil (En.next (WC.seq (WC.region ?_)))
 refine WL.heavy rfl rfl rfl (OpH.litF (A := tInt) (xs := [256, 0, 0, 0, 256, 0, 0, 0, 256]) tInt_flat (evps.cons rfl (evps.cons rfl (evps.cons rfl (evps.cons rfl (evps.cons rfl (evps.cons rfl (evps.cons rfl (evps.cons rfl (evps.cons rfl (evps.nil)))))))))) (bs_32_9_0_1_2_3_4_5_6_7_8 _ _ _ _ _ _ _ _ _) rfl rfl (Nat.le_of_ble_eq_true rfl) ?_)
 intro b1_0
 refine sp (OpV.build (evps.cons rfl (evps.nil)) (bd_82_0 _ _ _)) ?_
 refine WL.heavy rfl rfl rfl (OpH.alloc zc_82 ?_)
 intro b1_2
 refine WL.heavy0 rfl rfl (OpH.storeTo (A := []) [_, _] rfl rfl rfl ts_82 rfl rfl rfl ?_)
 refine WL.nil (En.next (WC.seq (WC.seq (WC.region ?_))))
 refine sp (OpV.move rfl) ?_
 refine WL.nil (En.next (WC.block ?_))
 obtain ⟨zy0, ezy0, h⟩ := bnd h
 refine WC.cut (X := ((List Int)) × ((Option Addr) × Nat × Nat × (List Nat))) (.exit 0) (fun x => zy0 = x.1) (fun x => match x with | (m_0e, (am_0e, nm_0e, cm_0e, fm_0e)) => [(0, .pointer (some ⟨b0_0, 0, .none⟩)), (1, .pointer (some ⟨b1_2, 0, .none⟩))]) (fun x => match x with | (m_0e, (am_0e, nm_0e, cm_0e, fm_0e)) => [Chunk.box b0_0 82 [.slice .none 0 0, .slice .none 0 0], Chunk.box b1_2 82 [.slice (some ⟨b1_0, 0, .none⟩) 9 9, .slice am_0e nm_0e cm_0e], Chunk.own tInt [b1_0] (some ⟨b1_0, 0, .none⟩) 9 9 [256, 0, 0, 0, 256, 0, 0, 0, 256], Chunk.own tInt fm_0e am_0e nm_0e cm_0e m_0e]) ?_ ?_
 ·
  rintro ⟨m_0e, ⟨am_0e, nm_0e, cm_0e, fm_0e⟩⟩ hx
  replace hx : m_0e = zy0 := hx.symm
  subst hx
  show En _ _ _ _ [(0, .pointer (some ⟨b0_0, 0, .none⟩)), (1, .pointer (some ⟨b1_2, 0, .none⟩))] [Chunk.box b0_0 82 [.slice .none 0 0, .slice .none 0 0], Chunk.box b1_2 82 [.slice (some ⟨b1_0, 0, .none⟩) 9 9, .slice am_0e nm_0e cm_0e], Chunk.own tInt [b1_0] (some ⟨b1_0, 0, .none⟩) 9 9 [256, 0, 0, 0, 256, 0, 0, 0, 256], Chunk.own tInt fm_0e am_0e nm_0e cm_0e m_0e]
  refine En.block_exit (En.next (WC.seq (WC.region ?_)))
  refine sp (OpV.loadAll rfl (.tail _ (.head _)) ag_82) ?_
  refine WL.heavy0 rfl rfl (OpH.storeTo (A := []) [_, _] rfl rfl rfl ts_82 rfl rfl rfl ?_)
  refine WL.nil (En.next (WC.ret ?_))
  refine En.ret1 rfl (Res.cell rfl (.head _) ag_82) ?_
  obtain rfl := Option.some.inj h
  intro w' hs
  have hs := (((hs).perm (List.perm_middle (l₁ := [_, _, _]))).perm (List.perm_middle (l₁ := [_, _, _]))).sub (.cons_cons _ (.cons_cons _ (.cons _ (.cons _ (.slnil)))))
  exact ⟨_, _, rfl, ⟨(some ⟨b1_0, 0, .none⟩), 9, 9, [b1_0], am_0e, nm_0e, cm_0e, fm_0e, rfl, rfl⟩, hs⟩
 ·
  intro zK0_0
  refine WC.loopP (G := (Option Addr) × Nat × Nat × (List Nat)) (fun s g => match s, g with | (m_0, v_0), (am_0, nm_0, cm_0, fm_0) => [(0, .pointer (some ⟨b0_0, 0, .none⟩)), (1, .pointer (some ⟨b1_2, 0, .none⟩)), (5, .int .i64 v_0)]) (fun s g => match s, g with | (m_0, v_0), (am_0, nm_0, cm_0, fm_0) => [Chunk.box b0_0 82 [.slice .none 0 0, .slice .none 0 0], Chunk.box b1_2 82 [.slice (some ⟨b1_0, 0, .none⟩) 9 9, .slice am_0 nm_0 cm_0], Chunk.own tInt [b1_0] (some ⟨b1_0, 0, .none⟩) 9 9 [256, 0, 0, 0, 256, 0, 0, 0, 256], Chunk.own tInt fm_0 am_0 nm_0 cm_0 m_0]) ([], 0) (.none, 0, 0, []) ezy0 (by exact Sub.cons rfl (Sub.cons rfl (Sub.cons rfl (Sub.nil _)))) (by exact (fun _ h => ((((h).ownNil (A := tInt)).perm (List.perm_middle (l₁ := [_, _]))).perm (List.perm_middle (l₁ := [_, _]))).perm (List.perm_middle (l₁ := [_, _, _])))) ?_
  rintro zm0 ⟨m_0, v_0⟩ ⟨am_0, nm_0, cm_0, fm_0⟩ zo0 zf0 zb0 ze0
  have zh0 : impl_IdentityColor_L0 m_0 v_0 = some zo0 := zf0
  unfold impl_IdentityColor_L0 at zh0
  show WC _ _ _ _ _ [(0, .pointer (some ⟨b0_0, 0, .none⟩)), (1, .pointer (some ⟨b1_2, 0, .none⟩)), (5, .int .i64 v_0)] [Chunk.box b0_0 82 [.slice .none 0 0, .slice .none 0 0], Chunk.box b1_2 82 [.slice (some ⟨b1_0, 0, .none⟩) 9 9, .slice am_0 nm_0 cm_0], Chunk.own tInt [b1_0] (some ⟨b1_0, 0, .none⟩) 9 9 [256, 0, 0, 0, 256, 0, 0, 0, 256], Chunk.own tInt fm_0 am_0 nm_0 cm_0 m_0]
  refine WC.seq (WC.region ?_)
  refine sp (OpV.lss rfl rfl) ?_
  refine WL.nil (En.next (WC.seq ?_))
  refine WC.cond rfl ?_ ?_
  ·
   intro hc_1
   replace zh0 := ifO_t hc_1 zh0
   refine WC.skip (En.next (WC.seq (WC.block (WC.seq (WC.region ?_)))))
   refine sp (OpV.move rfl) ?_
   refine sp (OpV.assign rfl) ?_
   refine WL.nil (En.next ?_)
   obtain ⟨x5_5, e5_5, zh0⟩ := bnd zh0
   refine WC.region ?_
   refine sp (OpV.fieldAddr rfl fo_82_1) ?_
   refine sp (OpV.loadBox rfl pt_32 (.tail _ (.head _)) rfl) ?_
   refine sp (OpV.move rfl) ?_
   refine sp (OpV.mulR rfl rfl) ?_
   refine WL.heavy rfl rfl rfl (OpH.litF (A := tInt) (xs := [(wr (16 * v_0))]) tInt_flat (evps.cons rfl (evps.nil)) (bs_32_1_0 _) rfl rfl (Nat.le_of_ble_eq_true rfl) ?_)
   intro b5_4
   refine WL.heavy rfl rfl rfl (OpH.appS (F := [_, _, _, _]) (A := tInt) tInt_flat rfl rfl rfl mi_32 rfl (by decide) (fun w hs => (Ow.rd (hs.mem (.head _)))) e5_5 ?_)
   intro f5_5 a5_5 c5_5
   refine sp (OpV.fieldAddr rfl fo_82_1) ?_
   refine WL.heavy0 rfl rfl (OpH.storeTo (A := [_, _]) [_, _] rfl rfl rfl ts_32 rfl rfl rfl ?_)
   refine WL.nil (En.block_norm (En.next (WC.region ?_)))
   refine sp (OpV.addR rfl rfl) ?_
   refine sp (OpV.move rfl) ?_
   refine WL.nil ?_
   exact En.backP zb0 zh0 (a5_5, x5_5.length, c5_5, f5_5) (Sub.cons rfl (Sub.cons rfl (Sub.cons rfl (Sub.nil _)))) (fun _ h => (((((h).perm (List.perm_middle (l₁ := [_, _, _, _]))).perm (List.perm_middle (l₁ := [_, _, _, _]))).perm (List.perm_middle (l₁ := [_, _, _, _]))).perm (List.perm_middle (l₁ := [_, _, _, _]))).sub (.cons_cons _ (.cons_cons _ (.cons_cons _ (.cons_cons _ (.cons _ (.slnil)))))))
  ·
   intro hc_1
   replace zh0 := ifO_f hc_1 zh0
   refine WC.exit (En.then_exit (En.then_exit ?_))
   have hx := exitP ze0 zh0
   exact En.wk _ _ (Sub.cons rfl (Sub.cons rfl (Sub.nil _))) (fun _ h => h) (zK0_0 (m_0, (am_0, nm_0, cm_0, fm_0)) hx.symm)

theorem w_impl_ColorOk {m_p0 : ColorMapT} {r : Bool} {q0_0 : Option Addr} {l0_0 k0_0 : Nat} {q0_1 : Option Addr} {l0_1 k0_1 : Nat} (h : impl_ColorOk m_p0 = some r) {w : World} (r0_0 : Rd tInt w q0_0 l0_0 k0_0 m_p0.Matrix) (r0_1 : Rd tInt w q0_1 l0_1 k0_1 m_p0.Curve)   :
    Calls Try.prog 112 #[.agg #[.slice q0_0 l0_0 k0_0, .slice q0_1 l0_1 k0_1]] w (fun en w' => en = .returned (.bool r) ∧ Ext w w') := by
 obtain rfl := r0_0.1
 obtain rfl := r0_1.1
 unfold impl_ColorOk at h
 refine enter (vs := [_]) Try.func112 rfl rfl rfl rfl ?_
 refine WC.seq (WC.region ?_)
 refine WL.heavy rfl rfl rfl (OpH.box rfl rfl ?_)
 intro b0_0
 refine sp (OpV.assign rfl) ?_
 refine WL.nil (En.next (WC.seq (WC.seq (WC.region ?_))))
 refine sp (OpV.fieldAddr rfl fo_82_0) ?_
 refine sp (OpV.loadBox rfl pt_32 (.head _) rfl) ?_
 refine sp (OpV.len rfl si_32 rfl) ?_
 refine sp (OpV.move rfl) ?_
 refine WL.nil (En.next (WC.block ?_))
 obtain ⟨zy0, ezy0, h⟩ := bnd h
 refine WC.cut (X := (Unit) × (Unit)) (.exit 0) (fun x => zy0 = .inl x.1) (fun x => match x with | ((), ()) => [(1, .pointer (some ⟨b0_0, 0, .none⟩))]) (fun x => match x with | ((), ()) => [Chunk.box b0_0 82 [.slice q0_0 m_p0.Matrix.length k0_0, .slice q0_1 m_p0.Curve.length k0_1]]) ?_ ?_
 ·
  rintro ⟨⟨⟩, ⟨⟩⟩ hx
  replace hx : .inl () = zy0 := hx.symm
  subst hx
  replace h := fork_l h
  show En _ _ _ _ [(1, .pointer (some ⟨b0_0, 0, .none⟩))] [Chunk.box b0_0 82 [.slice q0_0 m_p0.Matrix.length k0_0, .slice q0_1 m_p0.Curve.length k0_1]]
  refine En.block_exit (En.next (WC.seq (WC.seq (WC.region ?_))))
  refine sp (OpV.fieldAddr rfl fo_82_1) ?_
  refine sp (OpV.loadBox rfl pt_32 (.head _) rfl) ?_
  refine sp (OpV.len rfl si_32 rfl) ?_
  refine sp (OpV.move rfl) ?_
  refine WL.nil (En.next (WC.block ?_))
  obtain ⟨zy1, ezy1, h⟩ := bnd h
  refine WC.cut (X := (Unit) × (Unit)) (.exit 2) (fun x => zy1 = .inl x.1) (fun x => match x with | ((), ()) => [(1, .pointer (some ⟨b0_0, 0, .none⟩))]) (fun x => match x with | ((), ()) => [Chunk.box b0_0 82 [.slice q0_0 m_p0.Matrix.length k0_0, .slice q0_1 m_p0.Curve.length k0_1]]) ?_ ?_
  ·
   rintro ⟨⟨⟩, ⟨⟩⟩ hx
   replace hx : .inl () = zy1 := hx.symm
   subst hx
   replace h := fork_l h
   show En _ _ _ _ [(1, .pointer (some ⟨b0_0, 0, .none⟩))] [Chunk.box b0_0 82 [.slice q0_0 m_p0.Matrix.length k0_0, .slice q0_1 m_p0.Curve.length k0_1]]
   refine En.block_exit (En.next (WC.seq (WC.region ?_)))
   refine sp (OpV.fieldAddr rfl fo_82_0) ?_
   refine sp (OpV.loadBox rfl pt_32 (.head _) rfl) ?_
   refine sp (OpV.len rfl si_32 rfl) ?_
   refine sp (OpV.eql rfl rfl) ?_
   refine sp (OpV.move rfl) ?_
   refine Lt.ofWL.and 33 38 37 (p := ?pz1) (rest := ?qz1) (B := ?Bz1) rfl ?Tz1 ?Fz1 ?az1 ?bz1 ?cz1 ?dz1 ?ez1
   case Tz1 =>
    intro hcz1 hkz1
    refine sp (OpV.fieldAddr rfl fo_82_1) ?_
    refine sp (OpV.loadBox rfl pt_32 (.head _) rfl) ?_
    refine sp (OpV.len rfl si_32 rfl) ?_
    refine sp (OpV.eql rfl rfl) ?_
    refine hkz1 _ ?_ ?_
    exact rfl
    repeat (first | exact Sub.refl _ | refine Sub.skip rfl ?_)
   case Fz1 =>
    intro hcz1 hkz1
    refine sk ?_
    refine sk ?_
    refine sk ?_
    refine sk ?_
    refine hkz1 _ ?_
    repeat (first | exact Sub.refl _ | refine Sub.skip rfl ?_)
   case az1 => exact rfl
   case bz1 => exact rfl
   case cz1 => exact rfl
   case dz1 => exact rfl
   refine sp (OpV.assign rfl) ?_
   refine WL.nil (En.next (WC.ret ?_))
   refine En.ret1 rfl (Res.tmp rfl) ?_
   obtain rfl := Option.some.inj h
   intro w' hs
   exact ⟨rfl, hs.below⟩
  ·
   intro zK1_0
   refine WC.loopP (G := Unit) (fun s g => match s, g with | v_1, () => [(1, .pointer (some ⟨b0_0, 0, .none⟩)), (19, .slice q0_1 m_p0.Curve.length k0_1), (20, .int .i64 (m_p0.Curve.length : Int)), (21, .int .i64 v_1)]) (fun s g => match s, g with | v_1, () => [Chunk.box b0_0 82 [.slice q0_0 m_p0.Matrix.length k0_0, .slice q0_1 m_p0.Curve.length k0_1]]) 0 () ezy1 (by exact Sub.cons rfl (Sub.cons rfl (Sub.cons rfl (Sub.cons rfl (Sub.nil _))))) (by exact (fun _ h => h)) ?_
   rintro zm1 v_1 ⟨⟩ zo1 zf1 zb1 ze1
   have zh1 : impl_ColorOk_L1 m_p0 v_1 = some zo1 := zf1
   unfold impl_ColorOk_L1 at zh1
   show WC _ _ _ _ _ [(1, .pointer (some ⟨b0_0, 0, .none⟩)), (19, .slice q0_1 m_p0.Curve.length k0_1), (20, .int .i64 (m_p0.Curve.length : Int)), (21, .int .i64 v_1)] [Chunk.box b0_0 82 [.slice q0_0 m_p0.Matrix.length k0_0, .slice q0_1 m_p0.Curve.length k0_1]]
   refine WC.seq (WC.region ?_)
   refine sp (OpV.lss rfl rfl) ?_
   refine WL.nil (En.next (WC.seq ?_))
   refine WC.cond rfl ?_ ?_
   ·
    intro hc_1
    replace zh1 := ifO_t hc_1 zh1
    refine WC.skip (En.next (WC.seq (WC.block (WC.seq ?_))))
    obtain ⟨x9_0, e9_0, zh1⟩ := bnd zh1
    obtain ⟨g9_0, o9_0, _, ha9_0, rfl, hd9_0⟩ := Rd.atIdx r0_1 e9_0
    replace hd9_0 : ∀ (j : Nat) v, ([.int .i64 x9_0] : List Value)[j]? = some v → w.cell? ⟨g9_0, o9_0 + v_1.toNat * 1 + j, .none⟩ = some v := hd9_0
    refine WC.region ?_
    refine sp (OpV.idxA rfl rfl se_32 ha9_0 ⟨(idx_some e9_0).1, (idx_some e9_0).2.1⟩) ?_
    refine sp (OpV.load1 rfl pt_3 (fun w hs => hs.cell (hd9_0 0 _ rfl))) ?_
    refine sp (OpV.assign rfl) ?_
    refine WL.nil (En.next (WC.seq ?_))
    obtain ⟨x10_1, e10_1, zh1⟩ := bnd zh1
    refine WC.region ?_
    refine sp (OpV.move rfl) ?_
    refine sp (OpV.call (evs.cons rfl (evs.cons rfl (evs.cons rfl (evs.nil)))) ca_91 (fun w hs => w_impl_within e10_1)) ?_
    refine sp (OpV.not rfl) ?_
    refine WL.nil (En.next ?_)
    refine WC.cond rfl ?_ ?_
    ·
     intro hc_2
     replace zh1 := ifO_t hc_2 zh1
     refine WC.seq (WC.region ?_)
     refine sp (OpV.assign rfl) ?_
     refine WL.nil (En.next (WC.ret (En.block_ret (En.then_ret (En.then_ret (En.block_ret (En.then_ret ?_)))))))
     refine En.ret1 rfl (Res.tmp rfl) ?_
     have hx := exitP ze1 zh1
     subst hx
     replace h := fork_r h
     obtain rfl := Option.some.inj h
     intro w' hs
     exact ⟨rfl, hs.below⟩
    ·
     intro hc_2
     replace zh1 := ifO_f hc_2 zh1
     refine WC.skip (En.block_norm (En.next (WC.region ?_)))
     refine sp (OpV.addR rfl rfl) ?_
     refine sp (OpV.move rfl) ?_
     refine WL.nil ?_
     exact En.backP zb1 zh1 () (Sub.cons rfl (Sub.cons rfl (Sub.cons rfl (Sub.cons rfl (Sub.nil _))))) (fun _ h => h)
   ·
    intro hc_1
    replace zh1 := ifO_f hc_1 zh1
    refine WC.exit (En.then_exit (En.then_exit ?_))
    have hx := exitP ze1 zh1
    exact En.wk _ _ (Sub.cons rfl (Sub.nil _)) (fun _ h => h) (zK1_0 ((), ()) hx.symm)
 ·
  intro zK0_0
  refine WC.loopP (G := Unit) (fun s g => match s, g with | v_0, () => [(1, .pointer (some ⟨b0_0, 0, .none⟩)), (8, .slice q0_0 m_p0.Matrix.length k0_0), (9, .int .i64 (m_p0.Matrix.length : Int)), (10, .int .i64 v_0)]) (fun s g => match s, g with | v_0, () => [Chunk.box b0_0 82 [.slice q0_0 m_p0.Matrix.length k0_0, .slice q0_1 m_p0.Curve.length k0_1]]) 0 () ezy0 (by exact Sub.cons rfl (Sub.cons rfl (Sub.cons rfl (Sub.cons rfl (Sub.nil _))))) (by exact (fun _ h => h)) ?_
  rintro zm0 v_0 ⟨⟩ zo0 zf0 zb0 ze0
  have zh0 : impl_ColorOk_L0 m_p0 v_0 = some zo0 := zf0
  unfold impl_ColorOk_L0 at zh0
  show WC _ _ _ _ _ [(1, .pointer (some ⟨b0_0, 0, .none⟩)), (8, .slice q0_0 m_p0.Matrix.length k0_0), (9, .int .i64 (m_p0.Matrix.length : Int)), (10, .int .i64 v_0)] [Chunk.box b0_0 82 [.slice q0_0 m_p0.Matrix.length k0_0, .slice q0_1 m_p0.Curve.length k0_1]]
  refine WC.seq (WC.region ?_)
  refine sp (OpV.lss rfl rfl) ?_
  refine WL.nil (En.next (WC.seq ?_))
  refine WC.cond rfl ?_ ?_
  ·
   intro hc_3
   replace zh0 := ifO_t hc_3 zh0
   refine WC.skip (En.next (WC.seq (WC.block (WC.seq ?_))))
   obtain ⟨x3_0, e3_0, zh0⟩ := bnd zh0
   obtain ⟨g3_0, o3_0, _, ha3_0, rfl, hd3_0⟩ := Rd.atIdx r0_0 e3_0
   replace hd3_0 : ∀ (j : Nat) v, ([.int .i64 x3_0] : List Value)[j]? = some v → w.cell? ⟨g3_0, o3_0 + v_0.toNat * 1 + j, .none⟩ = some v := hd3_0
   refine WC.region ?_
   refine sp (OpV.idxA rfl rfl se_32 ha3_0 ⟨(idx_some e3_0).1, (idx_some e3_0).2.1⟩) ?_
   refine sp (OpV.load1 rfl pt_3 (fun w hs => hs.cell (hd3_0 0 _ rfl))) ?_
   refine sp (OpV.assign rfl) ?_
   refine WL.nil (En.next (WC.seq ?_))
   obtain ⟨x4_1, e4_1, zh0⟩ := bnd zh0
   refine WC.region ?_
   refine sp (OpV.move rfl) ?_
   refine sp (OpV.call (evs.cons rfl (evs.cons rfl (evs.cons rfl (evs.nil)))) ca_91 (fun w hs => w_impl_within e4_1)) ?_
   refine sp (OpV.not rfl) ?_
   refine WL.nil (En.next ?_)
   refine WC.cond rfl ?_ ?_
   ·
    intro hc_4
    replace zh0 := ifO_t hc_4 zh0
    refine WC.seq (WC.region ?_)
    refine sp (OpV.assign rfl) ?_
    refine WL.nil (En.next (WC.ret (En.block_ret (En.then_ret (En.then_ret (En.block_ret (En.then_ret ?_)))))))
    refine En.ret1 rfl (Res.tmp rfl) ?_
    have hx := exitP ze0 zh0
    subst hx
    replace h := fork_r h
    obtain rfl := Option.some.inj h
    intro w' hs
    exact ⟨rfl, hs.below⟩
   ·
    intro hc_4
    replace zh0 := ifO_f hc_4 zh0
    refine WC.skip (En.block_norm (En.next (WC.region ?_)))
    refine sp (OpV.addR rfl rfl) ?_
    refine sp (OpV.move rfl) ?_
    refine WL.nil ?_
    exact En.backP zb0 zh0 () (Sub.cons rfl (Sub.cons rfl (Sub.cons rfl (Sub.cons rfl (Sub.nil _))))) (fun _ h => h)
  ·
   intro hc_3
   replace zh0 := ifO_f hc_3 zh0
   refine WC.exit (En.then_exit (En.then_exit ?_))
   have hx := exitP ze0 zh0
   exact En.wk _ _ (Sub.cons rfl (Sub.nil _)) (fun _ h => h) (zK0_0 ((), ()) hx.symm)

theorem w_impl_floorDiv {a_p0 : Int} {b_p1 : Int} {r : Int}  (h : impl_floorDiv a_p0 b_p1 = some r) {w : World}    :
    Calls Try.prog 182 #[.int .i64 a_p0, .int .i64 b_p1] w (fun en w' => en = .returned (.int .i64 r) ∧ Ext w w') := by
 unfold impl_floorDiv at h
 refine enter (vs := [_, _]) Try.func182 rfl rfl rfl rfl ?_
 refine WC.seq (WC.region ?_)
 refine sp (OpV.assign rfl) ?_
 refine WL.nil (En.next (WC.seq ?_))
 obtain ⟨x1_2, e1_2, h⟩ := bnd h
 refine WC.region ?_
 refine sp (OpV.move rfl) ?_
 refine sp (OpV.move rfl) ?_
 refine sp (OpV.quoR rfl rfl e1_2) ?_
 refine sp (OpV.assign rfl) ?_
 refine WL.nil (En.next (WC.seq (WC.seq ?_)))
 obtain ⟨x2_2, e2_2, h⟩ := bnd h
 refine WC.region ?_
 refine sp (OpV.move rfl) ?_
 refine sp (OpV.move rfl) ?_
 refine sp (OpV.remR rfl rfl e2_2) ?_
 refine sp (OpV.lss rfl rfl) ?_
 refine WL.nil (En.next ?_)
 refine WC.cond rfl ?_ ?_
 ·
  intro hc_1
  replace h := ifO_t hc_1 h
  refine WC.region ?_
  refine sp (OpV.move rfl) ?_
  refine sp (OpV.subR rfl rfl) ?_
  refine sp (OpV.assign rfl) ?_
  refine WL.nil (En.next (WC.seq (WC.region ?_)))
  refine sp (OpV.move rfl) ?_
  refine sp (OpV.assign rfl) ?_
  refine WL.nil (En.next (WC.ret ?_))
  refine En.ret1 rfl (Res.tmp rfl) ?_
  obtain rfl := Option.some.inj h
  intro w' hs
  exact ⟨rfl, hs.below⟩
 ·
  intro hc_1
  replace h := ifO_f hc_1 h
  refine WC.skip (En.next (WC.seq (WC.region ?_)))
  refine sp (OpV.move rfl) ?_
  refine sp (OpV.assign rfl) ?_
  refine WL.nil (En.next (WC.ret ?_))
  refine En.ret1 rfl (Res.tmp rfl) ?_
  obtain rfl := Option.some.inj h
  intro w' hs
  exact ⟨rfl, hs.below⟩

theorem w_impl_Clamp {n_p0 : Int} {low_p1 : Int} {high_p2 : Int} {r : Int}  (h : impl_Clamp n_p0 low_p1 high_p2 = some r) {w : World}    :
    Calls Try.prog 183 #[.int .i64 n_p0, .int .i64 low_p1, .int .i64 high_p2] w (fun en w' => en = .returned (.int .i64 r) ∧ Ext w w') := by
 unfold impl_Clamp at h
 refine enter (vs := [_, _, _]) Try.func183 rfl rfl rfl rfl ?_
 refine WC.seq (WC.region ?_)
 refine sp (OpV.assign rfl) ?_
 refine WL.nil (En.next (WC.seq (WC.seq (WC.region ?_))))
 refine sp (OpV.move rfl) ?_
 refine sp (OpV.move rfl) ?_
 refine sp (OpV.lss rfl rfl) ?_
 refine WL.nil (En.next ?_)
 refine WC.cond rfl ?_ ?_
 ·
  intro hc_1
  replace h := ifO_t hc_1 h
  refine WC.seq (WC.region ?_)
  refine sp (OpV.move rfl) ?_
  refine sp (OpV.assign rfl) ?_
  refine WL.nil (En.next (WC.ret (En.then_ret ?_)))
  refine En.ret1 rfl (Res.tmp rfl) ?_
  obtain rfl := Option.some.inj h
  intro w' hs
  exact ⟨rfl, hs.below⟩
 ·
  intro hc_1
  replace h := ifO_f hc_1 h
  refine WC.skip (En.next (WC.seq (WC.region ?_)))
  refine sp (OpV.move rfl) ?_
  refine sp (OpV.move rfl) ?_
  refine sp (OpV.move rfl) ?_
  refine sp (OpV.min2 rfl rfl) ?_
  refine sp (OpV.max2 rfl rfl) ?_
  refine sp (OpV.assign rfl) ?_
  refine WL.nil (En.next (WC.ret ?_))
  refine En.ret1 rfl (Res.tmp rfl) ?_
  obtain rfl := Option.some.inj h
  intro w' hs
  exact ⟨rfl, hs.below⟩

theorem w_impl_mixRow {m_p0 : ColorMapT} {row_p1 : Int} {r_p2 : Int} {g_p3 : Int} {b_p4 : Int} {r : Int} {q0_0 : Option Addr} {l0_0 k0_0 : Nat} {q0_1 : Option Addr} {l0_1 k0_1 : Nat} (h : impl_mixRow m_p0 row_p1 r_p2 g_p3 b_p4 = some r) {w : World} (r0_0 : Rd tInt w q0_0 l0_0 k0_0 m_p0.Matrix) (r0_1 : Rd tInt w q0_1 l0_1 k0_1 m_p0.Curve)   :
    Calls Try.prog 178 #[.agg #[.slice q0_0 l0_0 k0_0, .slice q0_1 l0_1 k0_1], .int .i64 row_p1, .int .i64 r_p2, .int .i64 g_p3, .int .i64 b_p4] w (fun en w' => en = .returned (.int .i64 r) ∧ Ext w w') := by
 obtain rfl := r0_0.1
 obtain rfl := r0_1.1
 unfold impl_mixRow at h
 refine enter (vs := [_, _, _, _, _]) Try.func178 rfl rfl rfl rfl ?_
 refine WC.seq (WC.region ?_)
 refine WL.heavy rfl rfl rfl (OpH.box rfl rfl ?_)
 intro b0_0
 refine sp (OpV.assign rfl) ?_
 refine WL.nil (En.next (WC.seq ?_))
 obtain ⟨x1_4, e1_4, h⟩ := bnd h
 refine WC.region ?_
 refine sp (OpV.fieldAddr rfl fo_82_0) ?_
 refine sp (OpV.loadBox rfl pt_32 (.head _) rfl) ?_
 refine sp (OpV.move rfl) ?_
 refine sp (OpV.mulR rfl rfl) ?_
 refine sp (OpV.subL rfl rfl rfl se_32 e1_4) ?_
 refine sp (OpV.assign rfl) ?_
 refine WL.nil (En.next (WC.seq ?_))
 obtain ⟨x2_1, e2_1, h⟩ := bnd h
 obtain ⟨g2_1, o2_1, _, ha2_1, rfl, hd2_1⟩ := Rd.atIdx (Rd.sub r0_0 e1_4) e2_1
 replace hd2_1 : ∀ (j : Nat) v, ([.int .i64 x2_1] : List Value)[j]? = some v → w.cell? ⟨g2_1, o2_1 + (Int.toNat 0) * 1 + j, .none⟩ = some v := hd2_1
 obtain ⟨x2_6, e2_6, h⟩ := bnd h
 obtain ⟨g2_6, o2_6, _, ha2_6, rfl, hd2_6⟩ := Rd.atIdx (Rd.sub r0_0 e1_4) e2_6
 replace hd2_6 : ∀ (j : Nat) v, ([.int .i64 x2_6] : List Value)[j]? = some v → w.cell? ⟨g2_6, o2_6 + (Int.toNat 1) * 1 + j, .none⟩ = some v := hd2_6
 obtain ⟨x2_12, e2_12, h⟩ := bnd h
 obtain ⟨g2_12, o2_12, _, ha2_12, rfl, hd2_12⟩ := Rd.atIdx (Rd.sub r0_0 e1_4) e2_12
 replace hd2_12 : ∀ (j : Nat) v, ([.int .i64 x2_12] : List Value)[j]? = some v → w.cell? ⟨g2_12, o2_12 + (Int.toNat 2) * 1 + j, .none⟩ = some v := hd2_12
 obtain ⟨x2_18, e2_18, h⟩ := bnd h
 obtain ⟨x2_19, e2_19, h⟩ := bnd h
 refine WC.drawn [(10, ?r2v10)] (by kernel_rfl) (by kernel_rfl) ?dH2 ?dK2
 case dH2 =>
  intro W hW hk
  refine hW.step rfl rfl rfl (OpV.move rfl) ?_
  refine hW.step rfl rfl rfl (OpV.idxA rfl rfl se_32 ha2_1 ⟨(idx_some e2_1).1, (idx_some e2_1).2.1⟩) ?_
  refine hW.step rfl rfl rfl (OpV.load1 rfl pt_3 (fun w hs => hs.cell (hd2_1 0 _ rfl))) ?_
  refine hW.step rfl rfl rfl (OpV.move rfl) ?_
  refine hW.step rfl rfl rfl (OpV.mulR rfl rfl) ?_
  refine hW.step rfl rfl rfl (OpV.move rfl) ?_
  refine hW.step rfl rfl rfl (OpV.idxA rfl rfl se_32 ha2_6 ⟨(idx_some e2_6).1, (idx_some e2_6).2.1⟩) ?_
  refine hW.step rfl rfl rfl (OpV.load1 rfl pt_3 (fun w hs => hs.cell (hd2_6 0 _ rfl))) ?_
  refine hW.step rfl rfl rfl (OpV.move rfl) ?_
  refine hW.step rfl rfl rfl (OpV.mulR rfl rfl) ?_
  refine hW.step rfl rfl rfl (OpV.addR rfl rfl) ?_
  refine hW.step rfl rfl rfl (OpV.move rfl) ?_
  refine hW.step rfl rfl rfl (OpV.idxA rfl rfl se_32 ha2_12 ⟨(idx_some e2_12).1, (idx_some e2_12).2.1⟩) ?_
  refine hW.step rfl rfl rfl (OpV.load1 rfl pt_3 (fun w hs => hs.cell (hd2_12 0 _ rfl))) ?_
  refine hW.step rfl rfl rfl (OpV.move rfl) ?_
  refine hW.step rfl rfl rfl (OpV.mulR rfl rfl) ?_
  refine hW.step rfl rfl rfl (OpV.addR rfl rfl) ?_
  refine hW.step rfl rfl rfl (OpV.addR rfl rfl) ?_
  refine hW.step rfl rfl rfl (OpV.call (evs.cons rfl (evs.cons rfl (evs.nil))) ca_182 (fun w hs => w_impl_floorDiv e2_18)) ?_
  refine hW.step rfl rfl rfl (OpV.call (evs.cons rfl (evs.cons rfl (evs.cons rfl (evs.nil)))) ca_183 (fun w hs => w_impl_Clamp e2_19)) ?_
  refine hW.step rfl rfl rfl (OpV.assign rfl) ?_
  refine hk _ ?_
  refine Sub.cons ?_ (Sub.nil _)
  all_goals exact rfl
 refine En.next (WC.ret ?_)
 refine En.ret1 rfl (Res.tmp rfl) ?_
 obtain rfl := Option.some.inj h
 intro w' hs
 exact ⟨rfl, hs.below⟩

theorem w_impl_curveValue {m_p0 : ColorMapT} {v_p1 : Int} {r : Int} {q0_0 : Option Addr} {l0_0 k0_0 : Nat} {q0_1 : Option Addr} {l0_1 k0_1 : Nat} (h : impl_curveValue m_p0 v_p1 = some r) {w : World} (r0_0 : Rd tInt w q0_0 l0_0 k0_0 m_p0.Matrix) (r0_1 : Rd tInt w q0_1 l0_1 k0_1 m_p0.Curve)   :
    Calls Try.prog 177 #[.agg #[.slice q0_0 l0_0 k0_0, .slice q0_1 l0_1 k0_1], .int .i64 v_p1] w (fun en w' => en = .returned (.int .i64 r) ∧ Ext w w') := by
 obtain rfl := r0_0.1
 obtain rfl := r0_1.1
 unfold impl_curveValue at h
 refine enter (vs := [_, _]) Try.func177 rfl rfl rfl rfl ?_
 refine WC.seq (WC.region ?_)
 refine WL.heavy rfl rfl rfl (OpH.box rfl rfl ?_)
 intro b0_0
 refine sp (OpV.assign rfl) ?_
 refine WL.nil (En.next (WC.seq ?_))
 obtain ⟨x1_4, e1_4, h⟩ := bnd h
 obtain ⟨g1_4, o1_4, _, ha1_4, rfl, hd1_4⟩ := Rd.atIdx r0_1 e1_4
 replace hd1_4 : ∀ (j : Nat) v, ([.int .i64 x1_4] : List Value)[j]? = some v → w.cell? ⟨g1_4, o1_4 + (wr (Int.tdiv v_p1 16)).toNat * 1 + j, .none⟩ = some v := hd1_4
 obtain ⟨x1_11, e1_11, h⟩ := bnd h
 obtain ⟨g1_11, o1_11, _, ha1_11, rfl, hd1_11⟩ := Rd.atIdx r0_1 e1_11
 replace hd1_11 : ∀ (j : Nat) v, ([.int .i64 x1_11] : List Value)[j]? = some v → w.cell? ⟨g1_11, o1_11 + (wr ((wr (Int.tdiv v_p1 16)) + 1)).toNat * 1 + j, .none⟩ = some v := hd1_11
 refine WC.drawn [(1, ?r1v1), (5, ?r1v5), (6, ?r1v6)] (by kernel_rfl) (by kernel_rfl) ?dH1 ?dK1
 case dH1 =>
  intro W hW hk
  refine hW.step rfl rfl rfl (OpV.fieldAddr rfl fo_82_1) ?_
  refine hW.step rfl rfl rfl (OpV.loadBox rfl pt_32 (.head _) rfl) ?_
  refine hW.step rfl rfl rfl (OpV.move rfl) ?_
  refine hW.step rfl rfl rfl (OpV.quoR rfl rfl rfl) ?_
  refine hW.step rfl rfl rfl (OpV.idxA rfl rfl se_32 ha1_4 ⟨(idx_some e1_4).1, (idx_some e1_4).2.1⟩) ?_
  refine hW.step rfl rfl rfl (OpV.load1 rfl pt_3 (fun w hs => hs.cell (hd1_4 0 _ rfl))) ?_
  refine hW.step rfl rfl rfl (OpV.fieldAddr rfl fo_82_1) ?_
  refine hW.step rfl rfl rfl (OpV.loadBox rfl pt_32 (.head _) rfl) ?_
  refine hW.step rfl rfl rfl (OpV.move rfl) ?_
  refine hW.step rfl rfl rfl (OpV.quoR rfl rfl rfl) ?_
  refine hW.step rfl rfl rfl (OpV.addR rfl rfl) ?_
  refine hW.step rfl rfl rfl (OpV.idxA rfl rfl se_32 ha1_11 ⟨(idx_some e1_11).1, (idx_some e1_11).2.1⟩) ?_
  refine hW.step rfl rfl rfl (OpV.load1 rfl pt_3 (fun w hs => hs.cell (hd1_11 0 _ rfl))) ?_
  refine hW.step rfl rfl rfl (OpV.assign rfl) ?_
  refine hW.step rfl rfl rfl (OpV.assign rfl) ?_
  refine hk _ ?_
  refine Sub.cons ?_ (Sub.cons ?_ (Sub.cons ?_ (Sub.nil _)))
  all_goals exact rfl
 refine En.next (WC.seq ?_)
 obtain ⟨x2_7, e2_7, h⟩ := bnd h
 refine WC.region ?_
 refine sp (OpV.move rfl) ?_
 refine sp (OpV.move rfl) ?_
 refine sp (OpV.move rfl) ?_
 refine sp (OpV.subR rfl rfl) ?_
 refine sp (OpV.move rfl) ?_
 refine sp (OpV.remR rfl rfl rfl) ?_
 refine sp (OpV.mulR rfl rfl) ?_
 refine sp (OpV.call (evs.cons rfl (evs.cons rfl (evs.nil))) ca_182 (fun w hs => w_impl_floorDiv e2_7)) ?_
 refine sp (OpV.addR rfl rfl) ?_
 refine sp (OpV.min2 rfl rfl) ?_
 refine sp (OpV.assign rfl) ?_
 refine WL.nil (En.next (WC.ret ?_))
 refine En.ret1 rfl (Res.tmp rfl) ?_
 obtain rfl := Option.some.inj h
 intro w' hs
 exact ⟨rfl, hs.below⟩

theorem w_impl_colored {m_p0 : ColorMapT} {p_p1 : Int} {r : Int} {q0_0 : Option Addr} {l0_0 k0_0 : Nat} {q0_1 : Option Addr} {l0_1 k0_1 : Nat} (h : impl_colored m_p0 p_p1 = some r) {w : World} (r0_0 : Rd tInt w q0_0 l0_0 k0_0 m_p0.Matrix) (r0_1 : Rd tInt w q0_1 l0_1 k0_1 m_p0.Curve)   :
    Calls Try.prog 160 #[.agg #[.slice q0_0 l0_0 k0_0, .slice q0_1 l0_1 k0_1], .int .i64 p_p1] w (fun en w' => en = .returned (.int .i64 r) ∧ Ext w w') := by
 obtain rfl := r0_0.1
 obtain rfl := r0_1.1
 unfold impl_colored at h
 refine enter (vs := [_, _]) Try.func160 rfl rfl rfl rfl ?_
 refine WC.seq (WC.region ?_)
 refine WL.heavy rfl rfl rfl (OpH.box rfl rfl ?_)
 intro b0_0
 refine sp (OpV.assign rfl) ?_
 refine WL.nil (En.next (WC.seq ?_))
 obtain ⟨x1_1, e1_1, h⟩ := bnd h
 refine WC.region ?_
 refine sp (OpV.move rfl) ?_
 refine sp (OpV.call (evs.cons rfl (evs.cons rfl (evs.nil))) ca_144 (fun w hs => w_impl_channel e1_1)) ?_
 refine sp (OpV.assign rfl) ?_
 refine WL.nil (En.next (WC.seq (WC.seq (WC.region ?_))))
 refine sp (OpV.move rfl) ?_
 refine WL.nil (En.next (WC.block ?_))
 obtain ⟨zy0, ezy0, h⟩ := bnd h
 refine WC.cut (X := (Int) × (Unit)) (.exit 0) (fun x => zy0 = x.1) (fun x => match x with | (out_0e, ()) => [(5, .int .i64 out_0e)]) (fun x => match x with | (out_0e, ()) => []) ?_ ?_
 ·
  rintro ⟨out_0e, ⟨⟩⟩ hx
  replace hx : out_0e = zy0 := hx.symm
  subst hx
  show En _ _ _ _ [(5, .int .i64 out_0e)] []
  refine En.block_exit (En.next (WC.seq (WC.region ?_)))
  refine sp (OpV.move rfl) ?_
  refine sp (OpV.assign rfl) ?_
  refine WL.nil (En.next (WC.ret ?_))
  refine En.ret1 rfl (Res.tmp rfl) ?_
  obtain rfl := Option.some.inj h
  intro w' hs
  exact ⟨rfl, hs.below⟩
 ·
  intro zK0_0
  refine WC.loopP (G := Unit) (fun s g => match s, g with | (out_0, v_0), () => [(1, .int .i64 p_p1), (2, .pointer (some ⟨b0_0, 0, .none⟩)), (5, .int .i64 out_0), (9, .int .i64 v_0)]) (fun s g => match s, g with | (out_0, v_0), () => [Chunk.box b0_0 82 [.slice q0_0 m_p0.Matrix.length k0_0, .slice q0_1 m_p0.Curve.length k0_1]]) (x1_1, 0) () ezy0 (by exact Sub.cons rfl (Sub.cons rfl (Sub.cons rfl (Sub.cons rfl (Sub.nil _))))) (by exact (fun _ h => h)) ?_
  rintro zm0 ⟨out_0, v_0⟩ ⟨⟩ zo0 zf0 zb0 ze0
  have zh0 : impl_colored_L0 m_p0 p_p1 out_0 v_0 = some zo0 := zf0
  unfold impl_colored_L0 at zh0
  show WC _ _ _ _ _ [(1, .int .i64 p_p1), (2, .pointer (some ⟨b0_0, 0, .none⟩)), (5, .int .i64 out_0), (9, .int .i64 v_0)] [Chunk.box b0_0 82 [.slice q0_0 m_p0.Matrix.length k0_0, .slice q0_1 m_p0.Curve.length k0_1]]
  refine WC.seq (WC.region ?_)
  refine sp (OpV.lss rfl rfl) ?_
  refine WL.nil (En.next (WC.seq ?_))
  refine WC.cond rfl ?_ ?_
  ·
   intro hc_1
   replace zh0 := ifO_t hc_1 zh0
   refine WC.skip (En.next (WC.seq (WC.block (WC.seq (WC.region ?_)))))
   refine sp (OpV.move rfl) ?_
   refine sp (OpV.assign rfl) ?_
   refine WL.nil (En.next ?_)
   obtain ⟨x5_6, e5_6, zh0⟩ := bnd zh0
   obtain ⟨x5_8, e5_8, zh0⟩ := bnd zh0
   obtain ⟨x5_10, e5_10, zh0⟩ := bnd zh0
   obtain ⟨x5_11, e5_11, zh0⟩ := bnd zh0
   obtain ⟨x5_12, e5_12, zh0⟩ := bnd zh0
   refine WC.drawn [(1, ?r5v1), (2, ?r5v2), (5, ?r5v5), (9, ?r5v9)] (by kernel_rfl) (by kernel_rfl) ?dH5 ?dK5
   case dH5 =>
    intro W hW hk
    refine hW.step rfl rfl rfl (OpV.move rfl) ?_
    refine hW.step rfl rfl rfl (OpV.shlR rfl rfl rfl) ?_
    refine hW.step rfl rfl rfl (OpV.loadAll rfl (.head _) ag_82) ?_
    refine hW.step rfl rfl rfl (OpV.loadAll rfl (.head _) ag_82) ?_
    refine hW.step rfl rfl rfl (OpV.move rfl) ?_
    refine hW.step rfl rfl rfl (OpV.move rfl) ?_
    refine hW.step rfl rfl rfl (OpV.call (evs.cons rfl (evs.cons rfl (evs.nil))) ca_144 (fun w hs => w_impl_channel e5_6)) ?_
    refine hW.step rfl rfl rfl (OpV.move rfl) ?_
    refine hW.step rfl rfl rfl (OpV.call (evs.cons rfl (evs.cons rfl (evs.nil))) ca_144 (fun w hs => w_impl_channel e5_8)) ?_
    refine hW.step rfl rfl rfl (OpV.move rfl) ?_
    refine hW.step rfl rfl rfl (OpV.call (evs.cons rfl (evs.cons rfl (evs.nil))) ca_144 (fun w hs => w_impl_channel e5_10)) ?_
    refine hW.step rfl rfl rfl (OpV.call (evs.cons rfl (evs.cons rfl (evs.cons rfl (evs.cons rfl (evs.cons rfl (evs.nil)))))) ca_178 (fun w hs => w_impl_mixRow e5_11 (r0_0.ext hs.below) (r0_1.ext hs.below))) ?_
    refine hW.step rfl rfl rfl (OpV.call (evs.cons rfl (evs.cons rfl (evs.nil))) ca_177 (fun w hs => w_impl_curveValue e5_12 (r0_0.ext hs.below) (r0_1.ext hs.below))) ?_
    refine hW.step rfl rfl rfl (OpV.orR rfl rfl) ?_
    refine hW.step rfl rfl rfl (OpV.assign rfl) ?_
    refine hk _ ?_
    refine Sub.cons ?_ (Sub.cons ?_ (Sub.cons ?_ (Sub.cons ?_ (Sub.nil _))))
    all_goals exact rfl
   refine En.block_norm (En.next (WC.region ?_))
   refine sp (OpV.addR rfl rfl) ?_
   refine sp (OpV.move rfl) ?_
   refine WL.nil ?_
   exact En.backP zb0 zh0 () (Sub.cons rfl (Sub.cons rfl (Sub.cons rfl (Sub.cons rfl (Sub.nil _))))) (fun _ h => h)
  ·
   intro hc_1
   replace zh0 := ifO_f hc_1 zh0
   refine WC.exit (En.then_exit (En.then_exit ?_))
   have hx := exitP ze0 zh0
   exact En.wk _ _ (Sub.cons rfl (Sub.nil _)) (fun _ h => (h).sub (.cons _ (.slnil))) (zK0_0 (out_0, ()) hx.symm)

theorem w_impl_Threshold {x_p0 : Int} {y_p1 : Int} {r : Int}  (h : impl_Threshold x_p0 y_p1 = some r) {w : World}    :
    Calls Try.prog 181 #[.int .i64 x_p0, .int .i64 y_p1] w (fun en w' => en = .returned (.int .i64 r) ∧ Ext w w') := by
 unfold impl_Threshold at h
 refine enter (vs := [_, _]) Try.func181 rfl rfl rfl rfl ?_
 refine WC.seq (WC.region ?_)
 refine sp (OpV.assign rfl) ?_
 refine WL.nil (En.next (WC.seq (WC.block (WC.seq (WC.region ?_)))))
 refine sp (OpV.move rfl) ?_
 refine sp (OpV.remR rfl rfl rfl) ?_
 refine sp (OpV.eql rfl rfl) ?_
 refine sp (OpV.move rfl) ?_
 refine Lt.ofWL.and 9 13 12 (p := ?pz1) (rest := ?qz1) (B := ?Bz1) rfl ?Tz1 ?Fz1 ?az1 ?bz1 ?cz1 ?dz1 ?ez1
 case Tz1 =>
  intro hcz1 hkz1
  refine sp (OpV.move rfl) ?_
  refine sp (OpV.remR rfl rfl rfl) ?_
  refine sp (OpV.eql rfl rfl) ?_
  refine hkz1 _ ?_ ?_
  exact rfl
  repeat (first | exact Sub.refl _ | refine Sub.skip rfl ?_)
 case Fz1 =>
  intro hcz1 hkz1
  refine sk ?_
  refine sk ?_
  refine sk ?_
  refine hkz1 _ ?_
  repeat (first | exact Sub.refl _ | refine Sub.skip rfl ?_)
 case az1 => exact rfl
 case bz1 => exact rfl
 case cz1 => exact rfl
 case dz1 => exact rfl
 refine sp (OpV.assign rfl) ?_
 refine WL.nil (En.next ?_)
 refine WC.cond rfl ?_ ?_
 ·
  intro hc_1
  replace h := ifO_t hc_1 h
  refine WC.seq (WC.region ?_)
  refine sp (OpV.assign rfl) ?_
  refine WL.nil (En.next (WC.ret (En.block_ret (En.then_ret ?_))))
  refine En.ret1 rfl (Res.tmp rfl) ?_
  obtain rfl := Option.some.inj h
  intro w' hs
  exact ⟨rfl, hs.below⟩
 ·
  intro hc_1
  replace h := ifO_f hc_1 h
  refine WC.seq (WC.region ?_)
  refine sp (OpV.move rfl) ?_
  refine sp (OpV.remR rfl rfl rfl) ?_
  refine sp (OpV.eql rfl rfl) ?_
  refine sp (OpV.assign rfl) ?_
  refine WL.nil (En.next ?_)
  refine WC.cond rfl ?_ ?_
  ·
   intro hc_2
   replace h := ifO_t hc_2 h
   refine WC.seq (WC.region ?_)
   refine sp (OpV.assign rfl) ?_
   refine WL.nil (En.next (WC.ret (En.block_ret (En.then_ret ?_))))
   refine En.ret1 rfl (Res.tmp rfl) ?_
   obtain rfl := Option.some.inj h
   intro w' hs
   exact ⟨rfl, hs.below⟩
  ·
   intro hc_2
   replace h := ifO_f hc_2 h
   refine WC.seq (WC.region ?_)
   refine sp (OpV.move rfl) ?_
   refine sp (OpV.remR rfl rfl rfl) ?_
   refine sp (OpV.eql rfl rfl) ?_
   refine sp (OpV.assign rfl) ?_
   refine WL.nil (En.next ?_)
   refine WC.cond rfl ?_ ?_
   ·
    intro hc_3
    replace h := ifO_t hc_3 h
    refine WC.seq (WC.region ?_)
    refine sp (OpV.assign rfl) ?_
    refine WL.nil (En.next (WC.ret (En.block_ret (En.then_ret ?_))))
    refine En.ret1 rfl (Res.tmp rfl) ?_
    obtain rfl := Option.some.inj h
    intro w' hs
    exact ⟨rfl, hs.below⟩
   ·
    intro hc_3
    replace h := ifO_f hc_3 h
    refine WC.skip (En.block_norm (En.next (WC.seq (WC.region ?_))))
    refine sp (OpV.assign rfl) ?_
    refine WL.nil (En.next (WC.ret ?_))
    refine En.ret1 rfl (Res.tmp rfl) ?_
    obtain rfl := Option.some.inj h
    intro w' hs
    exact ⟨rfl, hs.below⟩

theorem w_impl_DitherLevel {v_p0 : Int} {x_p1 : Int} {y_p2 : Int} {r : Int}  (h : impl_DitherLevel v_p0 x_p1 y_p2 = some r) {w : World}    :
    Calls Try.prog 176 #[.int .i64 v_p0, .int .i64 x_p1, .int .i64 y_p2] w (fun en w' => en = .returned (.int .i64 r) ∧ Ext w w') := by
 unfold impl_DitherLevel at h
 refine enter (vs := [_, _, _]) Try.func176 rfl rfl rfl rfl ?_
 refine WC.seq (WC.region ?_)
 refine sp (OpV.assign rfl) ?_
 refine WL.nil (En.next (WC.seq (WC.seq ?_)))
 obtain ⟨x1_1, e1_1, h⟩ := bnd h
 refine WC.region ?_
 refine sp (OpV.move rfl) ?_
 refine sp (OpV.call (evs.cons rfl (evs.cons rfl (evs.cons rfl (evs.nil)))) ca_91 (fun w hs => w_impl_within e1_1)) ?_
 refine sp (OpV.not rfl) ?_
 refine WL.nil (En.next ?_)
 refine WC.cond rfl ?_ ?_
 ·
  intro hc_1
  replace h := ifO_t hc_1 h
  refine WC.seq (WC.region ?_)
  refine sp (OpV.assign rfl) ?_
  refine WL.nil (En.next (WC.ret (En.then_ret ?_)))
  refine En.ret1 rfl (Res.tmp rfl) ?_
  obtain rfl := Option.some.inj h
  intro w' hs
  exact ⟨rfl, hs.below⟩
 ·
  intro hc_1
  replace h := ifO_f hc_1 h
  refine WC.skip (En.next (WC.seq ?_))
  obtain ⟨x3_4, e3_4, h⟩ := bnd h
  refine WC.region ?_
  refine sp (OpV.move rfl) ?_
  refine sp (OpV.mulR rfl rfl) ?_
  refine sp (OpV.move rfl) ?_
  refine sp (OpV.move rfl) ?_
  refine sp (OpV.call (evs.cons rfl (evs.cons rfl (evs.nil))) ca_181 (fun w hs => w_impl_Threshold e3_4)) ?_
  refine sp (OpV.mulR rfl rfl) ?_
  refine sp (OpV.addR rfl rfl) ?_
  refine sp (OpV.quoR rfl rfl rfl) ?_
  refine sp (OpV.assign rfl) ?_
  refine WL.nil (En.next (WC.ret ?_))
  refine En.ret1 rfl (Res.tmp rfl) ?_
  obtain rfl := Option.some.inj h
  intro w' hs
  exact ⟨rfl, hs.below⟩

theorem w_impl_DitherPixel {p_p0 : Int} {x_p1 : Int} {y_p2 : Int} {r : Int}  (h : impl_DitherPixel p_p0 x_p1 y_p2 = some r) {w : World}    :
    Calls Try.prog 159 #[.int .i64 p_p0, .int .i64 x_p1, .int .i64 y_p2] w (fun en w' => en = .returned (.int .i64 r) ∧ Ext w w') := by
 unfold impl_DitherPixel at h
 refine enter (vs := [_, _, _]) Try.func159 rfl rfl rfl rfl ?_
 refine WC.seq (WC.region ?_)
 refine sp (OpV.assign rfl) ?_
 refine WL.nil (En.next (WC.seq (WC.seq ?_)))
 obtain ⟨x1_1, e1_1, h⟩ := bnd h
 refine WC.region ?_
 refine sp (OpV.move rfl) ?_
 refine sp (OpV.call (evs.cons rfl (evs.nil)) ca_143 (fun w hs => w_impl_isPixel e1_1)) ?_
 refine sp (OpV.not rfl) ?_
 refine WL.nil (En.next ?_)
 refine WC.cond rfl ?_ ?_
 ·
  intro hc_1
  replace h := ifO_t hc_1 h
  refine WC.seq (WC.region ?_)
  refine sp (OpV.assign rfl) ?_
  refine WL.nil (En.next (WC.ret (En.then_ret ?_)))
  refine En.ret1 rfl (Res.tmp rfl) ?_
  obtain rfl := Option.some.inj h
  intro w' hs
  exact ⟨rfl, hs.below⟩
 ·
  intro hc_1
  replace h := ifO_f hc_1 h
  refine WC.skip (En.next (WC.seq (WC.region ?_)))
  refine sp (OpV.assign rfl) ?_
  refine WL.nil (En.next (WC.seq (WC.seq (WC.region ?_))))
  refine sp (OpV.assign rfl) ?_
  refine WL.nil (En.next (WC.block ?_))
  obtain ⟨zy0, ezy0, h⟩ := bnd h
  refine WC.cut (X := (Int) × (Unit)) (.exit 0) (fun x => zy0 = x.1) (fun x => match x with | (d_0e, ()) => [(7, .int .i64 d_0e)]) (fun x => match x with | (d_0e, ()) => []) ?_ ?_
  ·
   rintro ⟨d_0e, ⟨⟩⟩ hx
   replace hx : d_0e = zy0 := hx.symm
   subst hx
   show En _ _ _ _ [(7, .int .i64 d_0e)] []
   refine En.block_exit (En.next (WC.seq (WC.region ?_)))
   refine sp (OpV.move rfl) ?_
   refine sp (OpV.assign rfl) ?_
   refine WL.nil (En.next (WC.ret ?_))
   refine En.ret1 rfl (Res.tmp rfl) ?_
   obtain rfl := Option.some.inj h
   intro w' hs
   exact ⟨rfl, hs.below⟩
  ·
   intro zK0_0
   refine WC.loopP (G := Unit) (fun s g => match s, g with | (d_0, k_0), () => [(0, .int .i64 p_p0), (1, .int .i64 x_p1), (2, .int .i64 y_p2), (7, .int .i64 d_0), (8, .int .i64 k_0)]) (fun s g => match s, g with | (d_0, k_0), () => []) (0, 1) () ezy0 (by exact Sub.cons rfl (Sub.cons rfl (Sub.cons rfl (Sub.cons rfl (Sub.cons rfl (Sub.nil _)))))) (by exact (fun _ h => h)) ?_
   rintro zm0 ⟨d_0, k_0⟩ ⟨⟩ zo0 zf0 zb0 ze0
   have zh0 : impl_DitherPixel_L0 p_p0 x_p1 y_p2 d_0 k_0 = some zo0 := zf0
   unfold impl_DitherPixel_L0 at zh0
   show WC _ _ _ _ _ [(0, .int .i64 p_p0), (1, .int .i64 x_p1), (2, .int .i64 y_p2), (7, .int .i64 d_0), (8, .int .i64 k_0)] []
   refine WC.seq (WC.seq (WC.region ?_))
   refine sp (OpV.move rfl) ?_
   refine sp (OpV.lss rfl rfl) ?_
   refine WL.nil (En.next ?_)
   refine WC.cond rfl ?_ ?_
   ·
    intro hc_2
    replace zh0 := ifO_t hc_2 zh0
    refine WC.skip (En.next (WC.seq (WC.block ?_)))
    obtain ⟨x7_4, e7_4, zh0⟩ := bnd zh0
    obtain ⟨x7_7, e7_7, zh0⟩ := bnd zh0
    refine WC.region ?_
    refine sp (OpV.move rfl) ?_
    refine sp (OpV.shlR rfl rfl rfl) ?_
    refine sp (OpV.move rfl) ?_
    refine sp (OpV.move rfl) ?_
    refine sp (OpV.call (evs.cons rfl (evs.cons rfl (evs.nil))) ca_144 (fun w hs => w_impl_channel e7_4)) ?_
    refine sp (OpV.move rfl) ?_
    refine sp (OpV.move rfl) ?_
    refine sp (OpV.call (evs.cons rfl (evs.cons rfl (evs.cons rfl (evs.nil)))) ca_176 (fun w hs => w_impl_DitherLevel e7_7)) ?_
    refine sp (OpV.orR rfl rfl) ?_
    refine sp (OpV.assign rfl) ?_
    refine WL.nil (En.block_norm (En.next (WC.region ?_)))
    refine sp (OpV.move rfl) ?_
    refine sp (OpV.addR rfl rfl) ?_
    refine sp (OpV.assign rfl) ?_
    refine WL.nil ?_
    exact En.backP zb0 zh0 () (Sub.cons rfl (Sub.cons rfl (Sub.cons rfl (Sub.cons rfl (Sub.cons rfl (Sub.nil _)))))) (fun _ h => h)
   ·
    intro hc_2
    replace zh0 := ifO_f hc_2 zh0
    refine WC.exit (En.then_exit (En.then_exit ?_))
    have hx := exitP ze0 zh0
    exact En.wk _ _ (Sub.cons rfl (Sub.nil _)) (fun _ h => h) (zK0_0 (d_0, ()) hx.symm)

theorem w_impl_lineDots {i_p0 : ImageT} {m_p1 : ColorMapT} {y_p2 : Int} {r : (List Int)} {q0_0 : Option Addr} {l0_0 k0_0 : Nat} {q1_0 : Option Addr} {l1_0 k1_0 : Nat} {q1_1 : Option Addr} {l1_1 k1_1 : Nat} (h : impl_lineDots i_p0 m_p1 y_p2 = some r) {w : World} (r0_0 : Rd tInt w q0_0 l0_0 k0_0 i_p0.Data) (r1_0 : Rd tInt w q1_0 l1_0 k1_0 m_p1.Matrix) (r1_1 : Rd tInt w q1_1 l1_1 k1_1 m_p1.Curve)   :
    Calls Try.prog 113 #[.agg #[.int .i64 i_p0.W, .int .i64 i_p0.H, .slice q0_0 l0_0 k0_0], .agg #[.slice q1_0 l1_0 k1_0, .slice q1_1 l1_1 k1_1], .int .i64 y_p2] w (fun en w' => ∃ rv G, en = .returned rv ∧ (∃ (a0_0 : Option Addr) (n0_0 : Nat) (c0_0 : Nat) (f0_0 : List Nat), rv = .slice a0_0 n0_0 c0_0 ∧ G = [Chunk.own tInt f0_0 a0_0 n0_0 c0_0 r]) ∧ St w G w') := by
 obtain rfl := r0_0.1
 obtain rfl := r1_0.1
 obtain rfl := r1_1.1
 unfold impl_lineDots at h
 refine enter (vs := [_, _, _]) Try.func113 rfl rfl rfl rfl ?_
 refine WC.seq (WC.region ?_)
 refine WL.heavy rfl rfl rfl (OpH.box rfl rfl ?_)
 intro b0_0
 refine WL.heavy rfl rfl rfl (OpH.box rfl rfl ?_)
 intro b0_1
 refine sp (OpV.assign rfl) ?_
 refine WL.nil (En.next (WC.seq ?_))
 obtain ⟨x1_2, e1_2, h⟩ := bnd h
 refine WC.region ?_
 refine sp (OpV.fieldAddr rfl fo_36_0) ?_
 refine sp (OpV.loadBox rfl pt_3 (.tail _ (.head _)) rfl) ?_
 refine WL.heavy rfl rfl rfl (OpH.makeO (A := tInt) rfl rfl mi_32 (fun w => tInt_flat.ow w 0) (by decide) e1_2 ⟨Int.le_refl _, (mkO_some e1_2).1.2⟩ ?_)
 intro b1_2
 refine sp (OpV.assign rfl) ?_
 refine WL.nil (En.next (WC.seq (WC.seq (WC.region ?_))))
 refine sp (OpV.move rfl) ?_
 refine sp (OpV.len rfl si_32 rfl) ?_
 refine sp (OpV.move rfl) ?_
 refine WL.nil (En.next (WC.block ?_))
 obtain ⟨zy0, ezy0, h⟩ := bnd h
 refine WC.cut (X := ((List Int)) × ((List Nat))) (.exit 0) (fun x => zy0 = x.1) (fun x => match x with | (out_0e, fout_0e) => [(7, .slice (some ⟨b1_2, 0, .none⟩) x1_2.length i_p0.W.toNat)]) (fun x => match x with | (out_0e, fout_0e) => [Chunk.own tInt fout_0e (some ⟨b1_2, 0, .none⟩) x1_2.length i_p0.W.toNat out_0e]) ?_ ?_
 ·
  rintro ⟨out_0e, fout_0e⟩ hx
  replace hx : out_0e = zy0 := hx.symm
  subst hx
  show En _ _ _ _ [(7, .slice (some ⟨b1_2, 0, .none⟩) x1_2.length i_p0.W.toNat)] [Chunk.own tInt fout_0e (some ⟨b1_2, 0, .none⟩) x1_2.length i_p0.W.toNat out_0e]
  refine En.block_exit (En.next (WC.seq (WC.region ?_)))
  refine sp (OpV.move rfl) ?_
  refine sp (OpV.assign rfl) ?_
  refine WL.nil (En.next (WC.ret ?_))
  refine En.ret1 rfl (Res.tmp rfl) ?_
  obtain rfl := Option.some.inj h
  intro w' hs
  have hs := hs
  exact ⟨_, _, rfl, ⟨(some ⟨b1_2, 0, .none⟩), x1_2.length, i_p0.W.toNat, fout_0e, rfl, rfl⟩, hs⟩
 ·
  intro zK0_0
  refine WC.loopP (G := (List Nat)) (fun s g => match s, g with | (out_0, v_0), fout_0 => [(2, .int .i64 y_p2), (3, .pointer (some ⟨b0_0, 0, .none⟩)), (4, .pointer (some ⟨b0_1, 0, .none⟩)), (7, .slice (some ⟨b1_2, 0, .none⟩) x1_2.length i_p0.W.toNat), (13, .int .i64 (x1_2.length : Int)), (14, .int .i64 v_0)]) (fun s g => match s, g with | (out_0, v_0), fout_0 => [Chunk.box b0_0 36 [.int .i64 i_p0.W, .int .i64 i_p0.H, .slice q0_0 i_p0.Data.length k0_0], Chunk.box b0_1 82 [.slice q1_0 m_p1.Matrix.length k1_0, .slice q1_1 m_p1.Curve.length k1_1], Chunk.own tInt fout_0 (some ⟨b1_2, 0, .none⟩) x1_2.length i_p0.W.toNat out_0]) (x1_2, 0) [b1_2] ezy0 (by exact Sub.cons rfl (Sub.cons rfl (Sub.cons rfl (Sub.cons rfl (Sub.cons rfl (Sub.cons rfl (Sub.nil _))))))) (by exact (fun _ h => ((h).perm (List.perm_middle (l₁ := [_]))).perm (List.perm_middle (l₁ := [_, _])))) ?_
  rintro zm0 ⟨out_0, v_0⟩ fout_0 zo0 zf0 zb0 ze0
  have zh0 : impl_lineDots_L0 i_p0 m_p1 y_p2 x1_2 out_0 v_0 = some zo0 := zf0
  unfold impl_lineDots_L0 at zh0
  show WC _ _ _ _ _ [(2, .int .i64 y_p2), (3, .pointer (some ⟨b0_0, 0, .none⟩)), (4, .pointer (some ⟨b0_1, 0, .none⟩)), (7, .slice (some ⟨b1_2, 0, .none⟩) x1_2.length i_p0.W.toNat), (13, .int .i64 (x1_2.length : Int)), (14, .int .i64 v_0)] [Chunk.box b0_0 36 [.int .i64 i_p0.W, .int .i64 i_p0.H, .slice q0_0 i_p0.Data.length k0_0], Chunk.box b0_1 82 [.slice q1_0 m_p1.Matrix.length k1_0, .slice q1_1 m_p1.Curve.length k1_1], Chunk.own tInt fout_0 (some ⟨b1_2, 0, .none⟩) x1_2.length i_p0.W.toNat out_0]
  refine WC.seq (WC.region ?_)
  refine sp (OpV.lss rfl rfl) ?_
  refine WL.nil (En.next (WC.seq ?_))
  refine WC.cond rfl ?_ ?_
  ·
   intro hc_1
   replace zh0 := ifO_t hc_1 zh0
   refine WC.skip (En.next (WC.seq (WC.block (WC.seq (WC.region ?_)))))
   refine sp (OpV.move rfl) ?_
   refine sp (OpV.assign rfl) ?_
   refine WL.nil (En.next ?_)
   refine WC.inh fun hin5 => ?_
   obtain ⟨x5_11, e5_11, zh0⟩ := bnd zh0
   obtain ⟨g5_11, o5_11, _, ha5_11, rfl, hd5_11⟩ := Rd.atIdx r0_0 e5_11
   replace hd5_11 : ∀ (j : Nat) v, ([.int .i64 x5_11] : List Value)[j]? = some v → w.cell? ⟨g5_11, o5_11 + (wr ((wr (y_p2 * i_p0.W)) + v_0)).toNat * 1 + j, .none⟩ = some v := hd5_11
   obtain ⟨x5_13, e5_13, zh0⟩ := bnd zh0
   obtain ⟨x5_16, e5_16, zh0⟩ := bnd zh0
   have hn5_17 := ownLen hin5 (.tail _ (.tail _ (.head _)))
   obtain ⟨x5_18, e5_18, zh0⟩ := bnd zh0
   obtain ⟨g5_17, ha5_17⟩ := ownAddrU hin5 (.tail _ (.tail _ (.head _))) e5_18
   refine WC.wkF (fun _ h => h.perm (List.perm_middle (l₁ := [_, _]))) ?_
   refine WC.drawnH [_] ([_, _]) (fun _ h => h) (by kernel_rfl) ?_
   refine WAE.take (i := 0) rfl (by kernel_rfl) (by kernel_rfl) (by kernel_rfl) rfl rfl rfl (OpV.move rfl) ?_
   refine WAE.take (i := 1) rfl (by kernel_rfl) (by kernel_rfl) (by kernel_rfl) rfl rfl rfl (OpV.move rfl) ?_
   refine WAE.take (i := 2) rfl (by kernel_rfl) (by kernel_rfl) (by kernel_rfl) rfl rfl rfl (OpV.loadAll rfl (.tail _ (.head _)) ag_82) ?_
   refine WAE.take (i := 3) rfl (by kernel_rfl) (by kernel_rfl) (by kernel_rfl) rfl rfl rfl (OpV.fieldAddr rfl fo_36_2) ?_
   refine WAE.take (i := 4) rfl (by kernel_rfl) (by kernel_rfl) (by kernel_rfl) rfl rfl rfl (OpV.loadBox rfl pt_32 (.head _) rfl) ?_
   refine WAE.take (i := 5) rfl (by kernel_rfl) (by kernel_rfl) (by kernel_rfl) rfl rfl rfl (OpV.move rfl) ?_
   refine WAE.take (i := 6) rfl (by kernel_rfl) (by kernel_rfl) (by kernel_rfl) rfl rfl rfl (OpV.fieldAddr rfl fo_36_0) ?_
   refine WAE.take (i := 7) rfl (by kernel_rfl) (by kernel_rfl) (by kernel_rfl) rfl rfl rfl (OpV.loadBox rfl pt_3 (.head _) rfl) ?_
   refine WAE.take (i := 8) rfl (by kernel_rfl) (by kernel_rfl) (by kernel_rfl) rfl rfl rfl (OpV.mulR rfl rfl) ?_
   refine WAE.take (i := 9) rfl (by kernel_rfl) (by kernel_rfl) (by kernel_rfl) rfl rfl rfl (OpV.move rfl) ?_
   refine WAE.take (i := 10) rfl (by kernel_rfl) (by kernel_rfl) (by kernel_rfl) rfl rfl rfl (OpV.addR rfl rfl) ?_
   refine WAE.take (i := 11) rfl (by kernel_rfl) (by kernel_rfl) (by kernel_rfl) rfl rfl rfl (OpV.idxA rfl rfl se_32 ha5_11 ⟨(idx_some e5_11).1, (idx_some e5_11).2.1⟩) ?_
   refine WAE.take (i := 12) rfl (by kernel_rfl) (by kernel_rfl) (by kernel_rfl) rfl rfl rfl (OpV.load1 rfl pt_3 (fun w hs => hs.cell (hd5_11 0 _ rfl))) ?_
   refine WAE.take (i := 13) rfl (by kernel_rfl) (by kernel_rfl) (by kernel_rfl) rfl rfl rfl (OpV.call (evs.cons rfl (evs.cons rfl (evs.nil))) ca_160 (fun w hs => w_impl_colored e5_13 (r1_0.ext hs.below) (r1_1.ext hs.below))) ?_
   refine WAE.take (i := 14) rfl (by kernel_rfl) (by kernel_rfl) (by kernel_rfl) rfl rfl rfl (OpV.move rfl) ?_
   refine WAE.take (i := 15) rfl (by kernel_rfl) (by kernel_rfl) (by kernel_rfl) rfl rfl rfl (OpV.move rfl) ?_
   refine WAE.take (i := 16) rfl (by kernel_rfl) (by kernel_rfl) (by kernel_rfl) rfl rfl rfl (OpV.call (evs.cons rfl (evs.cons rfl (evs.cons rfl (evs.nil)))) ca_159 (fun w hs => w_impl_DitherPixel e5_16)) ?_
   refine WAE.take (i := 17) rfl (by kernel_rfl) (by kernel_rfl) (by kernel_rfl) rfl rfl rfl (OpV.idxA rfl rfl se_32 ha5_17 ⟨(upd_some e5_18).1.1, by rw [hn5_17]; exact (upd_some e5_18).1.2⟩) ?_
   refine WAE.all (rs := [18]) (by kernel_rfl) rfl (AllR.cons0 rfl rfl rfl ?_ AllR.nil)
   refine OpH.wkF (fun _ h => St.elFlat tInt_flat x5_16 h) ?_
   refine OpH.setEl (A := tInt) ha5_17 rfl rfl rfl ts_3 e5_18 ?_
   intro f5_18
   refine ⟨[_], rfl, ?_⟩
   refine WAE.rebase (H := []) ?_
   refine WAE.done (by kernel_rfl) ?_ _
   refine En.block_norm (En.next (WC.region ?_))
   refine sp (OpV.addR rfl rfl) ?_
   refine sp (OpV.move rfl) ?_
   refine WL.nil ?_
   exact En.backP zb0 zh0 f5_18 (Sub.cons rfl (Sub.cons rfl (Sub.cons rfl (Sub.cons rfl (Sub.cons rfl (Sub.cons rfl (Sub.nil _))))))) (fun _ h => ((h).perm (List.perm_middle (l₁ := [_, _]))).perm (List.perm_middle (l₁ := [_, _])))
  ·
   intro hc_1
   replace zh0 := ifO_f hc_1 zh0
   refine WC.exit (En.then_exit (En.then_exit ?_))
   have hx := exitP ze0 zh0
   exact En.wk _ _ (Sub.cons rfl (Sub.nil _)) (fun _ h => ((h).perm (List.perm_middle (l₁ := [_, _]))).sub (.cons_cons _ (.cons _ (.cons _ (.slnil))))) (zK0_0 (out_0, fout_0) hx.symm)

theorem w_impl_ScanDots {list_p0 : List PlaneT} {w_p1 : Int} {h_p2 : Int} {m_p3 : ColorMapT} {y_p4 : Int} {r : (List Int)} {q0_0 : Option Addr} {l0_0 k0_0 : Nat} {q3_0 : Option Addr} {l3_0 k3_0 : Nat} {q3_1 : Option Addr} {l3_1 k3_1 : Nat} (h : impl_ScanDots list_p0 w_p1 h_p2 m_p3 y_p4 = some r) {w : World} (r0_0 : Rd tPlane w q0_0 l0_0 k0_0 list_p0) (r3_0 : Rd tInt w q3_0 l3_0 k3_0 m_p3.Matrix) (r3_1 : Rd tInt w q3_1 l3_1 k3_1 m_p3.Curve)   :
    Calls Try.prog 54 #[.slice q0_0 l0_0 k0_0, .int .i64 w_p1, .int .i64 h_p2, .agg #[.slice q3_0 l3_0 k3_0, .slice q3_1 l3_1 k3_1], .int .i64 y_p4] w (fun en w' => ∃ rv G, en = .returned rv ∧ (∃ (a0_0 : Option Addr) (n0_0 : Nat) (c0_0 : Nat) (f0_0 : List Nat), rv = .slice a0_0 n0_0 c0_0 ∧ G = [Chunk.own tInt f0_0 a0_0 n0_0 c0_0 r]) ∧ St w G w') := by
 obtain rfl := r0_0.1
 obtain rfl := r3_0.1
 obtain rfl := r3_1.1
 unfold impl_ScanDots at h
 refine enter (vs := [_, _, _, _, _]) Try.func54 rfl rfl rfl rfl ?_
 refine WC.seq (WC.region ?_)
 refine WL.heavy rfl rfl rfl (OpH.box rfl rfl ?_)
 intro b0_0
 refine sp (OpV.assign rfl) ?_
 refine WL.nil (En.next (WC.seq (WC.seq ?_)))
 obtain ⟨x1_3, e1_3, h⟩ := bnd h
 obtain ⟨q1_9, e1_9, h⟩ := bnd h
 obtain ⟨q1_16, e1_16, h⟩ := bnd h
 refine WC.region ?_
 refine sp (OpV.move rfl) ?_
 refine sp (OpV.move rfl) ?_
 refine sp (OpV.move rfl) ?_
 refine sp (OpV.call (evs.cons rfl (evs.cons rfl (evs.cons rfl (evs.nil)))) ca_37 (fun w hs => w_impl_PlanesOk e1_3 (r0_0.ext hs.below))) ?_
 refine sp (OpV.not rfl) ?_
 refine sp (OpV.move rfl) ?_
 refine Lt.ofWL.orQ 16 20 19 (p := ?pz1) (rest := ?qz1) (B := q1_9) rfl (fun hz => orO_t e1_9 hz) ?Tz1 ?Fz1 ?az1 ?bz1 ?cz1 ?dz1 ?ez1
 case Tz1 =>
  intro hcz1 hkz1
  refine sk ?_
  refine sk ?_
  refine sk ?_
  refine hkz1 _ ?_
  repeat (first | exact Sub.refl _ | refine Sub.skip rfl ?_)
 case Fz1 =>
  intro hcz1 hkz1
  have hqz1 := orO_f e1_9 hcz1
  obtain ⟨x1_7, e1_7, hqz1⟩ := bnd hqz1
  obtain rfl := Option.some.inj hqz1
  refine sp (OpV.loadAll rfl (.head _) ag_82) ?_
  refine sp (OpV.call (evs.cons rfl (evs.nil)) ca_112 (fun w hs => w_impl_ColorOk e1_7 (r3_0.ext hs.below) (r3_1.ext hs.below))) ?_
  refine sp (OpV.not rfl) ?_
  refine hkz1 _ ?_ ?_
  exact rfl
  repeat (first | exact Sub.refl _ | refine Sub.skip rfl ?_)
 case az1 => exact rfl
 case bz1 => exact rfl
 case cz1 => exact rfl
 case dz1 => exact rfl
 refine sp (OpV.move rfl) ?_
 refine Lt.ofWL.orQ 21 27 26 (p := ?pz2) (rest := ?qz2) (B := q1_16) rfl (fun hz => orO_t e1_16 hz) ?Tz2 ?Fz2 ?az2 ?bz2 ?cz2 ?dz2 ?ez2
 case Tz2 =>
  intro hcz2 hkz2
  refine sk ?_
  refine sk ?_
  refine sk ?_
  refine sk ?_
  refine sk ?_
  refine hkz2 _ ?_
  repeat (first | exact Sub.refl _ | refine Sub.skip rfl ?_)
 case Fz2 =>
  intro hcz2 hkz2
  have hqz2 := orO_f e1_16 hcz2
  obtain ⟨x1_14, e1_14, hqz2⟩ := bnd hqz2
  obtain rfl := Option.some.inj hqz2
  refine sp (OpV.move rfl) ?_
  refine sp (OpV.move rfl) ?_
  refine sp (OpV.subR rfl rfl) ?_
  refine sp (OpV.call (evs.cons rfl (evs.cons rfl (evs.cons rfl (evs.nil)))) ca_91 (fun w hs => w_impl_within e1_14)) ?_
  refine sp (OpV.not rfl) ?_
  refine hkz2 _ ?_ ?_
  exact rfl
  repeat (first | exact Sub.refl _ | refine Sub.skip rfl ?_)
 case az2 => exact rfl
 case bz2 => exact rfl
 case cz2 => exact rfl
 case dz2 => exact rfl
 refine WL.nil (En.next ?_)
 refine WC.cond rfl ?_ ?_
 ·
  intro hc_1
  replace h := ifO_t hc_1 h
  refine WC.seq (WC.region ?_)
  refine sp (OpV.assign rfl) ?_
  refine WL.nil (En.next (WC.ret (En.then_ret ?_)))
  refine En.ret1 rfl (Res.tmp rfl) ?_
  obtain rfl := Option.some.inj h
  intro w' hs
  have hs := ((hs).ownNil (A := tInt)).sub (.cons_cons _ (.cons _ (.slnil)))
  exact ⟨_, _, rfl, ⟨.none, 0, 0, [], rfl, rfl⟩, hs⟩
 ·
  intro hc_1
  replace h := ifO_f hc_1 h
  refine WC.skip (En.next (WC.seq ?_))
  obtain ⟨x3_1, e3_1, h⟩ := bnd h
  obtain ⟨x3_4, e3_4, h⟩ := bnd h
  refine WC.drawnH [] ([_]) (fun _ h => h) (by kernel_rfl) ?_
  refine WAE.take (i := 0) rfl (by kernel_rfl) (by kernel_rfl) (by kernel_rfl) rfl rfl rfl (OpV.move rfl) ?_
  refine WAE.take (i := 2) rfl (by kernel_rfl) (by kernel_rfl) (by kernel_rfl) rfl rfl rfl (OpV.loadAll rfl (.head _) ag_82) ?_
  refine WAE.take (i := 3) rfl (by kernel_rfl) (by kernel_rfl) (by kernel_rfl) rfl rfl rfl (OpV.move rfl) ?_
  refine WAE.all (rs := [1]) (by kernel_rfl) rfl (AllR.cons rfl rfl rfl rfl ?_ AllR.nil)
  refine OpH.callR (evs.cons rfl (evs.nil)) ca_90 (fun w hs => w_impl_scanned e3_1 (r0_0.ext hs.below)) ?_
  rintro _ _ ⟨a3_100, n3_100, c3_100, f3_100, rfl, rfl⟩
  refine ⟨[_], rfl, ?_⟩
  refine WAE.rebase (H := []) ?_
  refine WAE.all (rs := [4]) (by kernel_rfl) rfl (AllR.cons rfl rfl rfl rfl ?_ AllR.nil)
  refine OpH.callR (evs.cons rfl (evs.cons rfl (evs.cons rfl (evs.nil)))) ca_113 (fun w hs => w_impl_lineDots e3_4 (Ow.rd (hs.mem (.head _))) (r3_0.ext hs.below) (r3_1.ext hs.below)) ?_
  rintro _ _ ⟨a3_400, n3_400, c3_400, f3_400, rfl, rfl⟩
  refine ⟨[_], rfl, ?_⟩
  refine WAE.rebase (H := []) ?_
  refine WAE.take (i := 5) rfl (by kernel_rfl) (by kernel_rfl) (by kernel_rfl) rfl rfl rfl (OpV.assign rfl) ?_
  refine WAE.done (by kernel_rfl) ?_ _
  refine En.next (WC.ret ?_)
  refine En.ret1 rfl (Res.tmp rfl) ?_
  obtain rfl := Option.some.inj h
  intro w' hs
  have hs := (hs).sub (.cons_cons _ (.cons _ (.cons _ (.slnil))))
  exact ⟨_, _, rfl, ⟨a3_400, n3_400, c3_400, f3_400, rfl, rfl⟩, hs⟩

theorem w_spec_ChannelOf {p_p0 : Int} {k_p1 : Int} {r : Int}  (h : spec_ChannelOf p_p0 k_p1 = some r) {w : World}    :
    Calls Try.prog 115 #[.int .i64 p_p0, .int .i64 k_p1] w (fun en w' => en = .returned (.int .i64 r) ∧ Ext w w') := by
 unfold spec_ChannelOf at h
 refine enter (vs := [_, _]) Try.func115 rfl rfl rfl rfl ?_
 refine WC.seq (WC.region ?_)
 refine sp (OpV.assign rfl) ?_
 refine WL.nil (En.next (WC.seq (WC.seq ?_)))
 obtain ⟨x1_1, e1_1, h⟩ := bnd h
 obtain ⟨q1_7, e1_7, h⟩ := bnd h
 refine WC.region ?_
 refine sp (OpV.move rfl) ?_
 refine sp (OpV.call (evs.cons rfl (evs.nil)) ca_89 (fun w hs => w_spec_l04Pixel e1_1)) ?_
 refine sp (OpV.not rfl) ?_
 refine sp (OpV.move rfl) ?_
 refine Lt.ofWL.orQ 8 12 11 (p := ?pz1) (rest := ?qz1) (B := q1_7) rfl (fun hz => orO_t e1_7 hz) ?Tz1 ?Fz1 ?az1 ?bz1 ?cz1 ?dz1 ?ez1
 case Tz1 =>
  intro hcz1 hkz1
  refine sk ?_
  refine sk ?_
  refine sk ?_
  refine hkz1 _ ?_
  repeat (first | exact Sub.refl _ | refine Sub.skip rfl ?_)
 case Fz1 =>
  intro hcz1 hkz1
  have hqz1 := orO_f e1_7 hcz1
  obtain ⟨x1_5, e1_5, hqz1⟩ := bnd hqz1
  obtain rfl := Option.some.inj hqz1
  refine sp (OpV.move rfl) ?_
  refine sp (OpV.call (evs.cons rfl (evs.cons rfl (evs.cons rfl (evs.nil)))) ca_88 (fun w hs => w_spec_l01In e1_5)) ?_
  refine sp (OpV.not rfl) ?_
  refine hkz1 _ ?_ ?_
  exact rfl
  repeat (first | exact Sub.refl _ | refine Sub.skip rfl ?_)
 case az1 => exact rfl
 case bz1 => exact rfl
 case cz1 => exact rfl
 case dz1 => exact rfl
 refine WL.nil (En.next ?_)
 refine WC.cond rfl ?_ ?_
 ·
  intro hc_1
  replace h := ifO_t hc_1 h
  refine WC.seq (WC.region ?_)
  refine sp (OpV.assign rfl) ?_
  refine WL.nil (En.next (WC.ret (En.then_ret ?_)))
  refine En.ret1 rfl (Res.tmp rfl) ?_
  obtain rfl := Option.some.inj h
  intro w' hs
  exact ⟨rfl, hs.below⟩
 ·
  intro hc_1
  replace h := ifO_f hc_1 h
  refine WC.skip (En.next (WC.seq ?_))
  obtain ⟨x3_4, e3_4, h⟩ := bnd h
  refine WC.region ?_
  refine sp (OpV.move rfl) ?_
  refine sp (OpV.move rfl) ?_
  refine sp (OpV.mulR rfl rfl) ?_
  refine sp (OpV.subR rfl rfl) ?_
  refine sp (OpV.shrR rfl rfl e3_4) ?_
  refine sp (OpV.andR rfl rfl) ?_
  refine sp (OpV.assign rfl) ?_
  refine WL.nil (En.next (WC.ret ?_))
  refine En.ret1 rfl (Res.tmp rfl) ?_
  obtain rfl := Option.some.inj h
  intro w' hs
  exact ⟨rfl, hs.below⟩

theorem w_spec_Threshold {x_p0 : Int} {y_p1 : Int} {r : Int}  (h : spec_Threshold x_p0 y_p1 = some r) {w : World}    :
    Calls Try.prog 161 #[.int .i64 x_p0, .int .i64 y_p1] w (fun en w' => en = .returned (.int .i64 r) ∧ Ext w w') := by
 unfold spec_Threshold at h
 refine enter (vs := [_, _]) Try.func161 rfl rfl rfl rfl ?_
 refine WC.seq (WC.region ?_)
 refine sp (OpV.assign rfl) ?_
 refine WL.nil (En.next (WC.seq (WC.block (WC.seq (WC.region ?_)))))
 refine sp (OpV.move rfl) ?_
 refine sp (OpV.andR rfl rfl) ?_
 refine sp (OpV.eql rfl rfl) ?_
 refine sp (OpV.move rfl) ?_
 refine Lt.ofWL.and 9 13 12 (p := ?pz1) (rest := ?qz1) (B := ?Bz1) rfl ?Tz1 ?Fz1 ?az1 ?bz1 ?cz1 ?dz1 ?ez1
 case Tz1 =>
  intro hcz1 hkz1
  refine sp (OpV.move rfl) ?_
  refine sp (OpV.andR rfl rfl) ?_
  refine sp (OpV.eql rfl rfl) ?_
  refine hkz1 _ ?_ ?_
  exact rfl
  repeat (first | exact Sub.refl _ | refine Sub.skip rfl ?_)
 case Fz1 =>
  intro hcz1 hkz1
  refine sk ?_
  refine sk ?_
  refine sk ?_
  refine hkz1 _ ?_
  repeat (first | exact Sub.refl _ | refine Sub.skip rfl ?_)
 case az1 => exact rfl
 case bz1 => exact rfl
 case cz1 => exact rfl
 case dz1 => exact rfl
 refine sp (OpV.assign rfl) ?_
 refine WL.nil (En.next ?_)
 refine WC.cond rfl ?_ ?_
 ·
  intro hc_1
  replace h := ifO_t hc_1 h
  refine WC.seq (WC.region ?_)
  refine sp (OpV.assign rfl) ?_
  refine WL.nil (En.next (WC.ret (En.block_ret (En.then_ret ?_))))
  refine En.ret1 rfl (Res.tmp rfl) ?_
  obtain rfl := Option.some.inj h
  intro w' hs
  exact ⟨rfl, hs.below⟩
 ·
  intro hc_1
  replace h := ifO_f hc_1 h
  refine WC.seq (WC.region ?_)
  refine sp (OpV.move rfl) ?_
  refine sp (OpV.andR rfl rfl) ?_
  refine sp (OpV.eql rfl rfl) ?_
  refine sp (OpV.assign rfl) ?_
  refine WL.nil (En.next ?_)
  refine WC.cond rfl ?_ ?_
  ·
   intro hc_2
   replace h := ifO_t hc_2 h
   refine WC.seq (WC.region ?_)
   refine sp (OpV.assign rfl) ?_
   refine WL.nil (En.next (WC.ret (En.block_ret (En.then_ret ?_))))
   refine En.ret1 rfl (Res.tmp rfl) ?_
   obtain rfl := Option.some.inj h
   intro w' hs
   exact ⟨rfl, hs.below⟩
  ·
   intro hc_2
   replace h := ifO_f hc_2 h
   refine WC.seq (WC.region ?_)
   refine sp (OpV.move rfl) ?_
   refine sp (OpV.andR rfl rfl) ?_
   refine sp (OpV.eql rfl rfl) ?_
   refine sp (OpV.assign rfl) ?_
   refine WL.nil (En.next ?_)
   refine WC.cond rfl ?_ ?_
   ·
    intro hc_3
    replace h := ifO_t hc_3 h
    refine WC.seq (WC.region ?_)
    refine sp (OpV.assign rfl) ?_
    refine WL.nil (En.next (WC.ret (En.block_ret (En.then_ret ?_))))
    refine En.ret1 rfl (Res.tmp rfl) ?_
    obtain rfl := Option.some.inj h
    intro w' hs
    exact ⟨rfl, hs.below⟩
   ·
    intro hc_3
    replace h := ifO_f hc_3 h
    refine WC.skip (En.block_norm (En.next (WC.seq (WC.region ?_))))
    refine sp (OpV.assign rfl) ?_
    refine WL.nil (En.next (WC.ret ?_))
    refine En.ret1 rfl (Res.tmp rfl) ?_
    obtain rfl := Option.some.inj h
    intro w' hs
    exact ⟨rfl, hs.below⟩

theorem w_spec_DitherLevel {v_p0 : Int} {x_p1 : Int} {y_p2 : Int} {r : Int}  (h : spec_DitherLevel v_p0 x_p1 y_p2 = some r) {w : World}    :
    Calls Try.prog 114 #[.int .i64 v_p0, .int .i64 x_p1, .int .i64 y_p2] w (fun en w' => en = .returned (.int .i64 r) ∧ Ext w w') := by
 unfold spec_DitherLevel at h
 refine enter (vs := [_, _, _]) Try.func114 rfl rfl rfl rfl ?_
 refine WC.seq (WC.region ?_)
 refine sp (OpV.assign rfl) ?_
 refine WL.nil (En.next (WC.seq (WC.seq ?_)))
 obtain ⟨x1_1, e1_1, h⟩ := bnd h
 refine WC.region ?_
 refine sp (OpV.move rfl) ?_
 refine sp (OpV.call (evs.cons rfl (evs.cons rfl (evs.cons rfl (evs.nil)))) ca_88 (fun w hs => w_spec_l01In e1_1)) ?_
 refine sp (OpV.not rfl) ?_
 refine WL.nil (En.next ?_)
 refine WC.cond rfl ?_ ?_
 ·
  intro hc_1
  replace h := ifO_t hc_1 h
  refine WC.seq (WC.region ?_)
  refine sp (OpV.assign rfl) ?_
  refine WL.nil (En.next (WC.ret (En.then_ret ?_)))
  refine En.ret1 rfl (Res.tmp rfl) ?_
  obtain rfl := Option.some.inj h
  intro w' hs
  exact ⟨rfl, hs.below⟩
 ·
  intro hc_1
  replace h := ifO_f hc_1 h
  refine WC.skip (En.next (WC.seq ?_))
  obtain ⟨x3_4, e3_4, h⟩ := bnd h
  refine WC.region ?_
  refine sp (OpV.move rfl) ?_
  refine sp (OpV.mulR rfl rfl) ?_
  refine sp (OpV.move rfl) ?_
  refine sp (OpV.move rfl) ?_
  refine sp (OpV.call (evs.cons rfl (evs.cons rfl (evs.nil))) ca_161 (fun w hs => w_spec_Threshold e3_4)) ?_
  refine sp (OpV.mulR rfl rfl) ?_
  refine sp (OpV.addR rfl rfl) ?_
  refine sp (OpV.quoR rfl rfl rfl) ?_
  refine sp (OpV.assign rfl) ?_
  refine WL.nil (En.next (WC.ret ?_))
  refine En.ret1 rfl (Res.tmp rfl) ?_
  obtain rfl := Option.some.inj h
  intro w' hs
  exact ⟨rfl, hs.below⟩

theorem w_spec_DitherPixel {p_p0 : Int} {x_p1 : Int} {y_p2 : Int} {r : Int}  (h : spec_DitherPixel p_p0 x_p1 y_p2 = some r) {w : World}    :
    Calls Try.prog 56 #[.int .i64 p_p0, .int .i64 x_p1, .int .i64 y_p2] w (fun en w' => en = .returned (.int .i64 r) ∧ Ext w w') := by
 unfold spec_DitherPixel at h
 refine enter (vs := [_, _, _]) Try.func56 rfl rfl rfl rfl ?_
 refine WC.seq (WC.region ?_)
 refine sp (OpV.assign rfl) ?_
 refine WL.nil (En.next (WC.seq (WC.seq ?_)))
 obtain ⟨x1_1, e1_1, h⟩ := bnd h
 refine WC.region ?_
 refine sp (OpV.move rfl) ?_
 refine sp (OpV.call (evs.cons rfl (evs.nil)) ca_89 (fun w hs => w_spec_l04Pixel e1_1)) ?_
 refine sp (OpV.not rfl) ?_
 refine WL.nil (En.next ?_)
 refine WC.cond rfl ?_ ?_
 ·
  intro hc_1
  replace h := ifO_t hc_1 h
  refine WC.seq (WC.region ?_)
  refine sp (OpV.assign rfl) ?_
  refine WL.nil (En.next (WC.ret (En.then_ret ?_)))
  refine En.ret1 rfl (Res.tmp rfl) ?_
  obtain rfl := Option.some.inj h
  intro w' hs
  exact ⟨rfl, hs.below⟩
 ·
  intro hc_1
  replace h := ifO_f hc_1 h
  refine WC.skip (En.next (WC.seq ?_))
  obtain ⟨x3_1, e3_1, h⟩ := bnd h
  obtain ⟨x3_4, e3_4, h⟩ := bnd h
  obtain ⟨x3_7, e3_7, h⟩ := bnd h
  obtain ⟨x3_10, e3_10, h⟩ := bnd h
  obtain ⟨x3_14, e3_14, h⟩ := bnd h
  obtain ⟨x3_17, e3_17, h⟩ := bnd h
  refine WC.region ?_
  refine sp (OpV.move rfl) ?_
  refine sp (OpV.call (evs.cons rfl (evs.cons rfl (evs.nil))) ca_115 (fun w hs => w_spec_ChannelOf e3_1)) ?_
  refine sp (OpV.move rfl) ?_
  refine sp (OpV.move rfl) ?_
  refine sp (OpV.call (evs.cons rfl (evs.cons rfl (evs.cons rfl (evs.nil)))) ca_114 (fun w hs => w_spec_DitherLevel e3_4)) ?_
  refine sp (OpV.shlR rfl rfl rfl) ?_
  refine sp (OpV.move rfl) ?_
  refine sp (OpV.call (evs.cons rfl (evs.cons rfl (evs.nil))) ca_115 (fun w hs => w_spec_ChannelOf e3_7)) ?_
  refine sp (OpV.move rfl) ?_
  refine sp (OpV.move rfl) ?_
  refine sp (OpV.call (evs.cons rfl (evs.cons rfl (evs.cons rfl (evs.nil)))) ca_114 (fun w hs => w_spec_DitherLevel e3_10)) ?_
  refine sp (OpV.shlR rfl rfl rfl) ?_
  refine sp (OpV.addR rfl rfl) ?_
  refine sp (OpV.move rfl) ?_
  refine sp (OpV.call (evs.cons rfl (evs.cons rfl (evs.nil))) ca_115 (fun w hs => w_spec_ChannelOf e3_14)) ?_
  refine sp (OpV.move rfl) ?_
  refine sp (OpV.move rfl) ?_
  refine sp (OpV.call (evs.cons rfl (evs.cons rfl (evs.cons rfl (evs.nil)))) ca_114 (fun w hs => w_spec_DitherLevel e3_17)) ?_
  refine sp (OpV.addR rfl rfl) ?_
  refine sp (OpV.assign rfl) ?_
  refine WL.nil (En.next (WC.ret ?_))
  refine En.ret1 rfl (Res.tmp rfl) ?_
  obtain rfl := Option.some.inj h
  intro w' hs
  exact ⟨rfl, hs.below⟩

theorem w_impl_ScanPixel {list_p0 : List PlaneT} {w_p1 : Int} {h_p2 : Int} {x_p3 : Int} {y_p4 : Int} {r : Int} {q0_0 : Option Addr} {l0_0 k0_0 : Nat} (h : impl_ScanPixel list_p0 w_p1 h_p2 x_p3 y_p4 = some r) {w : World} (r0_0 : Rd tPlane w q0_0 l0_0 k0_0 list_p0)   :
    Calls Try.prog 57 #[.slice q0_0 l0_0 k0_0, .int .i64 w_p1, .int .i64 h_p2, .int .i64 x_p3, .int .i64 y_p4] w (fun en w' => en = .returned (.int .i64 r) ∧ Ext w w') := by
 obtain rfl := r0_0.1
 unfold impl_ScanPixel at h
 refine enter (vs := [_, _, _, _, _]) Try.func57 rfl rfl rfl rfl ?_
 refine WC.seq (WC.region ?_)
 refine sp (OpV.assign rfl) ?_
 refine WL.nil (En.next (WC.seq (WC.seq ?_)))
 obtain ⟨x1_3, e1_3, h⟩ := bnd h
 obtain ⟨q1_11, e1_11, h⟩ := bnd h
 obtain ⟨q1_18, e1_18, h⟩ := bnd h
 refine WC.region ?_
 refine sp (OpV.move rfl) ?_
 refine sp (OpV.move rfl) ?_
 refine sp (OpV.move rfl) ?_
 refine sp (OpV.call (evs.cons rfl (evs.cons rfl (evs.cons rfl (evs.nil)))) ca_37 (fun w hs => w_impl_PlanesOk e1_3 (r0_0.ext hs.below))) ?_
 refine sp (OpV.not rfl) ?_
 refine sp (OpV.move rfl) ?_
 refine Lt.ofWL.orQ 16 22 21 (p := ?pz1) (rest := ?qz1) (B := q1_11) rfl (fun hz => orO_t e1_11 hz) ?Tz1 ?Fz1 ?az1 ?bz1 ?cz1 ?dz1 ?ez1
 case Tz1 =>
  intro hcz1 hkz1
  refine sk ?_
  refine sk ?_
  refine sk ?_
  refine sk ?_
  refine sk ?_
  refine hkz1 _ ?_
  repeat (first | exact Sub.refl _ | refine Sub.skip rfl ?_)
 case Fz1 =>
  intro hcz1 hkz1
  have hqz1 := orO_f e1_11 hcz1
  obtain ⟨x1_9, e1_9, hqz1⟩ := bnd hqz1
  obtain rfl := Option.some.inj hqz1
  refine sp (OpV.move rfl) ?_
  refine sp (OpV.move rfl) ?_
  refine sp (OpV.subR rfl rfl) ?_
  refine sp (OpV.call (evs.cons rfl (evs.cons rfl (evs.cons rfl (evs.nil)))) ca_91 (fun w hs => w_impl_within e1_9)) ?_
  refine sp (OpV.not rfl) ?_
  refine hkz1 _ ?_ ?_
  exact rfl
  repeat (first | exact Sub.refl _ | refine Sub.skip rfl ?_)
 case az1 => exact rfl
 case bz1 => exact rfl
 case cz1 => exact rfl
 case dz1 => exact rfl
 refine sp (OpV.move rfl) ?_
 refine Lt.ofWL.orQ 23 29 28 (p := ?pz2) (rest := ?qz2) (B := q1_18) rfl (fun hz => orO_t e1_18 hz) ?Tz2 ?Fz2 ?az2 ?bz2 ?cz2 ?dz2 ?ez2
 case Tz2 =>
  intro hcz2 hkz2
  refine sk ?_
  refine sk ?_
  refine sk ?_
  refine sk ?_
  refine sk ?_
  refine hkz2 _ ?_
  repeat (first | exact Sub.refl _ | refine Sub.skip rfl ?_)
 case Fz2 =>
  intro hcz2 hkz2
  have hqz2 := orO_f e1_18 hcz2
  obtain ⟨x1_16, e1_16, hqz2⟩ := bnd hqz2
  obtain rfl := Option.some.inj hqz2
  refine sp (OpV.move rfl) ?_
  refine sp (OpV.move rfl) ?_
  refine sp (OpV.subR rfl rfl) ?_
  refine sp (OpV.call (evs.cons rfl (evs.cons rfl (evs.cons rfl (evs.nil)))) ca_91 (fun w hs => w_impl_within e1_16)) ?_
  refine sp (OpV.not rfl) ?_
  refine hkz2 _ ?_ ?_
  exact rfl
  repeat (first | exact Sub.refl _ | refine Sub.skip rfl ?_)
 case az2 => exact rfl
 case bz2 => exact rfl
 case cz2 => exact rfl
 case dz2 => exact rfl
 refine WL.nil (En.next ?_)
 refine WC.cond rfl ?_ ?_
 ·
  intro hc_1
  replace h := ifO_t hc_1 h
  refine WC.seq (WC.region ?_)
  refine sp (OpV.assign rfl) ?_
  refine WL.nil (En.next (WC.ret (En.then_ret ?_)))
  refine En.ret1 rfl (Res.tmp rfl) ?_
  obtain rfl := Option.some.inj h
  intro w' hs
  exact ⟨rfl, hs.below⟩
 ·
  intro hc_1
  replace h := ifO_f hc_1 h
  refine WC.skip (En.next (WC.seq ?_))
  obtain ⟨x3_1, e3_1, h⟩ := bnd h
  obtain ⟨x3_8, e3_8, h⟩ := bnd h
  refine WC.region ?_
  refine sp (OpV.move rfl) ?_
  refine WL.heavy rfl rfl rfl (OpH.callR (evs.cons rfl (evs.nil)) ca_90 (fun w hs => w_impl_scanned e3_1 (r0_0.ext hs.below)) ?_)
  rintro _ _ ⟨a3_100, n3_100, c3_100, f3_100, rfl, rfl⟩
  refine sp (OpV.field1 rfl ft_36_2 pt_32 rfl) ?_
  refine sp (OpV.move rfl) ?_
  refine sp (OpV.move rfl) ?_
  refine sp (OpV.mulR rfl rfl) ?_
  refine sp (OpV.move rfl) ?_
  refine sp (OpV.addR rfl rfl) ?_
  refine WL.inh fun hin3_8 => ?_
  obtain ⟨g3_8, ha3_8⟩ := ownAddr hin3_8 (.head _) e3_8
  have hn3_8 := ownLen hin3_8 (.head _)
  refine sp (OpV.idxA rfl rfl se_32 ha3_8 ⟨(idx_some e3_8).1, by rw [hn3_8]; exact (idx_some e3_8).2.1⟩) ?_
  refine sp (OpV.load1 rfl pt_3 (fun w hs => Rd.cell1 tInt_flat (Ow.rd (hs.mem (.head _))) e3_8 ha3_8 rfl)) ?_
  refine sp (OpV.assign rfl) ?_
  refine WL.nil (En.next (WC.ret ?_))
  refine En.ret1 rfl (Res.tmp rfl) ?_
  obtain rfl := Option.some.inj h
  intro w' hs
  exact ⟨rfl, hs.below⟩

theorem w_laws_FnScanned {a_p0 : List Int} {r : Bool} {q0_0 : Option Addr} {l0_0 k0_0 : Nat} (h : laws_FnScanned a_p0 = some r) {w : World} (r0_0 : Rd tU8 w q0_0 l0_0 k0_0 a_p0)   :
    Calls Try.prog 10 #[.slice q0_0 l0_0 k0_0] w (fun en w' => en = .returned (.bool r) ∧ Ext w w') := by
 obtain rfl := r0_0.1
 unfold laws_FnScanned at h
 refine enter (vs := [_]) Try.func10 rfl rfl rfl rfl ?_
 refine WC.seq (WC.region ?_)
 refine sp (OpV.assign rfl) ?_
 refine WL.nil (En.next (WC.seq (WC.seq ?_)))
 obtain ⟨x1_1, e1_1, h⟩ := bnd h
 refine WC.region ?_
 refine sp (OpV.move rfl) ?_
 refine sp (OpV.call (evs.cons rfl (evs.nil)) ca_15 (fun w hs => w_laws_big e1_1 (r0_0.ext hs.below))) ?_
 refine WL.nil (En.next ?_)
 refine WC.cond rfl ?_ ?_
 ·
  intro hc_1
  replace h := ifO_t hc_1 h
  refine WC.seq (WC.region ?_)
  refine sp (OpV.assign rfl) ?_
  refine WL.nil (En.next (WC.ret (En.then_ret ?_)))
  refine En.ret1 rfl (Res.tmp rfl) ?_
  obtain rfl := Option.some.inj h
  intro w' hs
  exact ⟨rfl, hs.below⟩
 ·
  intro hc_1
  replace h := ifO_f hc_1 h
  refine WC.skip (En.next (WC.seq ?_))
  obtain ⟨⟨x3_1a, x3_1b, x3_1c⟩, e3_1, h⟩ := bnd h
  refine WC.region ?_
  refine sp (OpV.move rfl) ?_
  refine WL.heavy rfl rfl rfl (OpH.callR (evs.cons rfl (evs.nil)) ca_33 (fun w hs => w_spec_DrawPlanes e3_1 (r0_0.ext hs.below)) ?_)
  rintro _ _ ⟨a3_100, n3_100, c3_100, f3_100, rfl, rfl⟩
  refine sp (OpV.move rfl) ?_
  refine sp (OpV.extract rfl rfl) ?_
  refine sp (OpV.extract rfl rfl) ?_
  refine sp (OpV.extract rfl rfl) ?_
  refine sp (OpV.assign rfl) ?_
  refine sp (OpV.assign rfl) ?_
  refine sp (OpV.assign rfl) ?_
  refine WL.nil (En.next (WC.seq ?_))
  obtain ⟨x4_3, e4_3, h⟩ := bnd h
  refine WC.region ?_
  refine sp (OpV.move rfl) ?_
  refine sp (OpV.move rfl) ?_
  refine sp (OpV.move rfl) ?_
  refine WL.heavy rfl rfl rfl (OpH.callR (evs.cons rfl (evs.cons rfl (evs.cons rfl (evs.nil)))) ca_36 (fun w hs => w_impl_ScanOut e4_3 (Ow.rd (hs.mem (.head _)))) ?_)
  rintro _ _ ⟨a4_300, n4_300, c4_300, f4_300, rfl, rfl⟩
  refine WL.heavy rfl rfl rfl (OpH.alloc zc_36 ?_)
  intro b4_4
  refine WL.heavy0 rfl rfl (OpH.storeTo (A := []) [_, _, _] rfl rfl rfl ts_36 rfl rfl rfl ?_)
  refine WL.nil (En.next (WC.seq ?_))
  obtain ⟨x5_1, e5_1, h⟩ := bnd h
  obtain ⟨x5_3, e5_3, h⟩ := bnd h
  refine WC.region ?_
  refine sp (OpV.move rfl) ?_
  refine sp (OpV.call (evs.cons rfl (evs.cons rfl (evs.nil))) ca_17 (fun w hs => w_laws_at e5_1 (r0_0.ext hs.below))) ?_
  refine sp (OpV.move rfl) ?_
  refine sp (OpV.remR rfl rfl e5_3) ?_
  refine sp (OpV.assign rfl) ?_
  refine WL.nil (En.next (WC.seq ?_))
  obtain ⟨x6_1, e6_1, h⟩ := bnd h
  obtain ⟨x6_3, e6_3, h⟩ := bnd h
  refine WC.region ?_
  refine sp (OpV.move rfl) ?_
  refine sp (OpV.call (evs.cons rfl (evs.cons rfl (evs.nil))) ca_17 (fun w hs => w_laws_at e6_1 (r0_0.ext hs.below))) ?_
  refine sp (OpV.move rfl) ?_
  refine sp (OpV.remR rfl rfl e6_3) ?_
  refine sp (OpV.assign rfl) ?_
  refine WL.nil (En.next (WC.seq ?_))
  obtain ⟨x7_4, e7_4, h⟩ := bnd h
  refine WC.region ?_
  refine sp (OpV.move rfl) ?_
  refine sp (OpV.move rfl) ?_
  refine sp (OpV.move rfl) ?_
  refine sp (OpV.move rfl) ?_
  refine WL.heavy rfl rfl rfl (OpH.callR (evs.cons rfl (evs.cons rfl (evs.cons rfl (evs.cons rfl (evs.nil))))) ca_53 (fun w hs => w_impl_ScanLine e7_4 (Ow.rd (hs.mem (.tail _ (.tail _ (.head _)))))) ?_)
  rintro _ _ ⟨a7_400, n7_400, c7_400, f7_400, rfl, rfl⟩
  refine sp (OpV.assign rfl) ?_
  refine WL.nil (En.next (WC.seq ?_))
  obtain ⟨x8_3, e8_3, h⟩ := bnd h
  obtain ⟨x8_5, e8_5, h⟩ := bnd h
  refine WC.region ?_
  refine sp (OpV.move rfl) ?_
  refine sp (OpV.move rfl) ?_
  refine sp (OpV.move rfl) ?_
  refine WL.heavy rfl rfl rfl (OpH.callR (evs.nil) ca_55 (fun w hs => w_impl_IdentityColor e8_3) ?_)
  rintro _ _ ⟨a8_300, n8_300, c8_300, f8_300, a8_301, n8_301, c8_301, f8_301, rfl, rfl⟩
  refine sp (OpV.move rfl) ?_
  refine WL.heavy rfl rfl rfl (OpH.callR (evs.cons rfl (evs.cons rfl (evs.cons rfl (evs.cons rfl (evs.cons rfl (evs.nil)))))) ca_54 (fun w hs => w_impl_ScanDots e8_5 (Ow.rd (hs.mem (.tail _ (.tail _ (.tail _ (.tail _ (.tail _ (.head _)))))))) (Ow.rd (hs.mem (.head _))) (Ow.rd (hs.mem (.tail _ (.head _))))) ?_)
  rintro _ _ ⟨a8_500, n8_500, c8_500, f8_500, rfl, rfl⟩
  refine sp (OpV.assign rfl) ?_
  refine WL.nil (En.next (WC.seq (WC.seq (WC.region ?_))))
  refine sp (OpV.fieldAddr rfl fo_36_0) ?_
  refine sp (OpV.loadBox rfl pt_3 (.tail _ (.tail _ (.tail _ (.tail _ (.head _))))) rfl) ?_
  refine sp (OpV.move rfl) ?_
  refine sp (OpV.neq rfl rfl) ?_
  refine sp (OpV.move rfl) ?_
  refine Lt.ofWL.or 47 52 51 (p := ?pz1) (rest := ?qz1) (B := ?Bz1) rfl ?Tz1 ?Fz1 ?az1 ?bz1 ?cz1 ?dz1 ?ez1
  case Tz1 =>
   intro hcz1 hkz1
   refine sk ?_
   refine sk ?_
   refine sk ?_
   refine sk ?_
   refine hkz1 _ ?_
   repeat (first | exact Sub.refl _ | refine Sub.skip rfl ?_)
  case Fz1 =>
   intro hcz1 hkz1
   refine sp (OpV.fieldAddr rfl fo_36_1) ?_
   refine sp (OpV.loadBox rfl pt_3 (.tail _ (.tail _ (.tail _ (.tail _ (.head _))))) rfl) ?_
   refine sp (OpV.move rfl) ?_
   refine sp (OpV.neq rfl rfl) ?_
   refine hkz1 _ ?_ ?_
   exact rfl
   repeat (first | exact Sub.refl _ | refine Sub.skip rfl ?_)
  case az1 => exact rfl
  case bz1 => exact rfl
  case cz1 => exact rfl
  case dz1 => exact rfl
  refine sp (OpV.move rfl) ?_
  refine Lt.ofWL.or 53 61 60 (p := ?pz2) (rest := ?qz2) (B := ?Bz2) rfl ?Tz2 ?Fz2 ?az2 ?bz2 ?cz2 ?dz2 ?ez2
  case Tz2 =>
   intro hcz2 hkz2
   refine sk ?_
   refine sk ?_
   refine sk ?_
   refine sk ?_
   refine sk ?_
   refine sk ?_
   refine sk ?_
   refine hkz2 _ ?_
   repeat (first | exact Sub.refl _ | refine Sub.skip rfl ?_)
  case Fz2 =>
   intro hcz2 hkz2
   refine sp (OpV.fieldAddr rfl fo_36_2) ?_
   refine sp (OpV.loadBox rfl pt_32 (.tail _ (.tail _ (.tail _ (.tail _ (.head _))))) rfl) ?_
   refine sp (OpV.inhF fun hin => OpV.lenO (xs := x4_3.Data) rfl si_32 rfl (ownLen hin (.tail _ (.tail _ (.tail _ (.tail _ (.tail _ (.head _)))))))) ?_
   refine sp (OpV.move rfl) ?_
   refine sp (OpV.move rfl) ?_
   refine sp (OpV.mulR rfl rfl) ?_
   refine sp (OpV.neq rfl rfl) ?_
   refine hkz2 _ ?_ ?_
   exact rfl
   repeat (first | exact Sub.refl _ | refine Sub.skip rfl ?_)
  case az2 => exact rfl
  case bz2 => exact rfl
  case cz2 => exact rfl
  case dz2 => exact rfl
  refine sp (OpV.move rfl) ?_
  refine Lt.ofWL.or 62 67 66 (p := ?pz3) (rest := ?qz3) (B := ?Bz3) rfl ?Tz3 ?Fz3 ?az3 ?bz3 ?cz3 ?dz3 ?ez3
  case Tz3 =>
   intro hcz3 hkz3
   refine sk ?_
   refine sk ?_
   refine sk ?_
   refine sk ?_
   refine hkz3 _ ?_
   repeat (first | exact Sub.refl _ | refine Sub.skip rfl ?_)
  case Fz3 =>
   intro hcz3 hkz3
   refine sp (OpV.move rfl) ?_
   refine sp (OpV.inhF fun hin => OpV.lenO (xs := x7_4) rfl si_32 rfl (ownLen hin (.tail _ (.tail _ (.tail _ (.head _)))))) ?_
   refine sp (OpV.move rfl) ?_
   refine sp (OpV.neq rfl rfl) ?_
   refine hkz3 _ ?_ ?_
   exact rfl
   repeat (first | exact Sub.refl _ | refine Sub.skip rfl ?_)
  case az3 => exact rfl
  case bz3 => exact rfl
  case cz3 => exact rfl
  case dz3 => exact rfl
  refine sp (OpV.move rfl) ?_
  refine Lt.ofWL.or 68 73 72 (p := ?pz4) (rest := ?qz4) (B := ?Bz4) rfl ?Tz4 ?Fz4 ?az4 ?bz4 ?cz4 ?dz4 ?ez4
  case Tz4 =>
   intro hcz4 hkz4
   refine sk ?_
   refine sk ?_
   refine sk ?_
   refine sk ?_
   refine hkz4 _ ?_
   repeat (first | exact Sub.refl _ | refine Sub.skip rfl ?_)
  case Fz4 =>
   intro hcz4 hkz4
   refine sp (OpV.move rfl) ?_
   refine sp (OpV.inhF fun hin => OpV.lenO (xs := x8_5) rfl si_32 rfl (ownLen hin (.head _))) ?_
   refine sp (OpV.move rfl) ?_
   refine sp (OpV.neq rfl rfl) ?_
   refine hkz4 _ ?_ ?_
   exact rfl
   repeat (first | exact Sub.refl _ | refine Sub.skip rfl ?_)
  case az4 => exact rfl
  case bz4 => exact rfl
  case cz4 => exact rfl
  case dz4 => exact rfl
  refine WL.nil (En.next ?_)
  refine WC.cond rfl ?_ ?_
  ·
   intro hc_2
   replace h := ifO_t hc_2 h
   refine WC.seq (WC.region ?_)
   refine sp (OpV.assign rfl) ?_
   refine WL.nil (En.next (WC.ret (En.then_ret ?_)))
   refine En.ret1 rfl (Res.tmp rfl) ?_
   obtain rfl := Option.some.inj h
   intro w' hs
   exact ⟨rfl, hs.below⟩
  ·
   intro hc_2
   replace h := ifO_f hc_2 h
   refine WC.skip (En.next (WC.seq (WC.seq (WC.region ?_))))
   refine sp (OpV.assign rfl) ?_
   refine WL.nil (En.next (WC.block ?_))
   obtain ⟨zy0, ezy0, h⟩ := bnd h
   refine WC.cut (X := (Unit) × (Unit)) (.exit 0) (fun x => zy0 = .inl x.1) (fun x => match x with | ((), ()) => [(3, .slice a3_100 n3_100 c3_100), (4, .int .i64 x3_1b), (5, .int .i64 x3_1c), (7, .int .i64 x5_3), (8, .int .i64 x6_3), (9, .slice a7_400 n7_400 c7_400)]) (fun x => match x with | ((), ()) => [Chunk.own tPlane f3_100 a3_100 n3_100 c3_100 x3_1a, Chunk.own tInt f7_400 a7_400 n7_400 c7_400 x7_4]) ?_ ?_
   ·
    rintro ⟨⟨⟩, ⟨⟩⟩ hx
    replace hx : .inl () = zy0 := hx.symm
    subst hx
    replace h := fork_l h
    show En _ _ _ _ [(3, .slice a3_100 n3_100 c3_100), (4, .int .i64 x3_1b), (5, .int .i64 x3_1c), (7, .int .i64 x5_3), (8, .int .i64 x6_3), (9, .slice a7_400 n7_400 c7_400)] [Chunk.own tPlane f3_100 a3_100 n3_100 c3_100 x3_1a, Chunk.own tInt f7_400 a7_400 n7_400 c7_400 x7_4]
    refine En.block_exit (En.next (WC.seq ?_))
    refine WC.inh fun hin16 => ?_
    obtain ⟨x16_5, e16_5, h⟩ := bnd h
    obtain ⟨x16_8, e16_8, h⟩ := bnd h
    obtain ⟨g16_8, ha16_8⟩ := ownAddr hin16 (.tail _ (.head _)) e16_8
    have hn16_8 := ownLen hin16 (.tail _ (.head _))
    obtain ⟨q16_16, e16_16, h⟩ := bnd h
    refine WC.drawn [(2, ?r16v2)] (by kernel_rfl) (by kernel_rfl) ?dH16 ?dK16
    case dH16 =>
     intro W hW hk
     refine hW.step rfl rfl rfl (OpV.move rfl) ?_
     refine hW.step rfl rfl rfl (OpV.move rfl) ?_
     refine hW.step rfl rfl rfl (OpV.move rfl) ?_
     refine hW.step rfl rfl rfl (OpV.move rfl) ?_
     refine hW.step rfl rfl rfl (OpV.move rfl) ?_
     refine hW.step rfl rfl rfl (OpV.call (evs.cons rfl (evs.cons rfl (evs.cons rfl (evs.cons rfl (evs.cons rfl (evs.nil)))))) ca_57 (fun w hs => w_impl_ScanPixel e16_5 (Ow.rd (hs.mem (.head _))))) ?_
     refine hW.step rfl rfl rfl (OpV.move rfl) ?_
     refine hW.step rfl rfl rfl (OpV.move rfl) ?_
     refine hW.step rfl rfl rfl (OpV.idxA rfl rfl se_32 ha16_8 ⟨(idx_some e16_8).1, by rw [hn16_8]; exact (idx_some e16_8).2.1⟩) ?_
     refine hW.step rfl rfl rfl (OpV.load1 rfl pt_3 (fun w hs => Rd.cell1 tInt_flat (Ow.rd (hs.mem (.tail _ (.head _)))) e16_8 ha16_8 rfl)) ?_
     refine hW.step rfl rfl rfl (OpV.eql rfl rfl) ?_
     refine hW.step rfl rfl rfl (OpV.move rfl) ?_
     refine hW.andQ 118 123 122 (p := ?pz5) (rest := ?qz5) (B := q16_16) rfl (fun hz => andO_f e16_16 hz) ?Tz5 ?Fz5 ?az5 ?bz5 ?cz5 ?dz5 ?ez5
     case Tz5 =>
      intro hcz5 hkz5
      have hqz5 := andO_t e16_16 hcz5
      obtain ⟨x16_15, e16_15, hqz5⟩ := bnd hqz5
      obtain rfl := Option.some.inj hqz5
      refine hW.step rfl rfl rfl (OpV.move rfl) ?_
      refine hW.step rfl rfl rfl (OpV.move rfl) ?_
      refine hW.step rfl rfl rfl (OpV.move rfl) ?_
      refine hW.step rfl rfl rfl (OpV.call (evs.cons rfl (evs.cons rfl (evs.cons rfl (evs.nil)))) ca_37 (fun w hs => w_impl_PlanesOk e16_15 (Ow.rd (hs.mem (.head _))))) ?_
      refine hkz5 _ ?_ ?_
      exact rfl
      repeat (first | exact Sub.refl _ | refine Sub.skip rfl ?_)
     case Fz5 =>
      intro hcz5 hkz5
      refine hW.skip rfl rfl rfl ?_
      refine hW.skip rfl rfl rfl ?_
      refine hW.skip rfl rfl rfl ?_
      refine hW.skip rfl rfl rfl ?_
      refine hkz5 _ ?_
      repeat (first | exact Sub.refl _ | refine Sub.skip rfl ?_)
     case az5 => exact rfl
     case bz5 => exact rfl
     case cz5 => exact rfl
     case dz5 => exact rfl
     refine hW.step rfl rfl rfl (OpV.assign rfl) ?_
     refine hk _ ?_
     refine Sub.cons ?_ (Sub.nil _)
     all_goals exact rfl
    refine En.next (WC.ret ?_)
    refine En.ret1 rfl (Res.tmp rfl) ?_
    obtain rfl := Option.some.inj h
    intro w' hs
    exact ⟨rfl, hs.below⟩
   ·
    intro zK0_0
    refine WC.loopP (G := Unit) (fun s g => match s, g with | v_0, () => [(3, .slice a3_100 n3_100 c3_100), (4, .int .i64 x3_1b), (5, .int .i64 x3_1c), (6, .pointer (some ⟨b4_4, 0, .none⟩)), (7, .int .i64 x5_3), (8, .int .i64 x6_3), (9, .slice a7_400 n7_400 c7_400), (10, .slice a8_500 n8_500 c8_500), (11, .int .i64 v_0)]) (fun s g => match s, g with | v_0, () => [Chunk.own tPlane f3_100 a3_100 n3_100 c3_100 x3_1a, Chunk.box b4_4 36 [.int .i64 x4_3.W, .int .i64 x4_3.H, .slice a4_300 n4_300 c4_300], Chunk.own tInt f4_300 a4_300 n4_300 c4_300 x4_3.Data, Chunk.own tInt f7_400 a7_400 n7_400 c7_400 x7_4, Chunk.own tInt f8_500 a8_500 n8_500 c8_500 x8_5]) 0 () ezy0 (by exact Sub.cons rfl (Sub.cons rfl (Sub.cons rfl (Sub.cons rfl (Sub.cons rfl (Sub.cons rfl (Sub.cons rfl (Sub.cons rfl (Sub.cons rfl (Sub.nil _)))))))))) (by exact (fun _ h => (((((h).perm (List.perm_middle (l₁ := [_, _, _]))).perm (List.perm_middle (l₁ := [_, _, _, _, _]))).perm (List.perm_middle (l₁ := [_, _, _, _, _]))).perm (List.perm_middle (l₁ := [_, _, _, _, _, _]))).sub (.cons_cons _ (.cons_cons _ (.cons_cons _ (.cons_cons _ (.cons_cons _ (.cons _ (.cons _ (.slnil)))))))))) ?_
    rintro zm0 v_0 ⟨⟩ zo0 zf0 zb0 ze0
    have zh0 : laws_FnScanned_L0 x3_1b x4_3 x5_3 x7_4 x8_5 v_0 = some zo0 := zf0
    unfold laws_FnScanned_L0 at zh0
    show WC _ _ _ _ _ [(3, .slice a3_100 n3_100 c3_100), (4, .int .i64 x3_1b), (5, .int .i64 x3_1c), (6, .pointer (some ⟨b4_4, 0, .none⟩)), (7, .int .i64 x5_3), (8, .int .i64 x6_3), (9, .slice a7_400 n7_400 c7_400), (10, .slice a8_500 n8_500 c8_500), (11, .int .i64 v_0)] [Chunk.own tPlane f3_100 a3_100 n3_100 c3_100 x3_1a, Chunk.box b4_4 36 [.int .i64 x4_3.W, .int .i64 x4_3.H, .slice a4_300 n4_300 c4_300], Chunk.own tInt f4_300 a4_300 n4_300 c4_300 x4_3.Data, Chunk.own tInt f7_400 a7_400 n7_400 c7_400 x7_4, Chunk.own tInt f8_500 a8_500 n8_500 c8_500 x8_5]
    refine WC.seq (WC.seq (WC.region ?_))
    refine sp (OpV.move rfl) ?_
    refine sp (OpV.move rfl) ?_
    refine sp (OpV.lss rfl rfl) ?_
    refine WL.nil (En.next ?_)
    refine WC.cond rfl ?_ ?_
    ·
     intro hc_3
     replace zh0 := ifO_t hc_3 zh0
     refine WC.skip (En.next (WC.seq (WC.block (WC.seq ?_))))
     refine WC.inh fun hin14 => ?_
     obtain ⟨x14_2, e14_2, zh0⟩ := bnd zh0
     obtain ⟨g14_2, ha14_2⟩ := ownAddr hin14 (.tail _ (.tail _ (.tail _ (.head _)))) e14_2
     have hn14_2 := ownLen hin14 (.tail _ (.tail _ (.tail _ (.head _))))
     obtain ⟨x14_11, e14_11, zh0⟩ := bnd zh0
     obtain ⟨g14_11, ha14_11⟩ := ownAddr hin14 (.tail _ (.tail _ (.head _))) e14_11
     have hn14_11 := ownLen hin14 (.tail _ (.tail _ (.head _)))
     obtain ⟨q14_27, e14_27, zh0⟩ := bnd zh0
     refine WC.drawn [(3, ?r14v3), (4, ?r14v4), (5, ?r14v5), (6, ?r14v6), (7, ?r14v7), (8, ?r14v8), (9, ?r14v9), (10, ?r14v10), (11, ?r14v11), (106, ?r14v106)] (by kernel_rfl) (by kernel_rfl) ?dH14 ?dK14
     case dH14 =>
      intro W hW hk
      refine hW.step rfl rfl rfl (OpV.move rfl) ?_
      refine hW.step rfl rfl rfl (OpV.move rfl) ?_
      refine hW.step rfl rfl rfl (OpV.idxA rfl rfl se_32 ha14_2 ⟨(idx_some e14_2).1, by rw [hn14_2]; exact (idx_some e14_2).2.1⟩) ?_
      refine hW.step rfl rfl rfl (OpV.load1 rfl pt_3 (fun w hs => Rd.cell1 tInt_flat (Ow.rd (hs.mem (.tail _ (.tail _ (.tail _ (.head _)))))) e14_2 ha14_2 rfl)) ?_
      refine hW.step rfl rfl rfl (OpV.fieldAddr rfl fo_36_2) ?_
      refine hW.step rfl rfl rfl (OpV.loadBox rfl pt_32 (.tail _ (.head _)) rfl) ?_
      refine hW.step rfl rfl rfl (OpV.move rfl) ?_
      refine hW.step rfl rfl rfl (OpV.move rfl) ?_
      refine hW.step rfl rfl rfl (OpV.mulR rfl rfl) ?_
      refine hW.step rfl rfl rfl (OpV.move rfl) ?_
      refine hW.step rfl rfl rfl (OpV.addR rfl rfl) ?_
      refine hW.step rfl rfl rfl (OpV.idxA rfl rfl se_32 ha14_11 ⟨(idx_some e14_11).1, by rw [hn14_11]; exact (idx_some e14_11).2.1⟩) ?_
      refine hW.step rfl rfl rfl (OpV.load1 rfl pt_3 (fun w hs => Rd.cell1 tInt_flat (Ow.rd (hs.mem (.tail _ (.tail _ (.head _))))) e14_11 ha14_11 rfl)) ?_
      refine hW.step rfl rfl rfl (OpV.neq rfl rfl) ?_
      refine hW.step rfl rfl rfl (OpV.move rfl) ?_
      refine hW.orQ 93 106 105 (p := ?pz6) (rest := ?qz6) (B := q14_27) rfl (fun hz => orO_t e14_27 hz) ?Tz6 ?Fz6 ?az6 ?bz6 ?cz6 ?dz6 ?ez6
      case Tz6 =>
       intro hcz6 hkz6
       refine hW.skip rfl rfl rfl ?_
       refine hW.skip rfl rfl rfl ?_
       refine hW.skip rfl rfl rfl ?_
       refine hW.skip rfl rfl rfl ?_
       refine hW.skip rfl rfl rfl ?_
       refine hW.skip rfl rfl rfl ?_
       refine hW.skip rfl rfl rfl ?_
       refine hW.skip rfl rfl rfl ?_
       refine hW.skip rfl rfl rfl ?_
       refine hW.skip rfl rfl rfl ?_
       refine hW.skip rfl rfl rfl ?_
       refine hW.skip rfl rfl rfl ?_
       refine hkz6 _ ?_
       repeat (first | exact Sub.refl _ | refine Sub.skip rfl ?_)
      case Fz6 =>
       intro hcz6 hkz6
       have hqz6 := orO_f e14_27 hcz6
       obtain ⟨x14_17, e14_17, hqz6⟩ := bnd hqz6
       obtain ⟨g14_17, ha14_17⟩ := ownAddr hin14 (.tail _ (.tail _ (.tail _ (.tail _ (.head _))))) e14_17
       have hn14_17 := ownLen hin14 (.tail _ (.tail _ (.tail _ (.tail _ (.head _)))))
       obtain ⟨x14_21, e14_21, hqz6⟩ := bnd hqz6
       obtain ⟨g14_21, ha14_21⟩ := ownAddr hin14 (.tail _ (.tail _ (.tail _ (.head _)))) e14_21
       have hn14_21 := ownLen hin14 (.tail _ (.tail _ (.tail _ (.head _))))
       obtain ⟨x14_25, e14_25, hqz6⟩ := bnd hqz6
       obtain rfl := Option.some.inj hqz6
       refine hW.step rfl rfl rfl (OpV.move rfl) ?_
       refine hW.step rfl rfl rfl (OpV.move rfl) ?_
       refine hW.step rfl rfl rfl (OpV.idxA rfl rfl se_32 ha14_17 ⟨(idx_some e14_17).1, by rw [hn14_17]; exact (idx_some e14_17).2.1⟩) ?_
       refine hW.step rfl rfl rfl (OpV.load1 rfl pt_3 (fun w hs => Rd.cell1 tInt_flat (Ow.rd (hs.mem (.tail _ (.tail _ (.tail _ (.tail _ (.head _))))))) e14_17 ha14_17 rfl)) ?_
       refine hW.step rfl rfl rfl (OpV.move rfl) ?_
       refine hW.step rfl rfl rfl (OpV.move rfl) ?_
       refine hW.step rfl rfl rfl (OpV.idxA rfl rfl se_32 ha14_21 ⟨(idx_some e14_21).1, by rw [hn14_21]; exact (idx_some e14_21).2.1⟩) ?_
       refine hW.step rfl rfl rfl (OpV.load1 rfl pt_3 (fun w hs => Rd.cell1 tInt_flat (Ow.rd (hs.mem (.tail _ (.tail _ (.tail _ (.head _)))))) e14_21 ha14_21 rfl)) ?_
       refine hW.step rfl rfl rfl (OpV.move rfl) ?_
       refine hW.step rfl rfl rfl (OpV.move rfl) ?_
       refine hW.step rfl rfl rfl (OpV.call (evs.cons rfl (evs.cons rfl (evs.cons rfl (evs.nil)))) ca_56 (fun w hs => w_spec_DitherPixel e14_25)) ?_
       refine hW.step rfl rfl rfl (OpV.neq rfl rfl) ?_
       refine hkz6 _ ?_ ?_
       exact rfl
       repeat (first | exact Sub.refl _ | refine Sub.skip rfl ?_)
      case az6 => exact rfl
      case bz6 => exact rfl
      case cz6 => exact rfl
      case dz6 => exact rfl
      refine hk _ ?_
      refine Sub.cons ?_ (Sub.cons ?_ (Sub.cons ?_ (Sub.cons ?_ (Sub.cons ?_ (Sub.cons ?_ (Sub.cons ?_ (Sub.cons ?_ (Sub.cons ?_ (Sub.cons ?_ (Sub.nil _))))))))))
      all_goals exact rfl
     refine En.next ?_
     refine WC.cond rfl ?_ ?_
     ·
      intro hc_4
      replace zh0 := ifO_t hc_4 zh0
      refine WC.seq (WC.region ?_)
      refine sp (OpV.assign rfl) ?_
      refine WL.nil (En.next (WC.ret (En.block_ret (En.then_ret (En.then_ret (En.block_ret (En.then_ret ?_)))))))
      refine En.ret1 rfl (Res.tmp rfl) ?_
      have hx := exitP ze0 zh0
      subst hx
      replace h := fork_r h
      obtain rfl := Option.some.inj h
      intro w' hs
      exact ⟨rfl, hs.below⟩
     ·
      intro hc_4
      replace zh0 := ifO_f hc_4 zh0
      refine WC.skip (En.block_norm (En.next (WC.region ?_)))
      refine sp (OpV.move rfl) ?_
      refine sp (OpV.addR rfl rfl) ?_
      refine sp (OpV.assign rfl) ?_
      refine WL.nil ?_
      exact En.backP zb0 zh0 () (Sub.cons rfl (Sub.cons rfl (Sub.cons rfl (Sub.cons rfl (Sub.cons rfl (Sub.cons rfl (Sub.cons rfl (Sub.cons rfl (Sub.cons rfl (Sub.nil _)))))))))) (fun _ h => h)
    ·
     intro hc_3
     replace zh0 := ifO_f hc_3 zh0
     refine WC.exit (En.then_exit (En.then_exit ?_))
     have hx := exitP ze0 zh0
     exact En.wk _ _ (Sub.cons rfl (Sub.cons rfl (Sub.cons rfl (Sub.cons rfl (Sub.cons rfl (Sub.cons rfl (Sub.nil _))))))) (fun _ h => (((h).perm (List.perm_middle (l₁ := [_, _, _]))).perm (List.perm_middle (l₁ := [_]))).sub (.cons_cons _ (.cons_cons _ (.cons _ (.cons _ (.cons _ (.slnil))))))) (zK0_0 ((), ()) hx.symm)

end Go.Proofs.Ytkojfdgljmhmlaa
