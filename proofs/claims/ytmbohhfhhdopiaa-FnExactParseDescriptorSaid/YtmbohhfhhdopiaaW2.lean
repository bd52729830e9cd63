/- Walks: the program computes the pure functions. -/
import Derived.Test.YtmbohhfhhdopiaaW1
namespace Go.Proofs.Ytmbohhfhhdopiaa
open Go.RowKit K
set_option maxRecDepth 100000
set_option maxHeartbeats 4000000

theorem w_impl_Pace_next {p_p0 : PaceT} {ready_p1 : Bool} {busy_p2 : Bool} {r : Bool × PaceT} {b0 : Nat} {q0_0 : Option Addr} {l0_0 k0_0 : Nat} {f0_0 : List Nat} (h : impl_Pace_next p_p0 ready_p1 busy_p2 = some r) {w0 w : World} {C : List Chunk} (hs0 : St w0 (Chunk.own tInt f0_0 q0_0 l0_0 k0_0 p_p0.Frames :: Chunk.box b0 36 [.int .i64 p_p0.Mode.Clock, .int .i64 p_p0.Mode.W, .int .i64 p_p0.Mode.HFront, .int .i64 p_p0.Mode.HSync, .int .i64 p_p0.Mode.HBack, .int .i64 p_p0.Mode.H, .int .i64 p_p0.Mode.VFront, .int .i64 p_p0.Mode.VSync, .int .i64 p_p0.Mode.VBack, .int .i64 p_p0.Stretch, .int .i64 p_p0.Lines, .slice q0_0 l0_0 k0_0] :: C) w)  :
    Calls Try.prog 49 #[.pointer (some ⟨b0, 0, .none⟩), .bool ready_p1, .bool busy_p2] w (fun en w' => ∃ rv G, en = .returned rv ∧ (∃ (p00a : Option Addr) (p00n : Nat) (p00c : Nat) (p00f : List Nat), rv = .bool r.1 ∧ G = Chunk.own tInt p00f p00a p00n p00c r.2.Frames :: Chunk.box b0 36 [.int .i64 r.2.Mode.Clock, .int .i64 r.2.Mode.W, .int .i64 r.2.Mode.HFront, .int .i64 r.2.Mode.HSync, .int .i64 r.2.Mode.HBack, .int .i64 r.2.Mode.H, .int .i64 r.2.Mode.VFront, .int .i64 r.2.Mode.VSync, .int .i64 r.2.Mode.VBack, .int .i64 r.2.Stretch, .int .i64 r.2.Lines, .slice p00a p00n p00c] :: C) ∧ St w0 G w') := by
 unfold impl_Pace_next at h
 refine enterF hs0 (vs := [_, _, _]) Try.func49 rfl rfl rfl rfl ?_
 refine WC.seq (WC.region ?_)
 refine sp (OpV.assign rfl) ?_
 refine WL.nil (En.next (WC.seq (WC.region ?_)))
 refine sp (OpV.move rfl) ?_
 refine sp (OpV.nilCheck rfl) ?_
 refine sp (OpV.fieldAddr rfl fo_36_2) ?_
 refine sp (OpV.loadBox rfl pt_3 (.tail _ (.head _)) rfl) ?_
 refine sp (OpV.addR rfl rfl) ?_
 refine sp (OpV.nilCheck rfl) ?_
 refine sp (OpV.fieldAddr rfl fo_36_2) ?_
 refine WL.heavy0 rfl rfl (OpH.storeTo (A := [_]) [_, _, _, _, _, _, _, _, _, _, _, _] rfl rfl rfl ts_3 rfl rfl rfl ?_)
 refine WL.nil (En.next (WC.seq (WC.seq ?_)))
 obtain ⟨x2_7, e2_7, h⟩ := bnd h
 obtain ⟨q2_31, e2_31, h⟩ := bnd h
 refine WC.drawn [(0, ?r2v0), (45, ?r2v45)] (by kernel_rfl) (by kernel_rfl) ?dH2 ?dK2
 case dH2 =>
  intro W hW hk
  refine hW.step rfl rfl rfl (OpV.move rfl) ?_
  refine hW.step rfl rfl rfl (OpV.nilCheck rfl) ?_
  refine hW.step rfl rfl rfl (OpV.fieldAddr rfl fo_36_2) ?_
  refine hW.step rfl rfl rfl (OpV.loadBox rfl pt_3 (.tail _ (.head _)) rfl) ?_
  refine hW.step rfl rfl rfl (OpV.move rfl) ?_
  refine hW.step rfl rfl rfl (OpV.nilCheck rfl) ?_
  refine hW.step rfl rfl rfl (OpV.loadAll rfl (.tail _ (.head _)) ag_36) ?_
  refine hW.step rfl rfl rfl (OpV.call (evs.cons rfl (evs.nil)) ca_47 (fun w hs => w_impl_shortFrame e2_7 (Ow.rd (hs.mem (.head _))))) ?_
  refine hW.step rfl rfl rfl (OpV.move rfl) ?_
  refine hW.step rfl rfl rfl (OpV.nilCheck rfl) ?_
  refine hW.step rfl rfl rfl (OpV.fieldAddr rfl fo_36_1) ?_
  refine hW.step rfl rfl rfl (OpV.loadBox rfl pt_3 (.tail _ (.head _)) rfl) ?_
  refine hW.step rfl rfl rfl (OpV.addR rfl rfl) ?_
  refine hW.step rfl rfl rfl (OpV.lss rfl rfl) ?_
  refine hW.step rfl rfl rfl (OpV.move rfl) ?_
  refine hW.andQ 28 45 44 (p := ?pz1) (rest := ?qz1) (B := q2_31) rfl (fun hz => andO_f e2_31 hz) ?Tz1 ?Fz1 ?az1 ?bz1 ?cz1 ?dz1 ?ez1
  case Tz1 =>
   intro hcz1 hkz1
   have hqz1 := andO_t e2_31 hcz1
   obtain ⟨x2_22, e2_22, hqz1⟩ := bnd hqz1
   obtain rfl := Option.some.inj hqz1
   refine hW.step rfl rfl rfl (OpV.move rfl) ?_
   refine hW.step rfl rfl rfl (OpV.nilCheck rfl) ?_
   refine hW.step rfl rfl rfl (OpV.fieldAddr rfl fo_36_2) ?_
   refine hW.step rfl rfl rfl (OpV.loadBox rfl pt_3 (.tail _ (.head _)) rfl) ?_
   refine hW.step rfl rfl rfl (OpV.move rfl) ?_
   refine hW.step rfl rfl rfl (OpV.nilCheck rfl) ?_
   refine hW.step rfl rfl rfl (OpV.loadAll rfl (.tail _ (.head _)) ag_36) ?_
   refine hW.step rfl rfl rfl (OpV.call (evs.cons rfl (evs.nil)) ca_47 (fun w hs => w_impl_shortFrame e2_22 (Ow.rd (hs.mem (.head _))))) ?_
   refine hW.step rfl rfl rfl (OpV.lss rfl rfl) ?_
   refine hW.step rfl rfl rfl (OpV.move rfl) ?_
   refine hW.or 38 44 43 (p := ?pz2) (rest := ?qz2) (B := ?Bz2) rfl ?Tz2 ?Fz2 ?az2 ?bz2 ?cz2 ?dz2 ?ez2
   case Tz2 =>
    intro hcz2 hkz2
    refine hW.skip rfl rfl rfl ?_
    refine hW.skip rfl rfl rfl ?_
    refine hW.skip rfl rfl rfl ?_
    refine hW.skip rfl rfl rfl ?_
    refine hW.skip rfl rfl rfl ?_
    refine hkz2 _ ?_
    repeat (first | exact Sub.refl _ | refine Sub.skip rfl ?_)
   case Fz2 =>
    intro hcz2 hkz2
    refine hW.step rfl rfl rfl (OpV.move rfl) ?_
    refine hW.step rfl rfl rfl (OpV.not rfl) ?_
    refine hW.step rfl rfl rfl (OpV.move rfl) ?_
    refine hW.and 41 43 42 (p := ?pz3) (rest := ?qz3) (B := ?Bz3) rfl ?Tz3 ?Fz3 ?az3 ?bz3 ?cz3 ?dz3 ?ez3
    case Tz3 =>
     intro hcz3 hkz3
     refine hW.step rfl rfl rfl (OpV.move rfl) ?_
     refine hkz3 _ ?_ ?_
     exact rfl
     repeat (first | exact Sub.refl _ | refine Sub.skip rfl ?_)
    case Fz3 =>
     intro hcz3 hkz3
     refine hW.skip rfl rfl rfl ?_
     refine hkz3 _ ?_
     repeat (first | exact Sub.refl _ | refine Sub.skip rfl ?_)
    case az3 => exact rfl
    case bz3 => exact rfl
    case cz3 => exact rfl
    case dz3 => exact rfl
    refine hkz2 _ ?_ ?_
    exact rfl
    repeat (first | exact Sub.refl _ | refine Sub.skip rfl ?_)
   case az2 => exact rfl
   case bz2 => exact rfl
   case cz2 => exact rfl
   case dz2 => exact rfl
   refine hkz1 _ ?_ ?_
   exact rfl
   repeat (first | exact Sub.refl _ | refine Sub.skip rfl ?_)
  case Fz1 =>
   intro hcz1 hkz1
   refine hW.skip rfl rfl rfl ?_
   refine hW.skip rfl rfl rfl ?_
   refine hW.skip rfl rfl rfl ?_
   refine hW.skip rfl rfl rfl ?_
   refine hW.skip rfl rfl rfl ?_
   refine hW.skip rfl rfl rfl ?_
   refine hW.skip rfl rfl rfl ?_
   refine hW.skip rfl rfl rfl ?_
   refine hW.skip rfl rfl rfl ?_
   refine hW.skip rfl rfl rfl ?_
   refine hW.skip rfl rfl rfl ?_
   refine hW.skip rfl rfl rfl ?_
   refine hW.skip rfl rfl rfl ?_
   refine hW.skip rfl rfl rfl ?_
   refine hW.skip rfl rfl rfl ?_
   refine hW.skip rfl rfl rfl ?_
   refine hkz1 _ ?_
   repeat (first | exact Sub.refl _ | refine Sub.skip rfl ?_)
  case az1 => exact rfl
  case bz1 => exact rfl
  case cz1 => exact rfl
  case dz1 => exact rfl
  refine hk _ ?_
  refine Sub.cons ?_ (Sub.cons ?_ (Sub.nil _))
  all_goals exact rfl
 refine En.next ?_
 refine WC.cond rfl ?_ ?_
 ·
  intro hc_1
  replace h := ifO_t hc_1 h
  refine WC.seq (WC.region ?_)
  refine sp (OpV.assign rfl) ?_
  refine WL.nil (En.next (WC.ret (En.then_ret ?_)))
  refine En.ret1 rfl (Res.tmp rfl) ?_
  obtain rfl := Option.some.inj h
  intro w' hs
  have hs := hs
  exact ⟨_, _, rfl, ⟨q0_0, l0_0, k0_0, f0_0, rfl, rfl⟩, hs⟩
 ·
  intro hc_1
  replace h := ifO_f hc_1 h
  refine WC.skip (En.next (WC.seq ?_))
  obtain ⟨x4_10, e4_10, h⟩ := bnd h
  refine WC.drawnH [_, _] (C) (fun _ h => h) (by kernel_rfl) ?_
  refine WAE.take (i := 0) rfl (by kernel_rfl) (by kernel_rfl) (by kernel_rfl) rfl rfl rfl (OpV.move rfl) ?_
  refine WAE.take (i := 1) rfl (by kernel_rfl) (by kernel_rfl) (by kernel_rfl) rfl rfl rfl (OpV.move rfl) ?_
  refine WAE.take (i := 2) rfl (by kernel_rfl) (by kernel_rfl) (by kernel_rfl) rfl rfl rfl (OpV.nilCheck rfl) ?_
  refine WAE.take (i := 3) rfl (by kernel_rfl) (by kernel_rfl) (by kernel_rfl) rfl rfl rfl (OpV.fieldAddr rfl fo_36_3) ?_
  refine WAE.take (i := 5) rfl (by kernel_rfl) (by kernel_rfl) (by kernel_rfl) rfl rfl rfl (OpV.move rfl) ?_
  refine WAE.take (i := 6) rfl (by kernel_rfl) (by kernel_rfl) (by kernel_rfl) rfl rfl rfl (OpV.nilCheck rfl) ?_
  refine WAE.take (i := 7) rfl (by kernel_rfl) (by kernel_rfl) (by kernel_rfl) rfl rfl rfl (OpV.fieldAddr rfl fo_36_2) ?_
  refine WAE.all (rs := [4, 8]) (by kernel_rfl) rfl (AllR.cons rfl rfl rfl rfl ?_ (AllR.cons rfl rfl rfl rfl ?_ AllR.nil))
  ·
   refine OpH.light (OpV.loadBox rfl pt_34 (.tail _ (.head _)) rfl) ?_
   refine ⟨[_, _], rfl, ?_⟩
   refine WAE.all (rs := [8]) (by kernel_rfl) rfl (AllR.cons rfl rfl rfl rfl ?_ AllR.nil)
   refine OpH.light (OpV.loadBox rfl pt_3 (.tail _ (.head _)) rfl) ?_
   refine ⟨[_, _], rfl, ?_⟩
   refine WAE.all (rs := [9]) (by kernel_rfl) rfl (AllR.cons rfl rfl rfl rfl ?_ AllR.nil)
   refine OpH.litF (A := tInt) (xs := [(wr (p_p0.Lines + 1))]) tInt_flat (evps.cons rfl (evps.nil)) (bs_34_1_0 _) rfl rfl (Nat.le_of_ble_eq_true rfl) ?_
   intro b4_9
   refine ⟨[_, _, _], rfl, ?_⟩
   refine WAE.all (rs := [10]) (by kernel_rfl) rfl (AllR.cons rfl rfl rfl rfl ?_ AllR.nil)
   refine OpH.appS (F := [_]) (A := tInt) tInt_flat rfl rfl rfl mi_34 rfl (by decide) (fun w hs => (Ow.rd (hs.mem (.head _)))) e4_10 ?_
   intro f4_10 a4_10 c4_10
   refine ⟨[_, _, _], rfl, ?_⟩
   refine WAE.take (i := 11) rfl (by kernel_rfl) (by kernel_rfl) (by kernel_rfl) rfl rfl rfl (OpV.nilCheck rfl) ?_
   refine WAE.take (i := 12) rfl (by kernel_rfl) (by kernel_rfl) (by kernel_rfl) rfl rfl rfl (OpV.fieldAddr rfl fo_36_3) ?_
   refine WAE.all (rs := [13]) (by kernel_rfl) rfl (AllR.cons0 rfl rfl rfl ?_ AllR.nil)
   refine OpH.storeTo (A := [_, _]) [_, _, _, _, _, _, _, _, _, _, _, _] rfl rfl rfl ts_34 rfl rfl rfl ?_
   refine ⟨[_, _, _], rfl, ?_⟩
   refine WAE.rebase (H := []) ?_
   refine WAE.done (by kernel_rfl) ?_ _
   refine En.next (WC.seq (WC.region ?_))
   refine sp (OpV.move rfl) ?_
   refine sp (OpV.nilCheck rfl) ?_
   refine sp (OpV.fieldAddr rfl fo_36_2) ?_
   refine WL.heavy0 rfl rfl (OpH.storeTo (A := [_, _]) [_, _, _, _, _, _, _, _, _, _, _, _] rfl rfl rfl ts_3 rfl rfl rfl ?_)
   refine WL.nil (En.next (WC.seq (WC.region ?_)))
   refine sp (OpV.assign rfl) ?_
   refine WL.nil (En.next (WC.ret ?_))
   refine En.ret1 rfl (Res.tmp rfl) ?_
   obtain rfl := Option.some.inj h
   intro w' hs
   have hs := (((hs).perm (List.perm_middle (l₁ := [_, _]))).perm (List.perm_middle (l₁ := [_, _]))).sub (.cons_cons _ (.cons_cons _ (.cons _ (List.Sublist.refl _))))
   exact ⟨_, _, rfl, ⟨a4_10, x4_10.length, c4_10, f4_10, rfl, rfl⟩, hs⟩
  ·
   refine OpH.light (OpV.loadBox rfl pt_3 (.tail _ (.head _)) rfl) ?_
   refine ⟨[_, _], rfl, ?_⟩
   refine WAE.all (rs := [4, 9]) (by kernel_rfl) rfl (AllR.cons rfl rfl rfl rfl ?_ (AllR.cons rfl rfl rfl rfl ?_ AllR.nil))
   ·
    refine OpH.light (OpV.loadBox rfl pt_34 (.tail _ (.head _)) rfl) ?_
    refine ⟨[_, _], rfl, ?_⟩
    refine WAE.all (rs := [9]) (by kernel_rfl) rfl (AllR.cons rfl rfl rfl rfl ?_ AllR.nil)
    refine OpH.litF (A := tInt) (xs := [(wr (p_p0.Lines + 1))]) tInt_flat (evps.cons rfl (evps.nil)) (bs_34_1_0 _) rfl rfl (Nat.le_of_ble_eq_true rfl) ?_
    intro b4_9
    refine ⟨[_, _, _], rfl, ?_⟩
    refine WAE.all (rs := [10]) (by kernel_rfl) rfl (AllR.cons rfl rfl rfl rfl ?_ AllR.nil)
    refine OpH.appS (F := [_]) (A := tInt) tInt_flat rfl rfl rfl mi_34 rfl (by decide) (fun w hs => (Ow.rd (hs.mem (.head _)))) e4_10 ?_
    intro f4_10 a4_10 c4_10
    refine ⟨[_, _, _], rfl, ?_⟩
    refine WAE.take (i := 11) rfl (by kernel_rfl) (by kernel_rfl) (by kernel_rfl) rfl rfl rfl (OpV.nilCheck rfl) ?_
    refine WAE.take (i := 12) rfl (by kernel_rfl) (by kernel_rfl) (by kernel_rfl) rfl rfl rfl (OpV.fieldAddr rfl fo_36_3) ?_
    refine WAE.all (rs := [13]) (by kernel_rfl) rfl (AllR.cons0 rfl rfl rfl ?_ AllR.nil)
    refine OpH.storeTo (A := [_, _]) [_, _, _, _, _, _, _, _, _, _, _, _] rfl rfl rfl ts_34 rfl rfl rfl ?_
    refine ⟨[_, _, _], rfl, ?_⟩
    refine WAE.rebase (H := []) ?_
    refine WAE.done (by kernel_rfl) ?_ _
    refine En.next (WC.seq (WC.region ?_))
    refine sp (OpV.move rfl) ?_
    refine sp (OpV.nilCheck rfl) ?_
    refine sp (OpV.fieldAddr rfl fo_36_2) ?_
    refine WL.heavy0 rfl rfl (OpH.storeTo (A := [_, _]) [_, _, _, _, _, _, _, _, _, _, _, _] rfl rfl rfl ts_3 rfl rfl rfl ?_)
    refine WL.nil (En.next (WC.seq (WC.region ?_)))
    refine sp (OpV.assign rfl) ?_
    refine WL.nil (En.next (WC.ret ?_))
    refine En.ret1 rfl (Res.tmp rfl) ?_
    obtain rfl := Option.some.inj h
    intro w' hs
    have hs := (((hs).perm (List.perm_middle (l₁ := [_, _]))).perm (List.perm_middle (l₁ := [_, _]))).sub (.cons_cons _ (.cons_cons _ (.cons _ (List.Sublist.refl _))))
    exact ⟨_, _, rfl, ⟨a4_10, x4_10.length, c4_10, f4_10, rfl, rfl⟩, hs⟩
   ·
    refine OpH.litF (A := tInt) (xs := [(wr (p_p0.Lines + 1))]) tInt_flat (evps.cons rfl (evps.nil)) (bs_34_1_0 _) rfl rfl (Nat.le_of_ble_eq_true rfl) ?_
    intro b4_9
    refine ⟨[_, _, _], rfl, ?_⟩
    refine WAE.all (rs := [4]) (by kernel_rfl) rfl (AllR.cons rfl rfl rfl rfl ?_ AllR.nil)
    refine OpH.light (OpV.loadBox rfl pt_34 (.tail _ (.tail _ (.head _))) rfl) ?_
    refine ⟨[_, _, _], rfl, ?_⟩
    refine WAE.all (rs := [10]) (by kernel_rfl) rfl (AllR.cons rfl rfl rfl rfl ?_ AllR.nil)
    refine OpH.appS (F := [_]) (A := tInt) tInt_flat rfl rfl rfl mi_34 rfl (by decide) (fun w hs => (Ow.rd (hs.mem (.head _)))) e4_10 ?_
    intro f4_10 a4_10 c4_10
    refine ⟨[_, _, _], rfl, ?_⟩
    refine WAE.take (i := 11) rfl (by kernel_rfl) (by kernel_rfl) (by kernel_rfl) rfl rfl rfl (OpV.nilCheck rfl) ?_
    refine WAE.take (i := 12) rfl (by kernel_rfl) (by kernel_rfl) (by kernel_rfl) rfl rfl rfl (OpV.fieldAddr rfl fo_36_3) ?_
    refine WAE.all (rs := [13]) (by kernel_rfl) rfl (AllR.cons0 rfl rfl rfl ?_ AllR.nil)
    refine OpH.storeTo (A := [_, _]) [_, _, _, _, _, _, _, _, _, _, _, _] rfl rfl rfl ts_34 rfl rfl rfl ?_
    refine ⟨[_, _, _], rfl, ?_⟩
    refine WAE.rebase (H := []) ?_
    refine WAE.done (by kernel_rfl) ?_ _
    refine En.next (WC.seq (WC.region ?_))
    refine sp (OpV.move rfl) ?_
    refine sp (OpV.nilCheck rfl) ?_
    refine sp (OpV.fieldAddr rfl fo_36_2) ?_
    refine WL.heavy0 rfl rfl (OpH.storeTo (A := [_, _]) [_, _, _, _, _, _, _, _, _, _, _, _] rfl rfl rfl ts_3 rfl rfl rfl ?_)
    refine WL.nil (En.next (WC.seq (WC.region ?_)))
    refine sp (OpV.assign rfl) ?_
    refine WL.nil (En.next (WC.ret ?_))
    refine En.ret1 rfl (Res.tmp rfl) ?_
    obtain rfl := Option.some.inj h
    intro w' hs
    have hs := (((hs).perm (List.perm_middle (l₁ := [_, _]))).perm (List.perm_middle (l₁ := [_, _]))).sub (.cons_cons _ (.cons_cons _ (.cons _ (List.Sublist.refl _))))
    exact ⟨_, _, rfl, ⟨a4_10, x4_10.length, c4_10, f4_10, rfl, rfl⟩, hs⟩

theorem w_impl_RunPace {p_p0 : PaceT} {ready_p1 : List Bool} {busy_p2 : List Bool} {r : PaceT × Int} {q0_0 : Option Addr} {l0_0 k0_0 : Nat} {q1_0 : Option Addr} {l1_0 k1_0 : Nat} {q2_0 : Option Addr} {l2_0 k2_0 : Nat} (h : impl_RunPace p_p0 ready_p1 busy_p2 = some r) {w : World} (r0_0 : Rd tInt w q0_0 l0_0 k0_0 p_p0.Frames) (r1_0 : Rd tBool w q1_0 l1_0 k1_0 ready_p1) (r2_0 : Rd tBool w q2_0 l2_0 k2_0 busy_p2)   :
    Calls Try.prog 20 #[.agg #[.int .i64 p_p0.Mode.Clock, .int .i64 p_p0.Mode.W, .int .i64 p_p0.Mode.HFront, .int .i64 p_p0.Mode.HSync, .int .i64 p_p0.Mode.HBack, .int .i64 p_p0.Mode.H, .int .i64 p_p0.Mode.VFront, .int .i64 p_p0.Mode.VSync, .int .i64 p_p0.Mode.VBack, .int .i64 p_p0.Stretch, .int .i64 p_p0.Lines, .slice q0_0 l0_0 k0_0], .slice q1_0 l1_0 k1_0, .slice q2_0 l2_0 k2_0] w (fun en w' => ∃ rv G, en = .returned rv ∧ (∃ (a0_0 : Option Addr) (n0_0 : Nat) (c0_0 : Nat) (f0_0 : List Nat), rv = .tuple #[.agg #[.int .i64 r.1.Mode.Clock, .int .i64 r.1.Mode.W, .int .i64 r.1.Mode.HFront, .int .i64 r.1.Mode.HSync, .int .i64 r.1.Mode.HBack, .int .i64 r.1.Mode.H, .int .i64 r.1.Mode.VFront, .int .i64 r.1.Mode.VSync, .int .i64 r.1.Mode.VBack, .int .i64 r.1.Stretch, .int .i64 r.1.Lines, .slice a0_0 n0_0 c0_0], .int .i64 r.2] ∧ G = [Chunk.own tInt f0_0 a0_0 n0_0 c0_0 r.1.Frames]) ∧ St w G w') := by
 obtain rfl := r0_0.1
 obtain rfl := r1_0.1
 obtain rfl := r2_0.1
 unfold impl_RunPace at h
 refine enter (vs := [_, _, _]) Try.func20 rfl rfl rfl rfl ?_
 refine WC.seq (WC.region ?_)
 refine WL.heavy rfl rfl rfl (OpH.box rfl rfl ?_)
 intro b0_0
 refine WL.heavy rfl rfl rfl (OpH.alloc zc_36 ?_)
 intro b0_1
 refine sp (OpV.assign rfl) ?_
 refine WL.nil (En.next (WC.seq ?_))
 obtain ⟨x1_1, e1_1, h⟩ := bnd h
 refine WC.region ?_
 refine sp (OpV.loadAll rfl (.tail _ (.head _)) ag_36) ?_
 refine WL.heavy rfl rfl rfl (OpH.callR (evs.cons rfl (evs.nil)) ca_48 (fun w hs => w_impl_copyPace e1_1 (r0_0.ext hs.below)) ?_)
 rintro _ _ ⟨a1_100, n1_100, c1_100, f1_100, rfl, rfl⟩
 refine WL.heavy rfl rfl rfl (OpH.alloc zc_36 ?_)
 intro b1_2
 refine WL.heavy0 rfl rfl (OpH.storeTo (A := []) [_, _, _, _, _, _, _, _, _, _, _, _] rfl rfl rfl ts_36 rfl rfl rfl ?_)
 refine WL.nil (En.next (WC.seq (WC.region ?_)))
 refine sp (OpV.assign rfl) ?_
 refine WL.nil (En.next (WC.seq (WC.seq (WC.region ?_))))
 refine sp (OpV.move rfl) ?_
 refine sp (OpV.len rfl si_37 rfl) ?_
 refine sp (OpV.move rfl) ?_
 refine sp (OpV.len rfl si_37 rfl) ?_
 refine sp (OpV.min2 rfl rfl) ?_
 refine sp (OpV.move rfl) ?_
 refine WL.nil (En.next (WC.block ?_))
 obtain ⟨zy0, ezy0, h⟩ := bnd h
 refine WC.cut (X := (Int × Int × Int × Int × Int × Int × Int × Int × Int × Int × Int × (List Int) × Int) × ((Option Addr) × Nat × Nat × (List Nat))) (.exit 0) (fun x => zy0 = x.1) (fun x => match x with | ((out_0e, out1_0e, out2_0e, out3_0e, out4_0e, out5_0e, out6_0e, out7_0e, out8_0e, out9_0e, out10_0e, out11_0e, ended_0e), (aout_0e, nout_0e, cout_0e, fout_0e)) => [(6, .pointer (some ⟨b0_1, 0, .none⟩)), (8, .pointer (some ⟨b1_2, 0, .none⟩)), (9, .int .i64 ended_0e)]) (fun x => match x with | ((out_0e, out1_0e, out2_0e, out3_0e, out4_0e, out5_0e, out6_0e, out7_0e, out8_0e, out9_0e, out10_0e, out11_0e, ended_0e), (aout_0e, nout_0e, cout_0e, fout_0e)) => [Chunk.box b0_1 36 [.int .i64 0, .int .i64 0, .int .i64 0, .int .i64 0, .int .i64 0, .int .i64 0, .int .i64 0, .int .i64 0, .int .i64 0, .int .i64 0, .int .i64 0, .slice .none 0 0], Chunk.box b1_2 36 [.int .i64 out_0e, .int .i64 out1_0e, .int .i64 out2_0e, .int .i64 out3_0e, .int .i64 out4_0e, .int .i64 out5_0e, .int .i64 out6_0e, .int .i64 out7_0e, .int .i64 out8_0e, .int .i64 out9_0e, .int .i64 out10_0e, .slice aout_0e nout_0e cout_0e], Chunk.own tInt fout_0e aout_0e nout_0e cout_0e out11_0e]) ?_ ?_
 ·
  rintro ⟨⟨out_0e, out1_0e, out2_0e, out3_0e, out4_0e, out5_0e, out6_0e, out7_0e, out8_0e, out9_0e, out10_0e, out11_0e, ended_0e⟩, ⟨aout_0e, nout_0e, cout_0e, fout_0e⟩⟩ hx
  replace hx : (out_0e, out1_0e, out2_0e, out3_0e, out4_0e, out5_0e, out6_0e, out7_0e, out8_0e, out9_0e, out10_0e, out11_0e, ended_0e) = zy0 := hx.symm
  subst hx
  show En _ _ _ _ [(6, .pointer (some ⟨b0_1, 0, .none⟩)), (8, .pointer (some ⟨b1_2, 0, .none⟩)), (9, .int .i64 ended_0e)] [Chunk.box b0_1 36 [.int .i64 0, .int .i64 0, .int .i64 0, .int .i64 0, .int .i64 0, .int .i64 0, .int .i64 0, .int .i64 0, .int .i64 0, .int .i64 0, .int .i64 0, .slice .none 0 0], Chunk.box b1_2 36 [.int .i64 out_0e, .int .i64 out1_0e, .int .i64 out2_0e, .int .i64 out3_0e, .int .i64 out4_0e, .int .i64 out5_0e, .int .i64 out6_0e, .int .i64 out7_0e, .int .i64 out8_0e, .int .i64 out9_0e, .int .i64 out10_0e, .slice aout_0e nout_0e cout_0e], Chunk.own tInt fout_0e aout_0e nout_0e cout_0e out11_0e]
  refine En.block_exit (En.next (WC.seq (WC.region ?_)))
  refine sp (OpV.loadAll rfl (.tail _ (.head _)) ag_36) ?_
  refine sp (OpV.move rfl) ?_
  refine WL.heavy0 rfl rfl (OpH.storeTo (A := []) [_, _, _, _, _, _, _, _, _, _, _, _] rfl rfl rfl ts_36 rfl rfl rfl ?_)
  refine sp (OpV.assign rfl) ?_
  refine WL.nil (En.next (WC.ret ?_))
  refine En.ret2 rfl (Res.cell rfl (.head _) ag_36) (Res.tmp rfl) ?_
  obtain rfl := Option.some.inj h
  intro w' hs
  have hs := ((hs).perm (List.perm_middle (l₁ := [_, _]))).sub (.cons_cons _ (.cons _ (.cons _ (.slnil))))
  exact ⟨_, _, rfl, ⟨aout_0e, nout_0e, cout_0e, fout_0e, rfl, rfl⟩, hs⟩
 ·
  intro zK0_0
  refine WC.loopP (G := (Option Addr) × Nat × Nat × (List Nat)) (fun s g => match s, g with | (out_0, out1_0, out2_0, out3_0, out4_0, out5_0, out6_0, out7_0, out8_0, out9_0, out10_0, out11_0, ended_0, v_0), (aout_0, nout_0, cout_0, fout_0) => [(1, .slice q1_0 ready_p1.length k1_0), (2, .slice q2_0 busy_p2.length k2_0), (6, .pointer (some ⟨b0_1, 0, .none⟩)), (8, .pointer (some ⟨b1_2, 0, .none⟩)), (9, .int .i64 ended_0), (17, .int .i64 (min (ready_p1.length : Int) (busy_p2.length : Int))), (18, .int .i64 v_0)]) (fun s g => match s, g with | (out_0, out1_0, out2_0, out3_0, out4_0, out5_0, out6_0, out7_0, out8_0, out9_0, out10_0, out11_0, ended_0, v_0), (aout_0, nout_0, cout_0, fout_0) => [Chunk.box b0_1 36 [.int .i64 0, .int .i64 0, .int .i64 0, .int .i64 0, .int .i64 0, .int .i64 0, .int .i64 0, .int .i64 0, .int .i64 0, .int .i64 0, .int .i64 0, .slice .none 0 0], Chunk.box b1_2 36 [.int .i64 out_0, .int .i64 out1_0, .int .i64 out2_0, .int .i64 out3_0, .int .i64 out4_0, .int .i64 out5_0, .int .i64 out6_0, .int .i64 out7_0, .int .i64 out8_0, .int .i64 out9_0, .int .i64 out10_0, .slice aout_0 nout_0 cout_0], Chunk.own tInt fout_0 aout_0 nout_0 cout_0 out11_0]) (x1_1.Mode.Clock, x1_1.Mode.W, x1_1.Mode.HFront, x1_1.Mode.HSync, x1_1.Mode.HBack, x1_1.Mode.H, x1_1.Mode.VFront, x1_1.Mode.VSync, x1_1.Mode.VBack, x1_1.Stretch, x1_1.Lines, x1_1.Frames, 0, 0) (a1_100, n1_100, c1_100, f1_100) ezy0 (by exact Sub.cons rfl (Sub.cons rfl (Sub.cons rfl (Sub.cons rfl (Sub.cons rfl (Sub.cons rfl (Sub.cons rfl (Sub.nil _)))))))) (by exact (fun _ h => ((((h).perm (List.perm_middle (l₁ := [_]))).perm (List.perm_middle (l₁ := [_]))).perm (List.perm_middle (l₁ := [_, _]))).sub (.cons_cons _ (.cons_cons _ (.cons_cons _ (.cons _ (.slnil))))))) ?_
  rintro zm0 ⟨out_0, out1_0, out2_0, out3_0, out4_0, out5_0, out6_0, out7_0, out8_0, out9_0, out10_0, out11_0, ended_0, v_0⟩ ⟨aout_0, nout_0, cout_0, fout_0⟩ zo0 zf0 zb0 ze0
  have zh0 : impl_RunPace_L0 ready_p1 busy_p2 out_0 out1_0 out2_0 out3_0 out4_0 out5_0 out6_0 out7_0 out8_0 out9_0 out10_0 out11_0 ended_0 v_0 = some zo0 := zf0
  unfold impl_RunPace_L0 at zh0
  show WC _ _ _ _ _ [(1, .slice q1_0 ready_p1.length k1_0), (2, .slice q2_0 busy_p2.length k2_0), (6, .pointer (some ⟨b0_1, 0, .none⟩)), (8, .pointer (some ⟨b1_2, 0, .none⟩)), (9, .int .i64 ended_0), (17, .int .i64 (min (ready_p1.length : Int) (busy_p2.length : Int))), (18, .int .i64 v_0)] [Chunk.box b0_1 36 [.int .i64 0, .int .i64 0, .int .i64 0, .int .i64 0, .int .i64 0, .int .i64 0, .int .i64 0, .int .i64 0, .int .i64 0, .int .i64 0, .int .i64 0, .slice .none 0 0], Chunk.box b1_2 36 [.int .i64 out_0, .int .i64 out1_0, .int .i64 out2_0, .int .i64 out3_0, .int .i64 out4_0, .int .i64 out5_0, .int .i64 out6_0, .int .i64 out7_0, .int .i64 out8_0, .int .i64 out9_0, .int .i64 out10_0, .slice aout_0 nout_0 cout_0], Chunk.own tInt fout_0 aout_0 nout_0 cout_0 out11_0]
  refine WC.seq (WC.region ?_)
  refine sp (OpV.lss rfl rfl) ?_
  refine WL.nil (En.next (WC.seq ?_))
  refine WC.cond rfl ?_ ?_
  ·
   intro hc_1
   replace zh0 := ifO_t hc_1 zh0
   refine WC.skip (En.next (WC.seq (WC.block (WC.seq (WC.region ?_)))))
   refine sp (OpV.move rfl) ?_
   refine sp (OpV.assign rfl) ?_
   refine WL.nil (En.next (WC.seq (WC.seq ?_)))
   obtain ⟨x6_1, e6_1, zh0⟩ := bnd zh0
   refine WC.region ?_
   refine sp (OpV.loadAll rfl (.tail _ (.head _)) ag_36) ?_
   refine sp (OpV.call (evs.cons rfl (evs.nil)) ca_24 (fun w hs => w_impl_PaceOk e6_1 (Ow.rd (hs.mem (.tail _ (.tail _ (.head _))))))) ?_
   refine sp (OpV.not rfl) ?_
   refine WL.nil (En.next ?_)
   refine WC.cond rfl ?_ ?_
   ·
    intro hc_2
    replace zh0 := ifO_t hc_2 zh0
    refine WC.exit (En.then_exit ?_)
    refine En.block_exit' rfl ?_
    refine En.then_exit (En.then_exit ?_)
    have hx := exitP ze0 zh0
    exact En.wk _ _ (Sub.cons rfl (Sub.cons rfl (Sub.cons rfl (Sub.nil _)))) (fun _ h => h) (zK0_0 ((out_0, out1_0, out2_0, out3_0, out4_0, out5_0, out6_0, out7_0, out8_0, out9_0, out10_0, out11_0, ended_0), (aout_0, nout_0, cout_0, fout_0)) hx.symm)
   ·
    intro hc_2
    replace zh0 := ifO_f hc_2 zh0
    refine WC.skip (En.next (WC.seq ?_))
    obtain ⟨x7_2, e7_2, zh0⟩ := bnd zh0
    obtain ⟨g7_2, o7_2, _, ha7_2, rfl, hd7_2⟩ := Rd.atIdx r1_0 e7_2
    replace hd7_2 : ∀ (j : Nat) v, ([.bool x7_2] : List Value)[j]? = some v → w.cell? ⟨g7_2, o7_2 + v_0.toNat * 1 + j, .none⟩ = some v := hd7_2
    obtain ⟨x7_6, e7_6, zh0⟩ := bnd zh0
    obtain ⟨g7_6, o7_6, _, ha7_6, rfl, hd7_6⟩ := Rd.atIdx r2_0 e7_6
    replace hd7_6 : ∀ (j : Nat) v, ([.bool x7_6] : List Value)[j]? = some v → w.cell? ⟨g7_6, o7_6 + v_0.toNat * 1 + j, .none⟩ = some v := hd7_6
    obtain ⟨⟨x7_8a, x7_8b⟩, e7_8, zh0⟩ := bnd zh0
    refine WC.wkF (fun _ h => h.perm (List.perm_middle (l₁ := [_, _]))) ?_
    refine WC.wkF (fun _ h => h.perm (List.perm_middle (l₁ := [_, _]))) ?_
    refine WC.drawnH [_, _] ([_]) (fun _ h => h) (by kernel_rfl) ?_
    refine WAE.take (i := 0) rfl (by kernel_rfl) (by kernel_rfl) (by kernel_rfl) rfl rfl rfl (OpV.move rfl) ?_
    refine WAE.take (i := 1) rfl (by kernel_rfl) (by kernel_rfl) (by kernel_rfl) rfl rfl rfl (OpV.move rfl) ?_
    refine WAE.take (i := 2) rfl (by kernel_rfl) (by kernel_rfl) (by kernel_rfl) rfl rfl rfl (OpV.idxA rfl rfl se_37 ha7_2 ⟨(idx_some e7_2).1, (idx_some e7_2).2.1⟩) ?_
    refine WAE.take (i := 3) rfl (by kernel_rfl) (by kernel_rfl) (by kernel_rfl) rfl rfl rfl (OpV.load1 rfl pt_4 (fun w hs => hs.cell (hd7_2 0 _ rfl))) ?_
    refine WAE.take (i := 4) rfl (by kernel_rfl) (by kernel_rfl) (by kernel_rfl) rfl rfl rfl (OpV.move rfl) ?_
    refine WAE.take (i := 5) rfl (by kernel_rfl) (by kernel_rfl) (by kernel_rfl) rfl rfl rfl (OpV.move rfl) ?_
    refine WAE.take (i := 6) rfl (by kernel_rfl) (by kernel_rfl) (by kernel_rfl) rfl rfl rfl (OpV.idxA rfl rfl se_37 ha7_6 ⟨(idx_some e7_6).1, (idx_some e7_6).2.1⟩) ?_
    refine WAE.take (i := 7) rfl (by kernel_rfl) (by kernel_rfl) (by kernel_rfl) rfl rfl rfl (OpV.load1 rfl pt_4 (fun w hs => hs.cell (hd7_6 0 _ rfl))) ?_
    refine WAE.all (rs := [8]) (by kernel_rfl) rfl (AllR.cons rfl rfl rfl rfl ?_ AllR.nil)
    refine OpH.wkF (fun _ h => h.perm (List.perm_middle (l₁ := [_]))) ?_
    refine OpH.callX (evs.cons rfl (evs.cons rfl (evs.cons rfl (evs.nil)))) ca_49 (fun w hs => w_impl_Pace_next e7_8 hs) ?_
    rintro _ _ ⟨p7_800a, p7_800n, p7_800c, p7_800f, rfl, rfl⟩
    refine ⟨[_, _], rfl, ?_⟩
    refine WAE.rebase (H := []) ?_
    refine WAE.done (by kernel_rfl) ?_ _
    refine En.next ?_
    refine WC.cond rfl ?_ ?_
    ·
     intro hc_3
     replace zh0 := ifO_t hc_3 zh0
     refine WC.region ?_
     refine sp (OpV.move rfl) ?_
     refine sp (OpV.addR rfl rfl) ?_
     refine sp (OpV.assign rfl) ?_
     refine WL.nil (En.block_norm (En.next (WC.region ?_)))
     refine sp (OpV.addR rfl rfl) ?_
     refine sp (OpV.move rfl) ?_
     refine WL.nil ?_
     exact En.backP zb0 zh0 (p7_800a, p7_800n, p7_800c, p7_800f) (Sub.cons rfl (Sub.cons rfl (Sub.cons rfl (Sub.cons rfl (Sub.cons rfl (Sub.cons rfl (Sub.cons rfl (Sub.nil _)))))))) (fun _ h => ((h).perm (List.perm_middle (l₁ := [_]))).perm (List.perm_middle (l₁ := [_, _])))
    ·
     intro hc_3
     replace zh0 := ifO_f hc_3 zh0
     refine WC.skip (En.block_norm (En.next (WC.region ?_)))
     refine sp (OpV.addR rfl rfl) ?_
     refine sp (OpV.move rfl) ?_
     refine WL.nil ?_
     exact En.backP zb0 zh0 (p7_800a, p7_800n, p7_800c, p7_800f) (Sub.cons rfl (Sub.cons rfl (Sub.cons rfl (Sub.cons rfl (Sub.cons rfl (Sub.cons rfl (Sub.cons rfl (Sub.nil _)))))))) (fun _ h => ((h).perm (List.perm_middle (l₁ := [_]))).perm (List.perm_middle (l₁ := [_, _])))
  ·
   intro hc_1
   replace zh0 := ifO_f hc_1 zh0
   refine WC.exit (En.then_exit (En.then_exit ?_))
   have hx := exitP ze0 zh0
   exact En.wk _ _ (Sub.cons rfl (Sub.cons rfl (Sub.cons rfl (Sub.nil _)))) (fun _ h => h) (zK0_0 ((out_0, out1_0, out2_0, out3_0, out4_0, out5_0, out6_0, out7_0, out8_0, out9_0, out10_0, out11_0, ended_0), (aout_0, nout_0, cout_0, fout_0)) hx.symm)

theorem w_impl_ShortFrame {p_p0 : PaceT} {r : Int} {q0_0 : Option Addr} {l0_0 k0_0 : Nat} (h : impl_ShortFrame p_p0 = some r) {w : World} (r0_0 : Rd tInt w q0_0 l0_0 k0_0 p_p0.Frames)   :
    Calls Try.prog 21 #[.agg #[.int .i64 p_p0.Mode.Clock, .int .i64 p_p0.Mode.W, .int .i64 p_p0.Mode.HFront, .int .i64 p_p0.Mode.HSync, .int .i64 p_p0.Mode.HBack, .int .i64 p_p0.Mode.H, .int .i64 p_p0.Mode.VFront, .int .i64 p_p0.Mode.VSync, .int .i64 p_p0.Mode.VBack, .int .i64 p_p0.Stretch, .int .i64 p_p0.Lines, .slice q0_0 l0_0 k0_0]] w (fun en w' => en = .returned (.int .i64 r) ∧ Ext w w') := by
 obtain rfl := r0_0.1
 unfold impl_ShortFrame at h
 refine enter (vs := [_]) Try.func21 rfl rfl rfl rfl ?_
 refine WC.seq (WC.region ?_)
 refine WL.heavy rfl rfl rfl (OpH.box rfl rfl ?_)
 intro b0_0
 refine sp (OpV.assign rfl) ?_
 refine WL.nil (En.next (WC.seq (WC.seq ?_)))
 obtain ⟨x1_1, e1_1, h⟩ := bnd h
 refine WC.region ?_
 refine sp (OpV.loadAll rfl (.head _) ag_36) ?_
 refine sp (OpV.call (evs.cons rfl (evs.nil)) ca_24 (fun w hs => w_impl_PaceOk e1_1 (r0_0.ext hs.below))) ?_
 refine sp (OpV.not rfl) ?_
 refine WL.nil (En.next ?_)
 refine WC.cond rfl ?_ ?_
 ·
  intro hc_1
  replace h := ifO_t hc_1 h
  refine WC.seq (WC.region ?_)
  refine sp (OpV.assign rfl) ?_
  refine WL.nil (En.next (WC.ret (En.then_ret ?_)))
  refine En.ret1 rfl (Res.tmp rfl) ?_
  obtain rfl := Option.some.inj h
  intro w' hs
  exact ⟨rfl, hs.below⟩
 ·
  intro hc_1
  replace h := ifO_f hc_1 h
  refine WC.skip (En.next (WC.seq ?_))
  obtain ⟨x3_1, e3_1, h⟩ := bnd h
  refine WC.region ?_
  refine sp (OpV.loadAll rfl (.head _) ag_36) ?_
  refine sp (OpV.call (evs.cons rfl (evs.nil)) ca_47 (fun w hs => w_impl_shortFrame e3_1 (r0_0.ext hs.below))) ?_
  refine sp (OpV.assign rfl) ?_
  refine WL.nil (En.next (WC.ret ?_))
  refine En.ret1 rfl (Res.tmp rfl) ?_
  obtain rfl := Option.some.inj h
  intro w' hs
  exact ⟨rfl, hs.below⟩

theorem w_impl_LongFrame {p_p0 : PaceT} {r : Int} {q0_0 : Option Addr} {l0_0 k0_0 : Nat} (h : impl_LongFrame p_p0 = some r) {w : World} (r0_0 : Rd tInt w q0_0 l0_0 k0_0 p_p0.Frames)   :
    Calls Try.prog 19 #[.agg #[.int .i64 p_p0.Mode.Clock, .int .i64 p_p0.Mode.W, .int .i64 p_p0.Mode.HFront, .int .i64 p_p0.Mode.HSync, .int .i64 p_p0.Mode.HBack, .int .i64 p_p0.Mode.H, .int .i64 p_p0.Mode.VFront, .int .i64 p_p0.Mode.VSync, .int .i64 p_p0.Mode.VBack, .int .i64 p_p0.Stretch, .int .i64 p_p0.Lines, .slice q0_0 l0_0 k0_0]] w (fun en w' => en = .returned (.int .i64 r) ∧ Ext w w') := by
 obtain rfl := r0_0.1
 unfold impl_LongFrame at h
 refine enter (vs := [_]) Try.func19 rfl rfl rfl rfl ?_
 refine WC.seq (WC.region ?_)
 refine WL.heavy rfl rfl rfl (OpH.box rfl rfl ?_)
 intro b0_0
 refine sp (OpV.assign rfl) ?_
 refine WL.nil (En.next (WC.seq (WC.seq ?_)))
 obtain ⟨x1_1, e1_1, h⟩ := bnd h
 refine WC.region ?_
 refine sp (OpV.loadAll rfl (.head _) ag_36) ?_
 refine sp (OpV.call (evs.cons rfl (evs.nil)) ca_24 (fun w hs => w_impl_PaceOk e1_1 (r0_0.ext hs.below))) ?_
 refine sp (OpV.not rfl) ?_
 refine WL.nil (En.next ?_)
 refine WC.cond rfl ?_ ?_
 ·
  intro hc_1
  replace h := ifO_t hc_1 h
  refine WC.seq (WC.region ?_)
  refine sp (OpV.assign rfl) ?_
  refine WL.nil (En.next (WC.ret (En.then_ret ?_)))
  refine En.ret1 rfl (Res.tmp rfl) ?_
  obtain rfl := Option.some.inj h
  intro w' hs
  exact ⟨rfl, hs.below⟩
 ·
  intro hc_1
  replace h := ifO_f hc_1 h
  refine WC.skip (En.next (WC.seq ?_))
  obtain ⟨x3_1, e3_1, h⟩ := bnd h
  refine WC.drawn [(2, ?r3v2)] (by kernel_rfl) (by kernel_rfl) ?dH3 ?dK3
  case dH3 =>
   intro W hW hk
   refine hW.step rfl rfl rfl (OpV.loadAll rfl (.head _) ag_36) ?_
   refine hW.step rfl rfl rfl (OpV.call (evs.cons rfl (evs.nil)) ca_47 (fun w hs => w_impl_shortFrame e3_1 (r0_0.ext hs.below))) ?_
   refine hW.step rfl rfl rfl (OpV.fieldAddr rfl fo_36_1) ?_
   refine hW.step rfl rfl rfl (OpV.loadBox rfl pt_3 (.head _) rfl) ?_
   refine hW.step rfl rfl rfl (OpV.addR rfl rfl) ?_
   refine hW.step rfl rfl rfl (OpV.assign rfl) ?_
   refine hk _ ?_
   refine Sub.cons ?_ (Sub.nil _)
   all_goals exact rfl
  refine En.next (WC.ret ?_)
  refine En.ret1 rfl (Res.tmp rfl) ?_
  obtain rfl := Option.some.inj h
  intro w' hs
  exact ⟨rfl, hs.below⟩

theorem w_impl_PaceTime {p_p0 : PaceT} {r : Int} {q0_0 : Option Addr} {l0_0 k0_0 : Nat} (h : impl_PaceTime p_p0 = some r) {w : World} (r0_0 : Rd tInt w q0_0 l0_0 k0_0 p_p0.Frames)   :
    Calls Try.prog 23 #[.agg #[.int .i64 p_p0.Mode.Clock, .int .i64 p_p0.Mode.W, .int .i64 p_p0.Mode.HFront, .int .i64 p_p0.Mode.HSync, .int .i64 p_p0.Mode.HBack, .int .i64 p_p0.Mode.H, .int .i64 p_p0.Mode.VFront, .int .i64 p_p0.Mode.VSync, .int .i64 p_p0.Mode.VBack, .int .i64 p_p0.Stretch, .int .i64 p_p0.Lines, .slice q0_0 l0_0 k0_0]] w (fun en w' => en = .returned (.int .i64 r) ∧ Ext w w') := by
 obtain rfl := r0_0.1
 unfold impl_PaceTime at h
 refine enter (vs := [_]) Try.func23 rfl rfl rfl rfl ?_
 refine WC.seq (WC.region ?_)
 refine WL.heavy rfl rfl rfl (OpH.box rfl rfl ?_)
 intro b0_0
 refine sp (OpV.assign rfl) ?_
 refine WL.nil (En.next (WC.seq (WC.seq ?_)))
 obtain ⟨x1_1, e1_1, h⟩ := bnd h
 refine WC.region ?_
 refine sp (OpV.loadAll rfl (.head _) ag_36) ?_
 refine sp (OpV.call (evs.cons rfl (evs.nil)) ca_24 (fun w hs => w_impl_PaceOk e1_1 (r0_0.ext hs.below))) ?_
 refine sp (OpV.not rfl) ?_
 refine WL.nil (En.next ?_)
 refine WC.cond rfl ?_ ?_
 ·
  intro hc_1
  replace h := ifO_t hc_1 h
  refine WC.seq (WC.region ?_)
  refine sp (OpV.assign rfl) ?_
  refine WL.nil (En.next (WC.ret (En.then_ret ?_)))
  refine En.ret1 rfl (Res.tmp rfl) ?_
  obtain rfl := Option.some.inj h
  intro w' hs
  exact ⟨rfl, hs.below⟩
 ·
  intro hc_1
  replace h := ifO_f hc_1 h
  refine WC.skip (En.next (WC.seq (WC.region ?_)))
  refine sp (OpV.fieldAddr rfl fo_36_2) ?_
  refine sp (OpV.loadBox rfl pt_3 (.head _) rfl) ?_
  refine sp (OpV.assign rfl) ?_
  refine WL.nil (En.next (WC.seq (WC.seq (WC.region ?_))))
  refine sp (OpV.fieldAddr rfl fo_36_3) ?_
  refine sp (OpV.loadBox rfl pt_34 (.head _) rfl) ?_
  refine sp (OpV.len rfl si_34 rfl) ?_
  refine sp (OpV.move rfl) ?_
  refine WL.nil (En.next (WC.block ?_))
  obtain ⟨zy0, ezy0, h⟩ := bnd h
  refine WC.cut (X := (Int) × (Unit)) (.exit 0) (fun x => zy0 = x.1) (fun x => match x with | (n_0e, ()) => [(3, .int .i64 n_0e)]) (fun x => match x with | (n_0e, ()) => []) ?_ ?_
  ·
   rintro ⟨n_0e, ⟨⟩⟩ hx
   replace hx : n_0e = zy0 := hx.symm
   subst hx
   show En _ _ _ _ [(3, .int .i64 n_0e)] []
   refine En.block_exit (En.next (WC.seq (WC.region ?_)))
   refine sp (OpV.move rfl) ?_
   refine sp (OpV.assign rfl) ?_
   refine WL.nil (En.next (WC.ret ?_))
   refine En.ret1 rfl (Res.tmp rfl) ?_
   obtain rfl := Option.some.inj h
   intro w' hs
   exact ⟨rfl, hs.below⟩
  ·
   intro zK0_0
   refine WC.loopP (G := Unit) (fun s g => match s, g with | (n_0, v_0), () => [(3, .int .i64 n_0), (12, .slice q0_0 p_p0.Frames.length k0_0), (13, .int .i64 (p_p0.Frames.length : Int)), (14, .int .i64 v_0)]) (fun s g => match s, g with | (n_0, v_0), () => []) (p_p0.Lines, 0) () ezy0 (by exact Sub.cons rfl (Sub.cons rfl (Sub.cons rfl (Sub.cons rfl (Sub.nil _))))) (by exact (fun _ h => (h).sub (.cons _ (.slnil)))) ?_
   rintro zm0 ⟨n_0, v_0⟩ ⟨⟩ zo0 zf0 zb0 ze0
   have zh0 : impl_PaceTime_L0 p_p0 n_0 v_0 = some zo0 := zf0
   unfold impl_PaceTime_L0 at zh0
   show WC _ _ _ _ _ [(3, .int .i64 n_0), (12, .slice q0_0 p_p0.Frames.length k0_0), (13, .int .i64 (p_p0.Frames.length : Int)), (14, .int .i64 v_0)] []
   refine WC.seq (WC.region ?_)
   refine sp (OpV.lss rfl rfl) ?_
   refine WL.nil (En.next (WC.seq ?_))
   refine WC.cond rfl ?_ ?_
   ·
    intro hc_2
    replace zh0 := ifO_t hc_2 zh0
    refine WC.skip (En.next (WC.seq (WC.block (WC.seq ?_))))
    obtain ⟨x6_0, e6_0, zh0⟩ := bnd zh0
    obtain ⟨g6_0, o6_0, _, ha6_0, rfl, hd6_0⟩ := Rd.atIdx r0_0 e6_0
    replace hd6_0 : ∀ (j : Nat) v, ([.int .i64 x6_0] : List Value)[j]? = some v → w.cell? ⟨g6_0, o6_0 + v_0.toNat * 1 + j, .none⟩ = some v := hd6_0
    refine WC.region ?_
    refine sp (OpV.idxA rfl rfl se_34 ha6_0 ⟨(idx_some e6_0).1, (idx_some e6_0).2.1⟩) ?_
    refine sp (OpV.load1 rfl pt_3 (fun w hs => hs.cell (hd6_0 0 _ rfl))) ?_
    refine sp (OpV.assign rfl) ?_
    refine WL.nil (En.next (WC.region ?_))
    refine sp (OpV.move rfl) ?_
    refine sp (OpV.move rfl) ?_
    refine sp (OpV.addR rfl rfl) ?_
    refine sp (OpV.assign rfl) ?_
    refine WL.nil (En.block_norm (En.next (WC.region ?_)))
    refine sp (OpV.addR rfl rfl) ?_
    refine sp (OpV.move rfl) ?_
    refine WL.nil ?_
    exact En.backP zb0 zh0 () (Sub.cons rfl (Sub.cons rfl (Sub.cons rfl (Sub.cons rfl (Sub.nil _))))) (fun _ h => h)
   ·
    intro hc_2
    replace zh0 := ifO_f hc_2 zh0
    refine WC.exit (En.then_exit (En.then_exit ?_))
    have hx := exitP ze0 zh0
    exact En.wk _ _ (Sub.cons rfl (Sub.nil _)) (fun _ h => h) (zK0_0 (n_0, ()) hx.symm)

theorem w_laws_FnPaces {a_p0 : List Int} {r : Bool} {q0_0 : Option Addr} {l0_0 k0_0 : Nat} (h : laws_FnPaces a_p0 = some r) {w : World} (r0_0 : Rd tU8 w q0_0 l0_0 k0_0 a_p0)   :
    Calls Try.prog 5 #[.slice q0_0 l0_0 k0_0] w (fun en w' => en = .returned (.bool r) ∧ Ext w w') := by
 obtain rfl := r0_0.1
 unfold laws_FnPaces at h
 refine enter (vs := [_]) Try.func5 rfl rfl rfl rfl ?_
 refine WC.seq (WC.region ?_)
 refine sp (OpV.assign rfl) ?_
 refine WL.nil (En.next (WC.seq (WC.seq ?_)))
 obtain ⟨x1_1, e1_1, h⟩ := bnd h
 refine WC.region ?_
 refine sp (OpV.move rfl) ?_
 refine sp (OpV.call (evs.cons rfl (evs.nil)) ca_10 (fun w hs => w_laws_big e1_1 (r0_0.ext hs.below))) ?_
 refine WL.nil (En.next ?_)
 refine WC.cond rfl ?_ ?_
 ·
  intro hc_1
  replace h := ifO_t hc_1 h
  refine WC.seq (WC.region ?_)
  refine sp (OpV.assign rfl) ?_
  refine WL.nil (En.next (WC.ret (En.then_ret ?_)))
  refine En.ret1 rfl (Res.tmp rfl) ?_
  obtain rfl := Option.some.inj h
  intro w' hs
  exact ⟨rfl, hs.below⟩
 ·
  intro hc_1
  replace h := ifO_f hc_1 h
  refine WC.skip (En.next (WC.seq ?_))
  obtain ⟨⟨x3_1a, x3_1b, x3_1c⟩, e3_1, h⟩ := bnd h
  refine WC.region ?_
  refine sp (OpV.move rfl) ?_
  refine WL.heavy rfl rfl rfl (OpH.callR (evs.cons rfl (evs.nil)) ca_18 (fun w hs => w_spec_DrawPace e3_1 (r0_0.ext hs.below)) ?_)
  rintro _ _ ⟨a3_100, n3_100, c3_100, f3_100, a3_110, n3_110, c3_110, f3_110, a3_120, n3_120, c3_120, f3_120, rfl, rfl⟩
  refine sp (OpV.move rfl) ?_
  refine sp (OpV.extract rfl rfl) ?_
  refine sp (OpV.extract rfl rfl) ?_
  refine sp (OpV.extract rfl rfl) ?_
  refine WL.heavy rfl rfl rfl (OpH.alloc zc_36 ?_)
  intro b3_6
  refine WL.heavy0 rfl rfl (OpH.storeTo (A := []) [_, _, _, _, _, _, _, _, _, _, _, _] rfl rfl rfl ts_36 rfl rfl rfl ?_)
  refine sp (OpV.assign rfl) ?_
  refine sp (OpV.assign rfl) ?_
  refine WL.nil (En.next (WC.seq ?_))
  obtain ⟨⟨x4_3a, x4_3b⟩, e4_3, h⟩ := bnd h
  refine WC.region ?_
  refine sp (OpV.loadAll rfl (.head _) ag_36) ?_
  refine sp (OpV.move rfl) ?_
  refine sp (OpV.move rfl) ?_
  refine WL.heavy rfl rfl rfl (OpH.callR (evs.cons rfl (evs.cons rfl (evs.cons rfl (evs.nil)))) ca_20 (fun w hs => w_impl_RunPace e4_3 (Ow.rd (hs.mem (.tail _ (.head _)))) (Ow.rd (hs.mem (.tail _ (.tail _ (.head _))))) (Ow.rd (hs.mem (.tail _ (.tail _ (.tail _ (.head _))))))) ?_)
  rintro _ _ ⟨a4_300, n4_300, c4_300, f4_300, rfl, rfl⟩
  refine sp (OpV.move rfl) ?_
  refine sp (OpV.extract rfl rfl) ?_
  refine sp (OpV.extract rfl rfl) ?_
  refine WL.heavy rfl rfl rfl (OpH.alloc zc_36 ?_)
  intro b4_7
  refine WL.heavy0 rfl rfl (OpH.storeTo (A := []) [_, _, _, _, _, _, _, _, _, _, _, _] rfl rfl rfl ts_36 rfl rfl rfl ?_)
  refine sp (OpV.assign rfl) ?_
  refine WL.nil (En.next (WC.seq (WC.seq (WC.region ?_))))
  refine sp (OpV.assign rfl) ?_
  refine WL.nil (En.next (WC.block ?_))
  obtain ⟨zy0, ezy0, h⟩ := bnd h
  refine WC.cut (X := (Unit) × (Unit)) (.exit 0) (fun x => zy0 = .inl x.1) (fun x => match x with | ((), ()) => [(3, .pointer (some ⟨b3_6, 0, .none⟩)), (4, .slice a3_110 n3_110 c3_110), (6, .pointer (some ⟨b4_7, 0, .none⟩)), (7, .int .i64 x4_3b)]) (fun x => match x with | ((), ()) => [Chunk.box b3_6 36 [.int .i64 x3_1a.Mode.Clock, .int .i64 x3_1a.Mode.W, .int .i64 x3_1a.Mode.HFront, .int .i64 x3_1a.Mode.HSync, .int .i64 x3_1a.Mode.HBack, .int .i64 x3_1a.Mode.H, .int .i64 x3_1a.Mode.VFront, .int .i64 x3_1a.Mode.VSync, .int .i64 x3_1a.Mode.VBack, .int .i64 x3_1a.Stretch, .int .i64 x3_1a.Lines, .slice a3_100 n3_100 c3_100], Chunk.own tInt f3_100 a3_100 n3_100 c3_100 x3_1a.Frames, Chunk.own tBool f3_110 a3_110 n3_110 c3_110 x3_1b, Chunk.box b4_7 36 [.int .i64 x4_3a.Mode.Clock, .int .i64 x4_3a.Mode.W, .int .i64 x4_3a.Mode.HFront, .int .i64 x4_3a.Mode.HSync, .int .i64 x4_3a.Mode.HBack, .int .i64 x4_3a.Mode.H, .int .i64 x4_3a.Mode.VFront, .int .i64 x4_3a.Mode.VSync, .int .i64 x4_3a.Mode.VBack, .int .i64 x4_3a.Stretch, .int .i64 x4_3a.Lines, .slice a4_300 n4_300 c4_300], Chunk.own tInt f4_300 a4_300 n4_300 c4_300 x4_3a.Frames]) ?_ ?_
  ·
   rintro ⟨⟨⟩, ⟨⟩⟩ hx
   replace hx : .inl () = zy0 := hx.symm
   subst hx
   replace h := fork_l h
   show En _ _ _ _ [(3, .pointer (some ⟨b3_6, 0, .none⟩)), (4, .slice a3_110 n3_110 c3_110), (6, .pointer (some ⟨b4_7, 0, .none⟩)), (7, .int .i64 x4_3b)] [Chunk.box b3_6 36 [.int .i64 x3_1a.Mode.Clock, .int .i64 x3_1a.Mode.W, .int .i64 x3_1a.Mode.HFront, .int .i64 x3_1a.Mode.HSync, .int .i64 x3_1a.Mode.HBack, .int .i64 x3_1a.Mode.H, .int .i64 x3_1a.Mode.VFront, .int .i64 x3_1a.Mode.VSync, .int .i64 x3_1a.Mode.VBack, .int .i64 x3_1a.Stretch, .int .i64 x3_1a.Lines, .slice a3_100 n3_100 c3_100], Chunk.own tInt f3_100 a3_100 n3_100 c3_100 x3_1a.Frames, Chunk.own tBool f3_110 a3_110 n3_110 c3_110 x3_1b, Chunk.box b4_7 36 [.int .i64 x4_3a.Mode.Clock, .int .i64 x4_3a.Mode.W, .int .i64 x4_3a.Mode.HFront, .int .i64 x4_3a.Mode.HSync, .int .i64 x4_3a.Mode.HBack, .int .i64 x4_3a.Mode.H, .int .i64 x4_3a.Mode.VFront, .int .i64 x4_3a.Mode.VSync, .int .i64 x4_3a.Mode.VBack, .int .i64 x4_3a.Stretch, .int .i64 x4_3a.Lines, .slice a4_300 n4_300 c4_300], Chunk.own tInt f4_300 a4_300 n4_300 c4_300 x4_3a.Frames]
   refine En.block_exit (En.next (WC.seq ?_))
   obtain ⟨q10_11, e10_11, h⟩ := bnd h
   obtain ⟨q10_15, e10_15, h⟩ := bnd h
   obtain ⟨q10_25, e10_25, h⟩ := bnd h
   refine WC.drawn [(2, ?r10v2)] (by kernel_rfl) (by kernel_rfl) ?dH10 ?dK10
   case dH10 =>
    intro W hW hk
    refine hW.step rfl rfl rfl (OpV.fieldAddr rfl fo_36_3) ?_
    refine hW.step rfl rfl rfl (OpV.loadBox rfl pt_34 (.tail _ (.tail _ (.tail _ (.head _)))) rfl) ?_
    refine hW.step rfl rfl rfl (OpV.inhF fun hin => OpV.lenO (xs := x4_3a.Frames) rfl si_34 rfl (ownLen hin (.tail _ (.tail _ (.tail _ (.tail _ (.head _))))))) ?_
    refine hW.step rfl rfl rfl (OpV.move rfl) ?_
    refine hW.step rfl rfl rfl (OpV.eql rfl rfl) ?_
    refine hW.step rfl rfl rfl (OpV.move rfl) ?_
    refine hW.andQ 54 60 59 (p := ?pz1) (rest := ?qz1) (B := q10_11) rfl (fun hz => andO_f e10_11 hz) ?Tz1 ?Fz1 ?az1 ?bz1 ?cz1 ?dz1 ?ez1
    case Tz1 =>
     intro hcz1 hkz1
     have hqz1 := andO_t e10_11 hcz1
     obtain ⟨x10_7, e10_7, hqz1⟩ := bnd hqz1
     obtain rfl := Option.some.inj hqz1
     refine hW.step rfl rfl rfl (OpV.loadAll rfl (.tail _ (.tail _ (.tail _ (.head _)))) ag_36) ?_
     refine hW.step rfl rfl rfl (OpV.call (evs.cons rfl (evs.nil)) ca_23 (fun w hs => w_impl_PaceTime e10_7 (Ow.rd (hs.mem (.tail _ (.tail _ (.tail _ (.tail _ (.head _))))))))) ?_
     refine hW.step rfl rfl rfl (OpV.move rfl) ?_
     refine hW.step rfl rfl rfl (OpV.inhF fun hin => OpV.lenO (xs := x3_1b) rfl si_37 rfl (ownLen hin (.tail _ (.tail _ (.head _))))) ?_
     refine hW.step rfl rfl rfl (OpV.eql rfl rfl) ?_
     refine hkz1 _ ?_ ?_
     exact rfl
     repeat (first | exact Sub.refl _ | refine Sub.skip rfl ?_)
    case Fz1 =>
     intro hcz1 hkz1
     refine hW.skip rfl rfl rfl ?_
     refine hW.skip rfl rfl rfl ?_
     refine hW.skip rfl rfl rfl ?_
     refine hW.skip rfl rfl rfl ?_
     refine hW.skip rfl rfl rfl ?_
     refine hkz1 _ ?_
     repeat (first | exact Sub.refl _ | refine Sub.skip rfl ?_)
    case az1 => exact rfl
    case bz1 => exact rfl
    case cz1 => exact rfl
    case dz1 => exact rfl
    refine hW.step rfl rfl rfl (OpV.move rfl) ?_
    refine hW.andQ 61 64 63 (p := ?pz2) (rest := ?qz2) (B := q10_15) rfl (fun hz => andO_f e10_15 hz) ?Tz2 ?Fz2 ?az2 ?bz2 ?cz2 ?dz2 ?ez2
    case Tz2 =>
     intro hcz2 hkz2
     have hqz2 := andO_t e10_15 hcz2
     obtain ⟨x10_14, e10_14, hqz2⟩ := bnd hqz2
     obtain rfl := Option.some.inj hqz2
     refine hW.step rfl rfl rfl (OpV.loadAll rfl (.tail _ (.tail _ (.tail _ (.head _)))) ag_36) ?_
     refine hW.step rfl rfl rfl (OpV.call (evs.cons rfl (evs.nil)) ca_24 (fun w hs => w_impl_PaceOk e10_14 (Ow.rd (hs.mem (.tail _ (.tail _ (.tail _ (.tail _ (.head _))))))))) ?_
     refine hkz2 _ ?_ ?_
     exact rfl
     repeat (first | exact Sub.refl _ | refine Sub.skip rfl ?_)
    case Fz2 =>
     intro hcz2 hkz2
     refine hW.skip rfl rfl rfl ?_
     refine hW.skip rfl rfl rfl ?_
     refine hkz2 _ ?_
     repeat (first | exact Sub.refl _ | refine Sub.skip rfl ?_)
    case az2 => exact rfl
    case bz2 => exact rfl
    case cz2 => exact rfl
    case dz2 => exact rfl
    refine hW.step rfl rfl rfl (OpV.move rfl) ?_
    refine hW.andQ 65 74 73 (p := ?pz3) (rest := ?qz3) (B := q10_25) rfl (fun hz => andO_f e10_25 hz) ?Tz3 ?Fz3 ?az3 ?bz3 ?cz3 ?dz3 ?ez3
    case Tz3 =>
     intro hcz3 hkz3
     have hqz3 := andO_t e10_25 hcz3
     obtain ⟨x10_18, e10_18, hqz3⟩ := bnd hqz3
     obtain ⟨x10_20, e10_20, hqz3⟩ := bnd hqz3
     obtain rfl := Option.some.inj hqz3
     refine hW.step rfl rfl rfl (OpV.loadAll rfl (.head _) ag_36) ?_
     refine hW.step rfl rfl rfl (OpV.call (evs.cons rfl (evs.nil)) ca_19 (fun w hs => w_impl_LongFrame e10_18 (Ow.rd (hs.mem (.tail _ (.head _)))))) ?_
     refine hW.step rfl rfl rfl (OpV.loadAll rfl (.head _) ag_36) ?_
     refine hW.step rfl rfl rfl (OpV.call (evs.cons rfl (evs.nil)) ca_21 (fun w hs => w_impl_ShortFrame e10_20 (Ow.rd (hs.mem (.tail _ (.head _)))))) ?_
     refine hW.step rfl rfl rfl (OpV.fieldAddr rfl fo_36_1) ?_
     refine hW.step rfl rfl rfl (OpV.loadBox rfl pt_3 (.head _) rfl) ?_
     refine hW.step rfl rfl rfl (OpV.addR rfl rfl) ?_
     refine hW.step rfl rfl rfl (OpV.eql rfl rfl) ?_
     refine hkz3 _ ?_ ?_
     exact rfl
     repeat (first | exact Sub.refl _ | refine Sub.skip rfl ?_)
    case Fz3 =>
     intro hcz3 hkz3
     refine hW.skip rfl rfl rfl ?_
     refine hW.skip rfl rfl rfl ?_
     refine hW.skip rfl rfl rfl ?_
     refine hW.skip rfl rfl rfl ?_
     refine hW.skip rfl rfl rfl ?_
     refine hW.skip rfl rfl rfl ?_
     refine hW.skip rfl rfl rfl ?_
     refine hW.skip rfl rfl rfl ?_
     refine hkz3 _ ?_
     repeat (first | exact Sub.refl _ | refine Sub.skip rfl ?_)
    case az3 => exact rfl
    case bz3 => exact rfl
    case cz3 => exact rfl
    case dz3 => exact rfl
    refine hW.step rfl rfl rfl (OpV.assign rfl) ?_
    refine hk _ ?_
    refine Sub.cons ?_ (Sub.nil _)
    all_goals exact rfl
   refine En.next (WC.ret ?_)
   refine En.ret1 rfl (Res.tmp rfl) ?_
   obtain rfl := Option.some.inj h
   intro w' hs
   exact ⟨rfl, hs.below⟩
  ·
   intro zK0_0
   refine WC.loopP (G := Unit) (fun s g => match s, g with | v_0, () => [(3, .pointer (some ⟨b3_6, 0, .none⟩)), (4, .slice a3_110 n3_110 c3_110), (6, .pointer (some ⟨b4_7, 0, .none⟩)), (7, .int .i64 x4_3b), (8, .int .i64 v_0)]) (fun s g => match s, g with | v_0, () => [Chunk.box b3_6 36 [.int .i64 x3_1a.Mode.Clock, .int .i64 x3_1a.Mode.W, .int .i64 x3_1a.Mode.HFront, .int .i64 x3_1a.Mode.HSync, .int .i64 x3_1a.Mode.HBack, .int .i64 x3_1a.Mode.H, .int .i64 x3_1a.Mode.VFront, .int .i64 x3_1a.Mode.VSync, .int .i64 x3_1a.Mode.VBack, .int .i64 x3_1a.Stretch, .int .i64 x3_1a.Lines, .slice a3_100 n3_100 c3_100], Chunk.own tInt f3_100 a3_100 n3_100 c3_100 x3_1a.Frames, Chunk.own tBool f3_110 a3_110 n3_110 c3_110 x3_1b, Chunk.box b4_7 36 [.int .i64 x4_3a.Mode.Clock, .int .i64 x4_3a.Mode.W, .int .i64 x4_3a.Mode.HFront, .int .i64 x4_3a.Mode.HSync, .int .i64 x4_3a.Mode.HBack, .int .i64 x4_3a.Mode.H, .int .i64 x4_3a.Mode.VFront, .int .i64 x4_3a.Mode.VSync, .int .i64 x4_3a.Mode.VBack, .int .i64 x4_3a.Stretch, .int .i64 x4_3a.Lines, .slice a4_300 n4_300 c4_300], Chunk.own tInt f4_300 a4_300 n4_300 c4_300 x4_3a.Frames]) 0 () ezy0 (by exact Sub.cons rfl (Sub.cons rfl (Sub.cons rfl (Sub.cons rfl (Sub.cons rfl (Sub.nil _)))))) (by exact (fun _ h => ((((((h).perm (List.perm_middle (l₁ := [_]))).perm (List.perm_middle (l₁ := [_]))).perm (List.perm_middle (l₁ := [_, _, _, _]))).perm (List.perm_middle (l₁ := [_, _, _, _]))).perm (List.perm_middle (l₁ := [_, _, _, _]))).sub (.cons_cons _ (.cons_cons _ (.cons_cons _ (.cons_cons _ (.cons_cons _ (.cons _ (.slnil))))))))) ?_
   rintro zm0 v_0 ⟨⟩ zo0 zf0 zb0 ze0
   have zh0 : laws_FnPaces_L0 x3_1a x4_3a v_0 = some zo0 := zf0
   unfold laws_FnPaces_L0 at zh0
   show WC _ _ _ _ _ [(3, .pointer (some ⟨b3_6, 0, .none⟩)), (4, .slice a3_110 n3_110 c3_110), (6, .pointer (some ⟨b4_7, 0, .none⟩)), (7, .int .i64 x4_3b), (8, .int .i64 v_0)] [Chunk.box b3_6 36 [.int .i64 x3_1a.Mode.Clock, .int .i64 x3_1a.Mode.W, .int .i64 x3_1a.Mode.HFront, .int .i64 x3_1a.Mode.HSync, .int .i64 x3_1a.Mode.HBack, .int .i64 x3_1a.Mode.H, .int .i64 x3_1a.Mode.VFront, .int .i64 x3_1a.Mode.VSync, .int .i64 x3_1a.Mode.VBack, .int .i64 x3_1a.Stretch, .int .i64 x3_1a.Lines, .slice a3_100 n3_100 c3_100], Chunk.own tInt f3_100 a3_100 n3_100 c3_100 x3_1a.Frames, Chunk.own tBool f3_110 a3_110 n3_110 c3_110 x3_1b, Chunk.box b4_7 36 [.int .i64 x4_3a.Mode.Clock, .int .i64 x4_3a.Mode.W, .int .i64 x4_3a.Mode.HFront, .int .i64 x4_3a.Mode.HSync, .int .i64 x4_3a.Mode.HBack, .int .i64 x4_3a.Mode.H, .int .i64 x4_3a.Mode.VFront, .int .i64 x4_3a.Mode.VSync, .int .i64 x4_3a.Mode.VBack, .int .i64 x4_3a.Stretch, .int .i64 x4_3a.Lines, .slice a4_300 n4_300 c4_300], Chunk.own tInt f4_300 a4_300 n4_300 c4_300 x4_3a.Frames]
   refine WC.seq (WC.seq (WC.region ?_))
   refine sp (OpV.move rfl) ?_
   refine sp (OpV.fieldAddr rfl fo_36_3) ?_
   refine sp (OpV.loadBox rfl pt_34 (.tail _ (.tail _ (.tail _ (.head _)))) rfl) ?_
   refine sp (OpV.inhF fun hin => OpV.lenO (xs := x4_3a.Frames) rfl si_34 rfl (ownLen hin (.tail _ (.tail _ (.tail _ (.tail _ (.head _))))))) ?_
   refine sp (OpV.lss rfl rfl) ?_
   refine WL.nil (En.next ?_)
   refine WC.cond rfl ?_ ?_
   ·
    intro hc_2
    replace zh0 := ifO_t hc_2 zh0
    refine WC.skip (En.next (WC.seq (WC.block (WC.seq ?_))))
    refine WC.inh fun hin8 => ?_
    obtain ⟨x8_3, e8_3, zh0⟩ := bnd zh0
    obtain ⟨g8_3, o8_3, ha8_3⟩ := ownAddr hin8 (.tail _ (.tail _ (.tail _ (.tail _ (.head _))))) e8_3
    have hn8_3 := ownLen hin8 (.tail _ (.tail _ (.tail _ (.tail _ (.head _)))))
    obtain ⟨x8_6, e8_6, zh0⟩ := bnd zh0
    obtain ⟨q8_17, e8_17, zh0⟩ := bnd zh0
    refine WC.drawn [(3, ?r8v3), (4, ?r8v4), (6, ?r8v6), (7, ?r8v7), (8, ?r8v8), (48, ?r8v48)] (by kernel_rfl) (by kernel_rfl) ?dH8 ?dK8
    case dH8 =>
     intro W hW hk
     refine hW.step rfl rfl rfl (OpV.fieldAddr rfl fo_36_3) ?_
     refine hW.step rfl rfl rfl (OpV.loadBox rfl pt_34 (.tail _ (.tail _ (.tail _ (.head _)))) rfl) ?_
     refine hW.step rfl rfl rfl (OpV.move rfl) ?_
     refine hW.step rfl rfl rfl (OpV.idxA rfl rfl se_34 ha8_3 ⟨(idx_some e8_3).1, by rw [hn8_3]; exact (idx_some e8_3).2.1⟩) ?_
     refine hW.step rfl rfl rfl (OpV.load1 rfl pt_3 (fun w hs => Rd.cell1 tInt_flat (Ow.rd (hs.mem (.tail _ (.tail _ (.tail _ (.tail _ (.head _))))))) e8_3 ha8_3 rfl)) ?_
     refine hW.step rfl rfl rfl (OpV.loadAll rfl (.head _) ag_36) ?_
     refine hW.step rfl rfl rfl (OpV.call (evs.cons rfl (evs.nil)) ca_21 (fun w hs => w_impl_ShortFrame e8_6 (Ow.rd (hs.mem (.tail _ (.head _)))))) ?_
     refine hW.step rfl rfl rfl (OpV.lss rfl rfl) ?_
     refine hW.step rfl rfl rfl (OpV.move rfl) ?_
     refine hW.orQ 39 48 47 (p := ?pz4) (rest := ?qz4) (B := q8_17) rfl (fun hz => orO_t e8_17 hz) ?Tz4 ?Fz4 ?az4 ?bz4 ?cz4 ?dz4 ?ez4
     case Tz4 =>
      intro hcz4 hkz4
      refine hW.skip rfl rfl rfl ?_
      refine hW.skip rfl rfl rfl ?_
      refine hW.skip rfl rfl rfl ?_
      refine hW.skip rfl rfl rfl ?_
      refine hW.skip rfl rfl rfl ?_
      refine hW.skip rfl rfl rfl ?_
      refine hW.skip rfl rfl rfl ?_
      refine hW.skip rfl rfl rfl ?_
      refine hkz4 _ ?_
      repeat (first | exact Sub.refl _ | refine Sub.skip rfl ?_)
     case Fz4 =>
      intro hcz4 hkz4
      have hqz4 := orO_f e8_17 hcz4
      obtain ⟨x8_12, e8_12, hqz4⟩ := bnd hqz4
      obtain ⟨g8_12, o8_12, ha8_12⟩ := ownAddr hin8 (.tail _ (.tail _ (.tail _ (.tail _ (.head _))))) e8_12
      have hn8_12 := ownLen hin8 (.tail _ (.tail _ (.tail _ (.tail _ (.head _)))))
      obtain ⟨x8_15, e8_15, hqz4⟩ := bnd hqz4
      obtain rfl := Option.some.inj hqz4
      refine hW.step rfl rfl rfl (OpV.fieldAddr rfl fo_36_3) ?_
      refine hW.step rfl rfl rfl (OpV.loadBox rfl pt_34 (.tail _ (.tail _ (.tail _ (.head _)))) rfl) ?_
      refine hW.step rfl rfl rfl (OpV.move rfl) ?_
      refine hW.step rfl rfl rfl (OpV.idxA rfl rfl se_34 ha8_12 ⟨(idx_some e8_12).1, by rw [hn8_12]; exact (idx_some e8_12).2.1⟩) ?_
      refine hW.step rfl rfl rfl (OpV.load1 rfl pt_3 (fun w hs => Rd.cell1 tInt_flat (Ow.rd (hs.mem (.tail _ (.tail _ (.tail _ (.tail _ (.head _))))))) e8_12 ha8_12 rfl)) ?_
      refine hW.step rfl rfl rfl (OpV.loadAll rfl (.head _) ag_36) ?_
      refine hW.step rfl rfl rfl (OpV.call (evs.cons rfl (evs.nil)) ca_19 (fun w hs => w_impl_LongFrame e8_15 (Ow.rd (hs.mem (.tail _ (.head _)))))) ?_
      refine hW.step rfl rfl rfl (OpV.gtr rfl rfl) ?_
      refine hkz4 _ ?_ ?_
      exact rfl
      repeat (first | exact Sub.refl _ | refine Sub.skip rfl ?_)
     case az4 => exact rfl
     case bz4 => exact rfl
     case cz4 => exact rfl
     case dz4 => exact rfl
     refine hk _ ?_
     refine Sub.cons ?_ (Sub.cons ?_ (Sub.cons ?_ (Sub.cons ?_ (Sub.cons ?_ (Sub.cons ?_ (Sub.nil _))))))
     all_goals exact rfl
    refine En.next ?_
    refine WC.cond rfl ?_ ?_
    ·
     intro hc_3
     replace zh0 := ifO_t hc_3 zh0
     refine WC.seq (WC.region ?_)
     refine sp (OpV.assign rfl) ?_
     refine WL.nil (En.next (WC.ret (En.block_ret (En.then_ret (En.then_ret (En.block_ret (En.then_ret ?_)))))))
     refine En.ret1 rfl (Res.tmp rfl) ?_
     have hx := exitP ze0 zh0
     subst hx
     replace h := fork_r h
     obtain rfl := Option.some.inj h
     intro w' hs
     exact ⟨rfl, hs.below⟩
    ·
     intro hc_3
     replace zh0 := ifO_f hc_3 zh0
     refine WC.skip (En.block_norm (En.next (WC.region ?_)))
     refine sp (OpV.move rfl) ?_
     refine sp (OpV.addR rfl rfl) ?_
     refine sp (OpV.assign rfl) ?_
     refine WL.nil ?_
     exact En.backP zb0 zh0 () (Sub.cons rfl (Sub.cons rfl (Sub.cons rfl (Sub.cons rfl (Sub.cons rfl (Sub.nil _)))))) (fun _ h => h)
   ·
    intro hc_2
    replace zh0 := ifO_f hc_2 zh0
    refine WC.exit (En.then_exit (En.then_exit ?_))
    have hx := exitP ze0 zh0
    exact En.wk _ _ (Sub.cons rfl (Sub.cons rfl (Sub.cons rfl (Sub.cons rfl (Sub.nil _))))) (fun _ h => h) (zK0_0 ((), ()) hx.symm)

theorem w_laws_get {list_p0 : List Int} {i_p1 : Int} {r : Int} {q0_0 : Option Addr} {l0_0 k0_0 : Nat} (h : laws_get list_p0 i_p1 = some r) {w : World} (r0_0 : Rd tInt w q0_0 l0_0 k0_0 list_p0)   :
    Calls Try.prog 22 #[.slice q0_0 l0_0 k0_0, .int .i64 i_p1] w (fun en w' => en = .returned (.int .i64 r) ∧ Ext w w') := by
 obtain rfl := r0_0.1
 unfold laws_get at h
 refine enter (vs := [_, _]) Try.func22 rfl rfl rfl rfl ?_
 refine WC.seq (WC.region ?_)
 refine sp (OpV.assign rfl) ?_
 refine WL.nil (En.next (WC.seq (WC.seq (WC.region ?_))))
 refine sp (OpV.move rfl) ?_
 refine sp (OpV.lss rfl rfl) ?_
 refine sp (OpV.move rfl) ?_
 refine Lt.ofWL.or 7 12 11 (p := ?pz1) (rest := ?qz1) (B := ?Bz1) rfl ?Tz1 ?Fz1 ?az1 ?bz1 ?cz1 ?dz1 ?ez1
 case Tz1 =>
  intro hcz1 hkz1
  refine sk ?_
  refine sk ?_
  refine sk ?_
  refine sk ?_
  refine hkz1 _ ?_
  repeat (first | exact Sub.refl _ | refine Sub.skip rfl ?_)
 case Fz1 =>
  intro hcz1 hkz1
  refine sp (OpV.move rfl) ?_
  refine sp (OpV.move rfl) ?_
  refine sp (OpV.len rfl si_34 rfl) ?_
  refine sp (OpV.geq rfl rfl) ?_
  refine hkz1 _ ?_ ?_
  exact rfl
  repeat (first | exact Sub.refl _ | refine Sub.skip rfl ?_)
 case az1 => exact rfl
 case bz1 => exact rfl
 case cz1 => exact rfl
 case dz1 => exact rfl
 refine WL.nil (En.next ?_)
 refine WC.cond rfl ?_ ?_
 ·
  intro hc_1
  replace h := ifO_t hc_1 h
  refine WC.seq (WC.region ?_)
  refine sp (OpV.assign rfl) ?_
  refine WL.nil (En.next (WC.ret (En.then_ret ?_)))
  refine En.ret1 rfl (Res.tmp rfl) ?_
  obtain rfl := Option.some.inj h
  intro w' hs
  exact ⟨rfl, hs.below⟩
 ·
  intro hc_1
  replace h := ifO_f hc_1 h
  refine WC.skip (En.next (WC.seq ?_))
  obtain ⟨x3_2, e3_2, h⟩ := bnd h
  obtain ⟨g3_2, o3_2, _, ha3_2, rfl, hd3_2⟩ := Rd.atIdx r0_0 e3_2
  replace hd3_2 : ∀ (j : Nat) v, ([.int .i64 x3_2] : List Value)[j]? = some v → w.cell? ⟨g3_2, o3_2 + i_p1.toNat * 1 + j, .none⟩ = some v := hd3_2
  refine WC.region ?_
  refine sp (OpV.move rfl) ?_
  refine sp (OpV.move rfl) ?_
  refine sp (OpV.idxA rfl rfl se_34 ha3_2 ⟨(idx_some e3_2).1, (idx_some e3_2).2.1⟩) ?_
  refine sp (OpV.load1 rfl pt_3 (fun w hs => hs.cell (hd3_2 0 _ rfl))) ?_
  refine sp (OpV.assign rfl) ?_
  refine WL.nil (En.next (WC.ret ?_))
  refine En.ret1 rfl (Res.tmp rfl) ?_
  obtain rfl := Option.some.inj h
  intro w' hs
  exact ⟨rfl, hs.below⟩

theorem w_laws_FnPaceReady {a_p0 : List Int} {r : Bool} {q0_0 : Option Addr} {l0_0 k0_0 : Nat} (h : laws_FnPaceReady a_p0 = some r) {w : World} (r0_0 : Rd tU8 w q0_0 l0_0 k0_0 a_p0)   :
    Calls Try.prog 4 #[.slice q0_0 l0_0 k0_0] w (fun en w' => en = .returned (.bool r) ∧ Ext w w') := by
 obtain rfl := r0_0.1
 unfold laws_FnPaceReady at h
 refine enter (vs := [_]) Try.func4 rfl rfl rfl rfl ?_
 refine WC.seq (WC.region ?_)
 refine sp (OpV.assign rfl) ?_
 refine WL.nil (En.next (WC.seq (WC.seq ?_)))
 obtain ⟨x1_1, e1_1, h⟩ := bnd h
 refine WC.region ?_
 refine sp (OpV.move rfl) ?_
 refine sp (OpV.call (evs.cons rfl (evs.nil)) ca_10 (fun w hs => w_laws_big e1_1 (r0_0.ext hs.below))) ?_
 refine WL.nil (En.next ?_)
 refine WC.cond rfl ?_ ?_
 ·
  intro hc_1
  replace h := ifO_t hc_1 h
  refine WC.seq (WC.region ?_)
  refine sp (OpV.assign rfl) ?_
  refine WL.nil (En.next (WC.ret (En.then_ret ?_)))
  refine En.ret1 rfl (Res.tmp rfl) ?_
  obtain rfl := Option.some.inj h
  intro w' hs
  exact ⟨rfl, hs.below⟩
 ·
  intro hc_1
  replace h := ifO_f hc_1 h
  refine WC.skip (En.next (WC.seq ?_))
  obtain ⟨⟨x3_1a, x3_1b, x3_1c⟩, e3_1, h⟩ := bnd h
  refine WC.region ?_
  refine sp (OpV.move rfl) ?_
  refine WL.heavy rfl rfl rfl (OpH.callR (evs.cons rfl (evs.nil)) ca_18 (fun w hs => w_spec_DrawPace e3_1 (r0_0.ext hs.below)) ?_)
  rintro _ _ ⟨a3_100, n3_100, c3_100, f3_100, a3_110, n3_110, c3_110, f3_110, a3_120, n3_120, c3_120, f3_120, rfl, rfl⟩
  refine sp (OpV.move rfl) ?_
  refine sp (OpV.extract rfl rfl) ?_
  refine sp (OpV.extract rfl rfl) ?_
  refine sp (OpV.extract rfl rfl) ?_
  refine WL.heavy rfl rfl rfl (OpH.alloc zc_36 ?_)
  intro b3_6
  refine WL.heavy0 rfl rfl (OpH.storeTo (A := []) [_, _, _, _, _, _, _, _, _, _, _, _] rfl rfl rfl ts_36 rfl rfl rfl ?_)
  refine sp (OpV.assign rfl) ?_
  refine sp (OpV.assign rfl) ?_
  refine WL.nil (En.next (WC.seq ?_))
  obtain ⟨x4_1, e4_1, h⟩ := bnd h
  refine WC.region ?_
  refine sp (OpV.loadAll rfl (.head _) ag_36) ?_
  refine sp (OpV.call (evs.cons rfl (evs.nil)) ca_19 (fun w hs => w_impl_LongFrame e4_1 (Ow.rd (hs.mem (.tail _ (.head _)))))) ?_
  refine sp (OpV.mulR rfl rfl) ?_
  refine sp (OpV.assign rfl) ?_
  refine WL.nil (En.next (WC.seq (WC.region ?_)))
  refine WL.heavy rfl rfl rfl (OpH.lit0 (A := tBool) (evps.nil) bs_37_0_ ?_)
  intro b5_0
  refine sp (OpV.assign rfl) ?_
  refine WL.nil (En.next (WC.seq (WC.region ?_)))
  refine WL.heavy rfl rfl rfl (OpH.lit0 (A := tBool) (evps.nil) bs_37_0_ ?_)
  intro b6_0
  refine sp (OpV.assign rfl) ?_
  refine WL.nil (En.next (WC.seq (WC.seq (WC.region ?_))))
  refine sp (OpV.assign rfl) ?_
  refine WL.nil (En.next (WC.block ?_))
  obtain ⟨zy0, ezy0, h⟩ := bnd h
  refine WC.cut (X := ((List Bool) × (List Bool)) × ((Option Addr) × Nat × Nat × (List Nat) × (Option Addr) × Nat × Nat × (List Nat))) (.exit 0) (fun x => zy0 = x.1) (fun x => match x with | ((v_0e, v1_0e), (av_0e, nv_0e, cv_0e, fv_0e, av1_0e, nv1_0e, cv1_0e, fv1_0e)) => [(3, .pointer (some ⟨b3_6, 0, .none⟩)), (7, .slice av_0e nv_0e cv_0e), (8, .slice av1_0e nv1_0e cv1_0e)]) (fun x => match x with | ((v_0e, v1_0e), (av_0e, nv_0e, cv_0e, fv_0e, av1_0e, nv1_0e, cv1_0e, fv1_0e)) => [Chunk.box b3_6 36 [.int .i64 x3_1a.Mode.Clock, .int .i64 x3_1a.Mode.W, .int .i64 x3_1a.Mode.HFront, .int .i64 x3_1a.Mode.HSync, .int .i64 x3_1a.Mode.HBack, .int .i64 x3_1a.Mode.H, .int .i64 x3_1a.Mode.VFront, .int .i64 x3_1a.Mode.VSync, .int .i64 x3_1a.Mode.VBack, .int .i64 x3_1a.Stretch, .int .i64 x3_1a.Lines, .slice a3_100 n3_100 c3_100], Chunk.own tInt f3_100 a3_100 n3_100 c3_100 x3_1a.Frames, Chunk.own tBool fv_0e av_0e nv_0e cv_0e v_0e, Chunk.own tBool fv1_0e av1_0e nv1_0e cv1_0e v1_0e]) ?_ ?_
  ·
   rintro ⟨⟨v_0e, v1_0e⟩, ⟨av_0e, nv_0e, cv_0e, fv_0e, av1_0e, nv1_0e, cv1_0e, fv1_0e⟩⟩ hx
   replace hx : (v_0e, v1_0e) = zy0 := hx.symm
   subst hx
   show En _ _ _ _ [(3, .pointer (some ⟨b3_6, 0, .none⟩)), (7, .slice av_0e nv_0e cv_0e), (8, .slice av1_0e nv1_0e cv1_0e)] [Chunk.box b3_6 36 [.int .i64 x3_1a.Mode.Clock, .int .i64 x3_1a.Mode.W, .int .i64 x3_1a.Mode.HFront, .int .i64 x3_1a.Mode.HSync, .int .i64 x3_1a.Mode.HBack, .int .i64 x3_1a.Mode.H, .int .i64 x3_1a.Mode.VFront, .int .i64 x3_1a.Mode.VSync, .int .i64 x3_1a.Mode.VBack, .int .i64 x3_1a.Stretch, .int .i64 x3_1a.Lines, .slice a3_100 n3_100 c3_100], Chunk.own tInt f3_100 a3_100 n3_100 c3_100 x3_1a.Frames, Chunk.own tBool fv_0e av_0e nv_0e cv_0e v_0e, Chunk.own tBool fv1_0e av1_0e nv1_0e cv1_0e v1_0e]
   refine En.block_exit (En.next (WC.seq ?_))
   obtain ⟨⟨x12_3a, x12_3b⟩, e12_3, h⟩ := bnd h
   refine WC.region ?_
   refine sp (OpV.loadAll rfl (.head _) ag_36) ?_
   refine sp (OpV.move rfl) ?_
   refine sp (OpV.move rfl) ?_
   refine WL.heavy rfl rfl rfl (OpH.callR (evs.cons rfl (evs.cons rfl (evs.cons rfl (evs.nil)))) ca_20 (fun w hs => w_impl_RunPace e12_3 (Ow.rd (hs.mem (.tail _ (.head _)))) (Ow.rd (hs.mem (.tail _ (.tail _ (.head _))))) (Ow.rd (hs.mem (.tail _ (.tail _ (.head _)))))) ?_)
   rintro _ _ ⟨a12_300, n12_300, c12_300, f12_300, rfl, rfl⟩
   refine sp (OpV.move rfl) ?_
   refine sp (OpV.extract rfl rfl) ?_
   refine sp (OpV.extract rfl rfl) ?_
   refine WL.heavy rfl rfl rfl (OpH.alloc zc_36 ?_)
   intro b12_7
   refine WL.heavy0 rfl rfl (OpH.storeTo (A := []) [_, _, _, _, _, _, _, _, _, _, _, _] rfl rfl rfl ts_36 rfl rfl rfl ?_)
   refine sp (OpV.assign rfl) ?_
   refine WL.nil (En.next (WC.seq ?_))
   obtain ⟨⟨x13_3a, x13_3b⟩, e13_3, h⟩ := bnd h
   refine WC.region ?_
   refine sp (OpV.loadAll rfl (.tail _ (.tail _ (.head _))) ag_36) ?_
   refine sp (OpV.move rfl) ?_
   refine sp (OpV.move rfl) ?_
   refine WL.heavy rfl rfl rfl (OpH.callR (evs.cons rfl (evs.cons rfl (evs.cons rfl (evs.nil)))) ca_20 (fun w hs => w_impl_RunPace e13_3 (Ow.rd (hs.mem (.tail _ (.tail _ (.tail _ (.head _)))))) (Ow.rd (hs.mem (.tail _ (.tail _ (.tail _ (.tail _ (.tail _ (.head _)))))))) (Ow.rd (hs.mem (.tail _ (.tail _ (.tail _ (.tail _ (.tail _ (.head _))))))))) ?_)
   rintro _ _ ⟨a13_300, n13_300, c13_300, f13_300, rfl, rfl⟩
   refine sp (OpV.move rfl) ?_
   refine sp (OpV.extract rfl rfl) ?_
   refine sp (OpV.extract rfl rfl) ?_
   refine WL.heavy rfl rfl rfl (OpH.alloc zc_36 ?_)
   intro b13_7
   refine WL.heavy0 rfl rfl (OpH.storeTo (A := []) [_, _, _, _, _, _, _, _, _, _, _, _] rfl rfl rfl ts_36 rfl rfl rfl ?_)
   refine sp (OpV.assign rfl) ?_
   refine WL.nil (En.next (WC.seq ?_))
   obtain ⟨⟨x14_3a, x14_3b⟩, e14_3, h⟩ := bnd h
   refine WC.region ?_
   refine sp (OpV.loadAll rfl (.tail _ (.tail _ (.tail _ (.tail _ (.head _))))) ag_36) ?_
   refine sp (OpV.move rfl) ?_
   refine sp (OpV.move rfl) ?_
   refine WL.heavy rfl rfl rfl (OpH.callR (evs.cons rfl (evs.cons rfl (evs.cons rfl (evs.nil)))) ca_20 (fun w hs => w_impl_RunPace e14_3 (Ow.rd (hs.mem (.tail _ (.tail _ (.tail _ (.tail _ (.tail _ (.head _)))))))) (Ow.rd (hs.mem (.tail _ (.tail _ (.tail _ (.tail _ (.tail _ (.tail _ (.tail _ (.head _)))))))))) (Ow.rd (hs.mem (.tail _ (.tail _ (.tail _ (.tail _ (.tail _ (.tail _ (.head _)))))))))) ?_)
   rintro _ _ ⟨a14_300, n14_300, c14_300, f14_300, rfl, rfl⟩
   refine sp (OpV.move rfl) ?_
   refine sp (OpV.extract rfl rfl) ?_
   refine sp (OpV.extract rfl rfl) ?_
   refine WL.heavy rfl rfl rfl (OpH.alloc zc_36 ?_)
   intro b14_7
   refine WL.heavy0 rfl rfl (OpH.storeTo (A := []) [_, _, _, _, _, _, _, _, _, _, _, _] rfl rfl rfl ts_36 rfl rfl rfl ?_)
   refine sp (OpV.assign rfl) ?_
   refine WL.nil (En.next (WC.seq (WC.seq (WC.region ?_))))
   refine sp (OpV.assign rfl) ?_
   refine WL.nil (En.next (WC.block ?_))
   obtain ⟨zy1, ezy1, h⟩ := bnd h
   refine WC.cut (X := (Unit) × (Unit)) (.exit 2) (fun x => zy1 = .inl x.1) (fun x => match x with | ((), ()) => [(3, .pointer (some ⟨b3_6, 0, .none⟩)), (10, .pointer (some ⟨b12_7, 0, .none⟩)), (14, .pointer (some ⟨b14_7, 0, .none⟩))]) (fun x => match x with | ((), ()) => [Chunk.box b3_6 36 [.int .i64 x3_1a.Mode.Clock, .int .i64 x3_1a.Mode.W, .int .i64 x3_1a.Mode.HFront, .int .i64 x3_1a.Mode.HSync, .int .i64 x3_1a.Mode.HBack, .int .i64 x3_1a.Mode.H, .int .i64 x3_1a.Mode.VFront, .int .i64 x3_1a.Mode.VSync, .int .i64 x3_1a.Mode.VBack, .int .i64 x3_1a.Stretch, .int .i64 x3_1a.Lines, .slice a3_100 n3_100 c3_100], Chunk.own tInt f3_100 a3_100 n3_100 c3_100 x3_1a.Frames, Chunk.box b12_7 36 [.int .i64 x12_3a.Mode.Clock, .int .i64 x12_3a.Mode.W, .int .i64 x12_3a.Mode.HFront, .int .i64 x12_3a.Mode.HSync, .int .i64 x12_3a.Mode.HBack, .int .i64 x12_3a.Mode.H, .int .i64 x12_3a.Mode.VFront, .int .i64 x12_3a.Mode.VSync, .int .i64 x12_3a.Mode.VBack, .int .i64 x12_3a.Stretch, .int .i64 x12_3a.Lines, .slice a12_300 n12_300 c12_300], Chunk.own tInt f12_300 a12_300 n12_300 c12_300 x12_3a.Frames, Chunk.box b14_7 36 [.int .i64 x14_3a.Mode.Clock, .int .i64 x14_3a.Mode.W, .int .i64 x14_3a.Mode.HFront, .int .i64 x14_3a.Mode.HSync, .int .i64 x14_3a.Mode.HBack, .int .i64 x14_3a.Mode.H, .int .i64 x14_3a.Mode.VFront, .int .i64 x14_3a.Mode.VSync, .int .i64 x14_3a.Mode.VBack, .int .i64 x14_3a.Stretch, .int .i64 x14_3a.Lines, .slice a14_300 n14_300 c14_300], Chunk.own tInt f14_300 a14_300 n14_300 c14_300 x14_3a.Frames]) ?_ ?_
   ·
    rintro ⟨⟨⟩, ⟨⟩⟩ hx
    replace hx : .inl () = zy1 := hx.symm
    subst hx
    replace h := fork_l h
    show En _ _ _ _ [(3, .pointer (some ⟨b3_6, 0, .none⟩)), (10, .pointer (some ⟨b12_7, 0, .none⟩)), (14, .pointer (some ⟨b14_7, 0, .none⟩))] [Chunk.box b3_6 36 [.int .i64 x3_1a.Mode.Clock, .int .i64 x3_1a.Mode.W, .int .i64 x3_1a.Mode.HFront, .int .i64 x3_1a.Mode.HSync, .int .i64 x3_1a.Mode.HBack, .int .i64 x3_1a.Mode.H, .int .i64 x3_1a.Mode.VFront, .int .i64 x3_1a.Mode.VSync, .int .i64 x3_1a.Mode.VBack, .int .i64 x3_1a.Stretch, .int .i64 x3_1a.Lines, .slice a3_100 n3_100 c3_100], Chunk.own tInt f3_100 a3_100 n3_100 c3_100 x3_1a.Frames, Chunk.box b12_7 36 [.int .i64 x12_3a.Mode.Clock, .int .i64 x12_3a.Mode.W, .int .i64 x12_3a.Mode.HFront, .int .i64 x12_3a.Mode.HSync, .int .i64 x12_3a.Mode.HBack, .int .i64 x12_3a.Mode.H, .int .i64 x12_3a.Mode.VFront, .int .i64 x12_3a.Mode.VSync, .int .i64 x12_3a.Mode.VBack, .int .i64 x12_3a.Stretch, .int .i64 x12_3a.Lines, .slice a12_300 n12_300 c12_300], Chunk.own tInt f12_300 a12_300 n12_300 c12_300 x12_3a.Frames, Chunk.box b14_7 36 [.int .i64 x14_3a.Mode.Clock, .int .i64 x14_3a.Mode.W, .int .i64 x14_3a.Mode.HFront, .int .i64 x14_3a.Mode.HSync, .int .i64 x14_3a.Mode.HBack, .int .i64 x14_3a.Mode.H, .int .i64 x14_3a.Mode.VFront, .int .i64 x14_3a.Mode.VSync, .int .i64 x14_3a.Mode.VBack, .int .i64 x14_3a.Stretch, .int .i64 x14_3a.Lines, .slice a14_300 n14_300 c14_300], Chunk.own tInt f14_300 a14_300 n14_300 c14_300 x14_3a.Frames]
    refine En.block_exit (En.next (WC.seq (WC.seq (WC.region ?_))))
    refine sp (OpV.assign rfl) ?_
    refine WL.nil (En.next (WC.block ?_))
    obtain ⟨zy2, ezy2, h⟩ := bnd h
    refine WC.cut (X := (Unit) × (Unit)) (.exit 4) (fun x => zy2 = .inl x.1) (fun x => match x with | ((), ()) => [(10, .pointer (some ⟨b12_7, 0, .none⟩)), (14, .pointer (some ⟨b14_7, 0, .none⟩))]) (fun x => match x with | ((), ()) => [Chunk.box b12_7 36 [.int .i64 x12_3a.Mode.Clock, .int .i64 x12_3a.Mode.W, .int .i64 x12_3a.Mode.HFront, .int .i64 x12_3a.Mode.HSync, .int .i64 x12_3a.Mode.HBack, .int .i64 x12_3a.Mode.H, .int .i64 x12_3a.Mode.VFront, .int .i64 x12_3a.Mode.VSync, .int .i64 x12_3a.Mode.VBack, .int .i64 x12_3a.Stretch, .int .i64 x12_3a.Lines, .slice a12_300 n12_300 c12_300], Chunk.own tInt f12_300 a12_300 n12_300 c12_300 x12_3a.Frames, Chunk.box b14_7 36 [.int .i64 x14_3a.Mode.Clock, .int .i64 x14_3a.Mode.W, .int .i64 x14_3a.Mode.HFront, .int .i64 x14_3a.Mode.HSync, .int .i64 x14_3a.Mode.HBack, .int .i64 x14_3a.Mode.H, .int .i64 x14_3a.Mode.VFront, .int .i64 x14_3a.Mode.VSync, .int .i64 x14_3a.Mode.VBack, .int .i64 x14_3a.Stretch, .int .i64 x14_3a.Lines, .slice a14_300 n14_300 c14_300], Chunk.own tInt f14_300 a14_300 n14_300 c14_300 x14_3a.Frames]) ?_ ?_
    ·
     rintro ⟨⟨⟩, ⟨⟩⟩ hx
     replace hx : .inl () = zy2 := hx.symm
     subst hx
     replace h := fork_l h
     show En _ _ _ _ [(10, .pointer (some ⟨b12_7, 0, .none⟩)), (14, .pointer (some ⟨b14_7, 0, .none⟩))] [Chunk.box b12_7 36 [.int .i64 x12_3a.Mode.Clock, .int .i64 x12_3a.Mode.W, .int .i64 x12_3a.Mode.HFront, .int .i64 x12_3a.Mode.HSync, .int .i64 x12_3a.Mode.HBack, .int .i64 x12_3a.Mode.H, .int .i64 x12_3a.Mode.VFront, .int .i64 x12_3a.Mode.VSync, .int .i64 x12_3a.Mode.VBack, .int .i64 x12_3a.Stretch, .int .i64 x12_3a.Lines, .slice a12_300 n12_300 c12_300], Chunk.own tInt f12_300 a12_300 n12_300 c12_300 x12_3a.Frames, Chunk.box b14_7 36 [.int .i64 x14_3a.Mode.Clock, .int .i64 x14_3a.Mode.W, .int .i64 x14_3a.Mode.HFront, .int .i64 x14_3a.Mode.HSync, .int .i64 x14_3a.Mode.HBack, .int .i64 x14_3a.Mode.H, .int .i64 x14_3a.Mode.VFront, .int .i64 x14_3a.Mode.VSync, .int .i64 x14_3a.Mode.VBack, .int .i64 x14_3a.Stretch, .int .i64 x14_3a.Lines, .slice a14_300 n14_300 c14_300], Chunk.own tInt f14_300 a14_300 n14_300 c14_300 x14_3a.Frames]
     refine En.block_exit (En.next (WC.seq (WC.region ?_)))
     refine sp (OpV.fieldAddr rfl fo_36_3) ?_
     refine sp (OpV.loadBox rfl pt_34 (.tail _ (.tail _ (.head _))) rfl) ?_
     refine sp (OpV.inhF fun hin => OpV.lenO (xs := x14_3a.Frames) rfl si_34 rfl (ownLen hin (.tail _ (.tail _ (.tail _ (.head _)))))) ?_
     refine sp (OpV.eql rfl rfl) ?_
     refine sp (OpV.move rfl) ?_
     refine Lt.ofWL.and 109 114 113 (p := ?pz1) (rest := ?qz1) (B := ?Bz1) rfl ?Tz1 ?Fz1 ?az1 ?bz1 ?cz1 ?dz1 ?ez1
     case Tz1 =>
      intro hcz1 hkz1
      refine sp (OpV.fieldAddr rfl fo_36_3) ?_
      refine sp (OpV.loadBox rfl pt_34 (.head _) rfl) ?_
      refine sp (OpV.inhF fun hin => OpV.lenO (xs := x12_3a.Frames) rfl si_34 rfl (ownLen hin (.tail _ (.head _)))) ?_
      refine sp (OpV.geq rfl rfl) ?_
      refine hkz1 _ ?_ ?_
      exact rfl
      repeat (first | exact Sub.refl _ | refine Sub.skip rfl ?_)
     case Fz1 =>
      intro hcz1 hkz1
      refine sk ?_
      refine sk ?_
      refine sk ?_
      refine sk ?_
      refine hkz1 _ ?_
      repeat (first | exact Sub.refl _ | refine Sub.skip rfl ?_)
     case az1 => exact rfl
     case bz1 => exact rfl
     case cz1 => exact rfl
     case dz1 => exact rfl
     refine sp (OpV.assign rfl) ?_
     refine WL.nil (En.next (WC.ret ?_))
     refine En.ret1 rfl (Res.tmp rfl) ?_
     obtain rfl := Option.some.inj h
     intro w' hs
     exact ⟨rfl, hs.below⟩
    ·
     intro zK2_0
     refine WC.loopP (G := Unit) (fun s g => match s, g with | v_2, () => [(3, .pointer (some ⟨b3_6, 0, .none⟩)), (10, .pointer (some ⟨b12_7, 0, .none⟩)), (14, .pointer (some ⟨b14_7, 0, .none⟩)), (17, .int .i64 v_2)]) (fun s g => match s, g with | v_2, () => [Chunk.box b3_6 36 [.int .i64 x3_1a.Mode.Clock, .int .i64 x3_1a.Mode.W, .int .i64 x3_1a.Mode.HFront, .int .i64 x3_1a.Mode.HSync, .int .i64 x3_1a.Mode.HBack, .int .i64 x3_1a.Mode.H, .int .i64 x3_1a.Mode.VFront, .int .i64 x3_1a.Mode.VSync, .int .i64 x3_1a.Mode.VBack, .int .i64 x3_1a.Stretch, .int .i64 x3_1a.Lines, .slice a3_100 n3_100 c3_100], Chunk.own tInt f3_100 a3_100 n3_100 c3_100 x3_1a.Frames, Chunk.box b12_7 36 [.int .i64 x12_3a.Mode.Clock, .int .i64 x12_3a.Mode.W, .int .i64 x12_3a.Mode.HFront, .int .i64 x12_3a.Mode.HSync, .int .i64 x12_3a.Mode.HBack, .int .i64 x12_3a.Mode.H, .int .i64 x12_3a.Mode.VFront, .int .i64 x12_3a.Mode.VSync, .int .i64 x12_3a.Mode.VBack, .int .i64 x12_3a.Stretch, .int .i64 x12_3a.Lines, .slice a12_300 n12_300 c12_300], Chunk.own tInt f12_300 a12_300 n12_300 c12_300 x12_3a.Frames, Chunk.box b14_7 36 [.int .i64 x14_3a.Mode.Clock, .int .i64 x14_3a.Mode.W, .int .i64 x14_3a.Mode.HFront, .int .i64 x14_3a.Mode.HSync, .int .i64 x14_3a.Mode.HBack, .int .i64 x14_3a.Mode.H, .int .i64 x14_3a.Mode.VFront, .int .i64 x14_3a.Mode.VSync, .int .i64 x14_3a.Mode.VBack, .int .i64 x14_3a.Stretch, .int .i64 x14_3a.Lines, .slice a14_300 n14_300 c14_300], Chunk.own tInt f14_300 a14_300 n14_300 c14_300 x14_3a.Frames]) 0 () ezy2 (by exact Sub.cons rfl (Sub.cons rfl (Sub.cons rfl (Sub.cons rfl (Sub.nil _))))) (by exact (fun _ h => h)) ?_
     rintro zm2 v_2 ⟨⟩ zo2 zf2 zb2 ze2
     have zh2 : laws_FnPaceReady_L2 x3_1a x14_3a v_2 = some zo2 := zf2
     unfold laws_FnPaceReady_L2 at zh2
     show WC _ _ _ _ _ [(3, .pointer (some ⟨b3_6, 0, .none⟩)), (10, .pointer (some ⟨b12_7, 0, .none⟩)), (14, .pointer (some ⟨b14_7, 0, .none⟩)), (17, .int .i64 v_2)] [Chunk.box b3_6 36 [.int .i64 x3_1a.Mode.Clock, .int .i64 x3_1a.Mode.W, .int .i64 x3_1a.Mode.HFront, .int .i64 x3_1a.Mode.HSync, .int .i64 x3_1a.Mode.HBack, .int .i64 x3_1a.Mode.H, .int .i64 x3_1a.Mode.VFront, .int .i64 x3_1a.Mode.VSync, .int .i64 x3_1a.Mode.VBack, .int .i64 x3_1a.Stretch, .int .i64 x3_1a.Lines, .slice a3_100 n3_100 c3_100], Chunk.own tInt f3_100 a3_100 n3_100 c3_100 x3_1a.Frames, Chunk.box b12_7 36 [.int .i64 x12_3a.Mode.Clock, .int .i64 x12_3a.Mode.W, .int .i64 x12_3a.Mode.HFront, .int .i64 x12_3a.Mode.HSync, .int .i64 x12_3a.Mode.HBack, .int .i64 x12_3a.Mode.H, .int .i64 x12_3a.Mode.VFront, .int .i64 x12_3a.Mode.VSync, .int .i64 x12_3a.Mode.VBack, .int .i64 x12_3a.Stretch, .int .i64 x12_3a.Lines, .slice a12_300 n12_300 c12_300], Chunk.own tInt f12_300 a12_300 n12_300 c12_300 x12_3a.Frames, Chunk.box b14_7 36 [.int .i64 x14_3a.Mode.Clock, .int .i64 x14_3a.Mode.W, .int .i64 x14_3a.Mode.HFront, .int .i64 x14_3a.Mode.HSync, .int .i64 x14_3a.Mode.HBack, .int .i64 x14_3a.Mode.H, .int .i64 x14_3a.Mode.VFront, .int .i64 x14_3a.Mode.VSync, .int .i64 x14_3a.Mode.VBack, .int .i64 x14_3a.Stretch, .int .i64 x14_3a.Lines, .slice a14_300 n14_300 c14_300], Chunk.own tInt f14_300 a14_300 n14_300 c14_300 x14_3a.Frames]
     refine WC.seq (WC.seq (WC.region ?_))
     refine sp (OpV.move rfl) ?_
     refine sp (OpV.fieldAddr rfl fo_36_3) ?_
     refine sp (OpV.loadBox rfl pt_34 (.tail _ (.tail _ (.tail _ (.tail _ (.head _))))) rfl) ?_
     refine sp (OpV.inhF fun hin => OpV.lenO (xs := x14_3a.Frames) rfl si_34 rfl (ownLen hin (.tail _ (.tail _ (.tail _ (.tail _ (.tail _ (.head _)))))))) ?_
     refine sp (OpV.lss rfl rfl) ?_
     refine WL.nil (En.next ?_)
     refine WC.cond rfl ?_ ?_
     ·
      intro hc_2
      replace zh2 := ifO_t hc_2 zh2
      refine WC.skip (En.next (WC.seq (WC.block (WC.seq ?_))))
      refine WC.inh fun hin23 => ?_
      obtain ⟨x23_3, e23_3, zh2⟩ := bnd zh2
      obtain ⟨g23_3, o23_3, ha23_3⟩ := ownAddr hin23 (.tail _ (.tail _ (.tail _ (.tail _ (.tail _ (.head _)))))) e23_3
      have hn23_3 := ownLen hin23 (.tail _ (.tail _ (.tail _ (.tail _ (.tail _ (.head _))))))
      obtain ⟨x23_6, e23_6, zh2⟩ := bnd zh2
      refine WC.drawn [(3, ?r23v3), (10, ?r23v10), (14, ?r23v14), (17, ?r23v17), (104, ?r23v104)] (by kernel_rfl) (by kernel_rfl) ?dH23 ?dK23
      case dH23 =>
       intro W hW hk
       refine hW.step rfl rfl rfl (OpV.fieldAddr rfl fo_36_3) ?_
       refine hW.step rfl rfl rfl (OpV.loadBox rfl pt_34 (.tail _ (.tail _ (.tail _ (.tail _ (.head _))))) rfl) ?_
       refine hW.step rfl rfl rfl (OpV.move rfl) ?_
       refine hW.step rfl rfl rfl (OpV.idxA rfl rfl se_34 ha23_3 ⟨(idx_some e23_3).1, by rw [hn23_3]; exact (idx_some e23_3).2.1⟩) ?_
       refine hW.step rfl rfl rfl (OpV.load1 rfl pt_3 (fun w hs => Rd.cell1 tInt_flat (Ow.rd (hs.mem (.tail _ (.tail _ (.tail _ (.tail _ (.tail _ (.head _)))))))) e23_3 ha23_3 rfl)) ?_
       refine hW.step rfl rfl rfl (OpV.loadAll rfl (.head _) ag_36) ?_
       refine hW.step rfl rfl rfl (OpV.call (evs.cons rfl (evs.nil)) ca_19 (fun w hs => w_impl_LongFrame e23_6 (Ow.rd (hs.mem (.tail _ (.head _)))))) ?_
       refine hW.step rfl rfl rfl (OpV.neq rfl rfl) ?_
       refine hk _ ?_
       refine Sub.cons ?_ (Sub.cons ?_ (Sub.cons ?_ (Sub.cons ?_ (Sub.cons ?_ (Sub.nil _)))))
       all_goals exact rfl
      refine En.next ?_
      refine WC.cond rfl ?_ ?_
      ·
       intro hc_3
       replace zh2 := ifO_t hc_3 zh2
       refine WC.seq (WC.region ?_)
       refine sp (OpV.assign rfl) ?_
       refine WL.nil (En.next (WC.ret (En.block_ret (En.then_ret (En.then_ret (En.block_ret (En.then_ret ?_)))))))
       refine En.ret1 rfl (Res.tmp rfl) ?_
       have hx := exitP ze2 zh2
       subst hx
       replace h := fork_r h
       obtain rfl := Option.some.inj h
       intro w' hs
       exact ⟨rfl, hs.below⟩
      ·
       intro hc_3
       replace zh2 := ifO_f hc_3 zh2
       refine WC.skip (En.block_norm (En.next (WC.region ?_)))
       refine sp (OpV.move rfl) ?_
       refine sp (OpV.addR rfl rfl) ?_
       refine sp (OpV.assign rfl) ?_
       refine WL.nil ?_
       exact En.backP zb2 zh2 () (Sub.cons rfl (Sub.cons rfl (Sub.cons rfl (Sub.cons rfl (Sub.nil _))))) (fun _ h => h)
     ·
      intro hc_2
      replace zh2 := ifO_f hc_2 zh2
      refine WC.exit (En.then_exit (En.then_exit ?_))
      have hx := exitP ze2 zh2
      exact En.wk _ _ (Sub.cons rfl (Sub.cons rfl (Sub.nil _))) (fun _ h => (((((h).perm (List.perm_middle (l₁ := [_, _, _, _, _]))).perm (List.perm_middle (l₁ := [_, _, _, _, _]))).perm (List.perm_middle (l₁ := [_, _, _, _, _]))).perm (List.perm_middle (l₁ := [_, _, _, _, _]))).sub (.cons_cons _ (.cons_cons _ (.cons_cons _ (.cons_cons _ (.cons _ (.cons _ (.slnil)))))))) (zK2_0 ((), ()) hx.symm)
   ·
    intro zK1_0
    refine WC.loopP (G := Unit) (fun s g => match s, g with | v_1, () => [(3, .pointer (some ⟨b3_6, 0, .none⟩)), (10, .pointer (some ⟨b12_7, 0, .none⟩)), (12, .pointer (some ⟨b13_7, 0, .none⟩)), (14, .pointer (some ⟨b14_7, 0, .none⟩)), (16, .int .i64 v_1)]) (fun s g => match s, g with | v_1, () => [Chunk.box b3_6 36 [.int .i64 x3_1a.Mode.Clock, .int .i64 x3_1a.Mode.W, .int .i64 x3_1a.Mode.HFront, .int .i64 x3_1a.Mode.HSync, .int .i64 x3_1a.Mode.HBack, .int .i64 x3_1a.Mode.H, .int .i64 x3_1a.Mode.VFront, .int .i64 x3_1a.Mode.VSync, .int .i64 x3_1a.Mode.VBack, .int .i64 x3_1a.Stretch, .int .i64 x3_1a.Lines, .slice a3_100 n3_100 c3_100], Chunk.own tInt f3_100 a3_100 n3_100 c3_100 x3_1a.Frames, Chunk.box b12_7 36 [.int .i64 x12_3a.Mode.Clock, .int .i64 x12_3a.Mode.W, .int .i64 x12_3a.Mode.HFront, .int .i64 x12_3a.Mode.HSync, .int .i64 x12_3a.Mode.HBack, .int .i64 x12_3a.Mode.H, .int .i64 x12_3a.Mode.VFront, .int .i64 x12_3a.Mode.VSync, .int .i64 x12_3a.Mode.VBack, .int .i64 x12_3a.Stretch, .int .i64 x12_3a.Lines, .slice a12_300 n12_300 c12_300], Chunk.own tInt f12_300 a12_300 n12_300 c12_300 x12_3a.Frames, Chunk.box b13_7 36 [.int .i64 x13_3a.Mode.Clock, .int .i64 x13_3a.Mode.W, .int .i64 x13_3a.Mode.HFront, .int .i64 x13_3a.Mode.HSync, .int .i64 x13_3a.Mode.HBack, .int .i64 x13_3a.Mode.H, .int .i64 x13_3a.Mode.VFront, .int .i64 x13_3a.Mode.VSync, .int .i64 x13_3a.Mode.VBack, .int .i64 x13_3a.Stretch, .int .i64 x13_3a.Lines, .slice a13_300 n13_300 c13_300], Chunk.own tInt f13_300 a13_300 n13_300 c13_300 x13_3a.Frames, Chunk.box b14_7 36 [.int .i64 x14_3a.Mode.Clock, .int .i64 x14_3a.Mode.W, .int .i64 x14_3a.Mode.HFront, .int .i64 x14_3a.Mode.HSync, .int .i64 x14_3a.Mode.HBack, .int .i64 x14_3a.Mode.H, .int .i64 x14_3a.Mode.VFront, .int .i64 x14_3a.Mode.VSync, .int .i64 x14_3a.Mode.VBack, .int .i64 x14_3a.Stretch, .int .i64 x14_3a.Lines, .slice a14_300 n14_300 c14_300], Chunk.own tInt f14_300 a14_300 n14_300 c14_300 x14_3a.Frames]) 0 () ezy1 (by exact Sub.cons rfl (Sub.cons rfl (Sub.cons rfl (Sub.cons rfl (Sub.cons rfl (Sub.nil _)))))) (by exact (fun _ h => (((((((((h).perm (List.perm_middle (l₁ := [_]))).perm (List.perm_middle (l₁ := [_]))).perm (List.perm_middle (l₁ := [_, _, _]))).perm (List.perm_middle (l₁ := [_, _, _]))).perm (List.perm_middle (l₁ := [_, _, _, _, _]))).perm (List.perm_middle (l₁ := [_, _, _, _, _]))).perm (List.perm_middle (l₁ := [_, _, _, _, _, _, _]))).perm (List.perm_middle (l₁ := [_, _, _, _, _, _, _]))).sub (.cons_cons _ (.cons_cons _ (.cons_cons _ (.cons_cons _ (.cons_cons _ (.cons_cons _ (.cons_cons _ (.cons_cons _ (.cons _ (.cons _ (.slnil))))))))))))) ?_
    rintro zm1 v_1 ⟨⟩ zo1 zf1 zb1 ze1
    have zh1 : laws_FnPaceReady_L1 x3_1a x12_3a x13_3a v_1 = some zo1 := zf1
    unfold laws_FnPaceReady_L1 at zh1
    show WC _ _ _ _ _ [(3, .pointer (some ⟨b3_6, 0, .none⟩)), (10, .pointer (some ⟨b12_7, 0, .none⟩)), (12, .pointer (some ⟨b13_7, 0, .none⟩)), (14, .pointer (some ⟨b14_7, 0, .none⟩)), (16, .int .i64 v_1)] [Chunk.box b3_6 36 [.int .i64 x3_1a.Mode.Clock, .int .i64 x3_1a.Mode.W, .int .i64 x3_1a.Mode.HFront, .int .i64 x3_1a.Mode.HSync, .int .i64 x3_1a.Mode.HBack, .int .i64 x3_1a.Mode.H, .int .i64 x3_1a.Mode.VFront, .int .i64 x3_1a.Mode.VSync, .int .i64 x3_1a.Mode.VBack, .int .i64 x3_1a.Stretch, .int .i64 x3_1a.Lines, .slice a3_100 n3_100 c3_100], Chunk.own tInt f3_100 a3_100 n3_100 c3_100 x3_1a.Frames, Chunk.box b12_7 36 [.int .i64 x12_3a.Mode.Clock, .int .i64 x12_3a.Mode.W, .int .i64 x12_3a.Mode.HFront, .int .i64 x12_3a.Mode.HSync, .int .i64 x12_3a.Mode.HBack, .int .i64 x12_3a.Mode.H, .int .i64 x12_3a.Mode.VFront, .int .i64 x12_3a.Mode.VSync, .int .i64 x12_3a.Mode.VBack, .int .i64 x12_3a.Stretch, .int .i64 x12_3a.Lines, .slice a12_300 n12_300 c12_300], Chunk.own tInt f12_300 a12_300 n12_300 c12_300 x12_3a.Frames, Chunk.box b13_7 36 [.int .i64 x13_3a.Mode.Clock, .int .i64 x13_3a.Mode.W, .int .i64 x13_3a.Mode.HFront, .int .i64 x13_3a.Mode.HSync, .int .i64 x13_3a.Mode.HBack, .int .i64 x13_3a.Mode.H, .int .i64 x13_3a.Mode.VFront, .int .i64 x13_3a.Mode.VSync, .int .i64 x13_3a.Mode.VBack, .int .i64 x13_3a.Stretch, .int .i64 x13_3a.Lines, .slice a13_300 n13_300 c13_300], Chunk.own tInt f13_300 a13_300 n13_300 c13_300 x13_3a.Frames, Chunk.box b14_7 36 [.int .i64 x14_3a.Mode.Clock, .int .i64 x14_3a.Mode.W, .int .i64 x14_3a.Mode.HFront, .int .i64 x14_3a.Mode.HSync, .int .i64 x14_3a.Mode.HBack, .int .i64 x14_3a.Mode.H, .int .i64 x14_3a.Mode.VFront, .int .i64 x14_3a.Mode.VSync, .int .i64 x14_3a.Mode.VBack, .int .i64 x14_3a.Stretch, .int .i64 x14_3a.Lines, .slice a14_300 n14_300 c14_300], Chunk.own tInt f14_300 a14_300 n14_300 c14_300 x14_3a.Frames]
    refine WC.seq (WC.seq (WC.region ?_))
    refine sp (OpV.move rfl) ?_
    refine sp (OpV.fieldAddr rfl fo_36_3) ?_
    refine sp (OpV.loadBox rfl pt_34 (.tail _ (.tail _ (.head _))) rfl) ?_
    refine sp (OpV.inhF fun hin => OpV.lenO (xs := x12_3a.Frames) rfl si_34 rfl (ownLen hin (.tail _ (.tail _ (.tail _ (.head _)))))) ?_
    refine sp (OpV.lss rfl rfl) ?_
    refine WL.nil (En.next ?_)
    refine WC.cond rfl ?_ ?_
    ·
     intro hc_4
     replace zh1 := ifO_t hc_4 zh1
     refine WC.skip (En.next (WC.seq (WC.block (WC.seq ?_))))
     refine WC.inh fun hin18 => ?_
     obtain ⟨x18_3, e18_3, zh1⟩ := bnd zh1
     obtain ⟨g18_3, o18_3, ha18_3⟩ := ownAddr hin18 (.tail _ (.tail _ (.tail _ (.head _)))) e18_3
     have hn18_3 := ownLen hin18 (.tail _ (.tail _ (.tail _ (.head _))))
     obtain ⟨x18_6, e18_6, zh1⟩ := bnd zh1
     obtain ⟨q18_19, e18_19, zh1⟩ := bnd zh1
     refine WC.drawn [(3, ?r18v3), (10, ?r18v10), (12, ?r18v12), (14, ?r18v14), (16, ?r18v16), (89, ?r18v89)] (by kernel_rfl) (by kernel_rfl) ?dH18 ?dK18
     case dH18 =>
      intro W hW hk
      refine hW.step rfl rfl rfl (OpV.fieldAddr rfl fo_36_3) ?_
      refine hW.step rfl rfl rfl (OpV.loadBox rfl pt_34 (.tail _ (.tail _ (.head _))) rfl) ?_
      refine hW.step rfl rfl rfl (OpV.move rfl) ?_
      refine hW.step rfl rfl rfl (OpV.idxA rfl rfl se_34 ha18_3 ⟨(idx_some e18_3).1, by rw [hn18_3]; exact (idx_some e18_3).2.1⟩) ?_
      refine hW.step rfl rfl rfl (OpV.load1 rfl pt_3 (fun w hs => Rd.cell1 tInt_flat (Ow.rd (hs.mem (.tail _ (.tail _ (.tail _ (.head _)))))) e18_3 ha18_3 rfl)) ?_
      refine hW.step rfl rfl rfl (OpV.loadAll rfl (.head _) ag_36) ?_
      refine hW.step rfl rfl rfl (OpV.call (evs.cons rfl (evs.nil)) ca_21 (fun w hs => w_impl_ShortFrame e18_6 (Ow.rd (hs.mem (.tail _ (.head _)))))) ?_
      refine hW.step rfl rfl rfl (OpV.neq rfl rfl) ?_
      refine hW.step rfl rfl rfl (OpV.move rfl) ?_
      refine hW.orQ 78 89 88 (p := ?pz2) (rest := ?qz2) (B := q18_19) rfl (fun hz => orO_t e18_19 hz) ?Tz2 ?Fz2 ?az2 ?bz2 ?cz2 ?dz2 ?ez2
      case Tz2 =>
       intro hcz2 hkz2
       refine hW.skip rfl rfl rfl ?_
       refine hW.skip rfl rfl rfl ?_
       refine hW.skip rfl rfl rfl ?_
       refine hW.skip rfl rfl rfl ?_
       refine hW.skip rfl rfl rfl ?_
       refine hW.skip rfl rfl rfl ?_
       refine hW.skip rfl rfl rfl ?_
       refine hW.skip rfl rfl rfl ?_
       refine hW.skip rfl rfl rfl ?_
       refine hW.skip rfl rfl rfl ?_
       refine hkz2 _ ?_
       repeat (first | exact Sub.refl _ | refine Sub.skip rfl ?_)
      case Fz2 =>
       intro hcz2 hkz2
       have hqz2 := orO_f e18_19 hcz2
       obtain ⟨x18_12, e18_12, hqz2⟩ := bnd hqz2
       obtain ⟨x18_16, e18_16, hqz2⟩ := bnd hqz2
       obtain ⟨g18_16, o18_16, ha18_16⟩ := ownAddr hin18 (.tail _ (.tail _ (.tail _ (.head _)))) e18_16
       have hn18_16 := ownLen hin18 (.tail _ (.tail _ (.tail _ (.head _))))
       obtain rfl := Option.some.inj hqz2
       refine hW.step rfl rfl rfl (OpV.fieldAddr rfl fo_36_3) ?_
       refine hW.step rfl rfl rfl (OpV.loadBox rfl pt_34 (.tail _ (.tail _ (.tail _ (.tail _ (.head _))))) rfl) ?_
       refine hW.step rfl rfl rfl (OpV.move rfl) ?_
       refine hW.step rfl rfl rfl (OpV.call (evs.cons rfl (evs.cons rfl (evs.nil))) ca_22 (fun w hs => w_laws_get e18_12 (Ow.rd (hs.mem (.tail _ (.tail _ (.tail _ (.tail _ (.tail _ (.head _)))))))))) ?_
       refine hW.step rfl rfl rfl (OpV.fieldAddr rfl fo_36_3) ?_
       refine hW.step rfl rfl rfl (OpV.loadBox rfl pt_34 (.tail _ (.tail _ (.head _))) rfl) ?_
       refine hW.step rfl rfl rfl (OpV.move rfl) ?_
       refine hW.step rfl rfl rfl (OpV.idxA rfl rfl se_34 ha18_16 ⟨(idx_some e18_16).1, by rw [hn18_16]; exact (idx_some e18_16).2.1⟩) ?_
       refine hW.step rfl rfl rfl (OpV.load1 rfl pt_3 (fun w hs => Rd.cell1 tInt_flat (Ow.rd (hs.mem (.tail _ (.tail _ (.tail _ (.head _)))))) e18_16 ha18_16 rfl)) ?_
       refine hW.step rfl rfl rfl (OpV.neq rfl rfl) ?_
       refine hkz2 _ ?_ ?_
       exact rfl
       repeat (first | exact Sub.refl _ | refine Sub.skip rfl ?_)
      case az2 => exact rfl
      case bz2 => exact rfl
      case cz2 => exact rfl
      case dz2 => exact rfl
      refine hk _ ?_
      refine Sub.cons ?_ (Sub.cons ?_ (Sub.cons ?_ (Sub.cons ?_ (Sub.cons ?_ (Sub.cons ?_ (Sub.nil _))))))
      all_goals exact rfl
     refine En.next ?_
     refine WC.cond rfl ?_ ?_
     ·
      intro hc_5
      replace zh1 := ifO_t hc_5 zh1
      refine WC.seq (WC.region ?_)
      refine sp (OpV.assign rfl) ?_
      refine WL.nil (En.next (WC.ret (En.block_ret (En.then_ret (En.then_ret (En.block_ret (En.then_ret ?_)))))))
      refine En.ret1 rfl (Res.tmp rfl) ?_
      have hx := exitP ze1 zh1
      subst hx
      replace h := fork_r h
      obtain rfl := Option.some.inj h
      intro w' hs
      exact ⟨rfl, hs.below⟩
     ·
      intro hc_5
      replace zh1 := ifO_f hc_5 zh1
      refine WC.skip (En.block_norm (En.next (WC.region ?_)))
      refine sp (OpV.move rfl) ?_
      refine sp (OpV.addR rfl rfl) ?_
      refine sp (OpV.assign rfl) ?_
      refine WL.nil ?_
      exact En.backP zb1 zh1 () (Sub.cons rfl (Sub.cons rfl (Sub.cons rfl (Sub.cons rfl (Sub.cons rfl (Sub.nil _)))))) (fun _ h => h)
    ·
     intro hc_4
     replace zh1 := ifO_f hc_4 zh1
     refine WC.exit (En.then_exit (En.then_exit ?_))
     have hx := exitP ze1 zh1
     exact En.wk _ _ (Sub.cons rfl (Sub.cons rfl (Sub.cons rfl (Sub.nil _)))) (fun _ h => (((((((h).perm (List.perm_middle (l₁ := [_, _, _, _, _, _, _]))).perm (List.perm_middle (l₁ := [_, _, _, _, _, _, _]))).perm (List.perm_middle (l₁ := [_, _, _, _, _]))).perm (List.perm_middle (l₁ := [_, _, _, _, _]))).perm (List.perm_middle (l₁ := [_, _, _, _, _]))).perm (List.perm_middle (l₁ := [_, _, _, _, _]))).sub (.cons_cons _ (.cons_cons _ (.cons_cons _ (.cons_cons _ (.cons_cons _ (.cons_cons _ (.cons _ (.cons _ (.slnil)))))))))) (zK1_0 ((), ()) hx.symm)
  ·
   intro zK0_0
   refine WC.loopP (G := (Option Addr) × Nat × Nat × (List Nat) × (Option Addr) × Nat × Nat × (List Nat)) (fun s g => match s, g with | (v_0, v1_0, v2_0), (av_0, nv_0, cv_0, fv_0, av1_0, nv1_0, cv1_0, fv1_0) => [(3, .pointer (some ⟨b3_6, 0, .none⟩)), (6, .int .i64 (wr (3 * x4_1))), (7, .slice av_0 nv_0 cv_0), (8, .slice av1_0 nv1_0 cv1_0), (9, .int .i64 v2_0)]) (fun s g => match s, g with | (v_0, v1_0, v2_0), (av_0, nv_0, cv_0, fv_0, av1_0, nv1_0, cv1_0, fv1_0) => [Chunk.box b3_6 36 [.int .i64 x3_1a.Mode.Clock, .int .i64 x3_1a.Mode.W, .int .i64 x3_1a.Mode.HFront, .int .i64 x3_1a.Mode.HSync, .int .i64 x3_1a.Mode.HBack, .int .i64 x3_1a.Mode.H, .int .i64 x3_1a.Mode.VFront, .int .i64 x3_1a.Mode.VSync, .int .i64 x3_1a.Mode.VBack, .int .i64 x3_1a.Stretch, .int .i64 x3_1a.Lines, .slice a3_100 n3_100 c3_100], Chunk.own tInt f3_100 a3_100 n3_100 c3_100 x3_1a.Frames, Chunk.own tBool fv_0 av_0 nv_0 cv_0 v_0, Chunk.own tBool fv1_0 av1_0 nv1_0 cv1_0 v1_0]) (([] : List Bool), ([] : List Bool), 0) ((some ⟨b5_0, 0, .none⟩), 0, 0, [b5_0], (some ⟨b6_0, 0, .none⟩), 0, 0, [b6_0]) ezy0 (by exact Sub.cons rfl (Sub.cons rfl (Sub.cons rfl (Sub.cons rfl (Sub.cons rfl (Sub.nil _)))))) (by exact (fun _ h => ((((h).perm (List.perm_middle (l₁ := [_]))).perm (List.perm_middle (l₁ := [_, _, _]))).perm (List.perm_middle (l₁ := [_, _, _]))).sub (.cons_cons _ (.cons_cons _ (.cons_cons _ (.cons_cons _ (.cons _ (.cons _ (.slnil))))))))) ?_
   rintro zm0 ⟨v_0, v1_0, v2_0⟩ ⟨av_0, nv_0, cv_0, fv_0, av1_0, nv1_0, cv1_0, fv1_0⟩ zo0 zf0 zb0 ze0
   have zh0 : laws_FnPaceReady_L0 x4_1 v_0 v1_0 v2_0 = some zo0 := zf0
   unfold laws_FnPaceReady_L0 at zh0
   show WC _ _ _ _ _ [(3, .pointer (some ⟨b3_6, 0, .none⟩)), (6, .int .i64 (wr (3 * x4_1))), (7, .slice av_0 nv_0 cv_0), (8, .slice av1_0 nv1_0 cv1_0), (9, .int .i64 v2_0)] [Chunk.box b3_6 36 [.int .i64 x3_1a.Mode.Clock, .int .i64 x3_1a.Mode.W, .int .i64 x3_1a.Mode.HFront, .int .i64 x3_1a.Mode.HSync, .int .i64 x3_1a.Mode.HBack, .int .i64 x3_1a.Mode.H, .int .i64 x3_1a.Mode.VFront, .int .i64 x3_1a.Mode.VSync, .int .i64 x3_1a.Mode.VBack, .int .i64 x3_1a.Stretch, .int .i64 x3_1a.Lines, .slice a3_100 n3_100 c3_100], Chunk.own tInt f3_100 a3_100 n3_100 c3_100 x3_1a.Frames, Chunk.own tBool fv_0 av_0 nv_0 cv_0 v_0, Chunk.own tBool fv1_0 av1_0 nv1_0 cv1_0 v1_0]
   refine WC.seq (WC.seq (WC.region ?_))
   refine sp (OpV.move rfl) ?_
   refine sp (OpV.move rfl) ?_
   refine sp (OpV.lss rfl rfl) ?_
   refine WL.nil (En.next ?_)
   refine WC.cond rfl ?_ ?_
   ·
    intro hc_6
    replace zh0 := ifO_t hc_6 zh0
    refine WC.skip (En.next (WC.seq (WC.block (WC.seq ?_))))
    obtain ⟨x10_2, e10_2, zh0⟩ := bnd zh0
    refine WC.region ?_
    refine sp (OpV.move rfl) ?_
    refine WL.heavy rfl rfl rfl (OpH.litF (A := tBool) (xs := [true]) tBool_flat (evps.cons rfl (evps.nil)) (bs_37_1_0 _) rfl rfl (Nat.le_of_ble_eq_true rfl) ?_)
    intro b10_1
    refine WL.heavy rfl rfl rfl (OpH.appS (F := [_, _, _]) (A := tBool) tBool_flat rfl rfl rfl mi_37 rfl (by decide) (fun w hs => (Ow.rd (hs.mem (.head _)))) e10_2 ?_)
    intro f10_2 a10_2 c10_2
    refine sp (OpV.assign rfl) ?_
    refine WL.nil (En.next ?_)
    obtain ⟨x11_2, e11_2, zh0⟩ := bnd zh0
    refine WC.region ?_
    refine sp (OpV.move rfl) ?_
    refine WL.heavy rfl rfl rfl (OpH.litF (A := tBool) (xs := [false]) tBool_flat (evps.cons rfl (evps.nil)) (bs_37_1_0 _) rfl rfl (Nat.le_of_ble_eq_true rfl) ?_)
    intro b11_1
    refine WL.heavy rfl rfl rfl (OpH.appS (F := [_, _, _, _, _]) (A := tBool) tBool_flat rfl rfl rfl mi_37 rfl (by decide) (fun w hs => (Ow.rd (hs.mem (.head _)))) e11_2 ?_)
    intro f11_2 a11_2 c11_2
    refine sp (OpV.assign rfl) ?_
    refine WL.nil (En.block_norm (En.next (WC.region ?_)))
    refine sp (OpV.move rfl) ?_
    refine sp (OpV.addR rfl rfl) ?_
    refine sp (OpV.assign rfl) ?_
    refine WL.nil ?_
    exact En.backP zb0 zh0 (a10_2, x10_2.length, c10_2, f10_2, a11_2, x11_2.length, c11_2, f11_2) (Sub.cons rfl (Sub.cons rfl (Sub.cons rfl (Sub.cons rfl (Sub.cons rfl (Sub.nil _)))))) (fun _ h => (((((h).perm (List.perm_middle (l₁ := [_, _, _, _, _]))).perm (List.perm_middle (l₁ := [_, _, _, _, _]))).perm (List.perm_middle (l₁ := [_, _, _, _, _]))).perm (List.perm_middle (l₁ := [_, _, _, _, _]))).sub (.cons_cons _ (.cons_cons _ (.cons_cons _ (.cons_cons _ (.cons _ (.cons _ (.slnil))))))))
   ·
    intro hc_6
    replace zh0 := ifO_f hc_6 zh0
    refine WC.exit (En.then_exit (En.then_exit ?_))
    have hx := exitP ze0 zh0
    exact En.wk _ _ (Sub.cons rfl (Sub.cons rfl (Sub.cons rfl (Sub.nil _)))) (fun _ h => h) (zK0_0 ((v_0, v1_0), (av_0, nv_0, cv_0, fv_0, av1_0, nv1_0, cv1_0, fv1_0)) hx.symm)

theorem w_laws_szModeS {a_p0 : List ModeT} {left_p1 : Int} {r : Int} {q0_0 : Option Addr} {l0_0 k0_0 : Nat} (h : laws_szModeS a_p0 left_p1 = some r) {w : World} (r0_0 : Rd tMode w q0_0 l0_0 k0_0 a_p0)   :
    Calls Try.prog 54 #[.slice q0_0 l0_0 k0_0, .int .i64 left_p1] w (fun en w' => en = .returned (.int .i64 r) ∧ Ext w w') := by
 obtain rfl := r0_0.1
 unfold laws_szModeS at h
 refine enter (vs := [_, _]) Try.func54 rfl rfl rfl rfl ?_
 refine WC.seq (WC.region ?_)
 refine sp (OpV.assign rfl) ?_
 refine WL.nil (En.next (WC.seq (WC.region ?_)))
 refine sp (OpV.move rfl) ?_
 refine sp (OpV.move rfl) ?_
 refine sp (OpV.len rfl si_57 rfl) ?_
 refine sp (OpV.subR rfl rfl) ?_
 refine sp (OpV.assign rfl) ?_
 refine WL.nil (En.next (WC.seq (WC.seq (WC.region ?_))))
 refine sp (OpV.move rfl) ?_
 refine sp (OpV.lss rfl rfl) ?_
 refine WL.nil (En.next ?_)
 refine WC.cond rfl ?_ ?_
 ·
  intro hc_1
  replace h := ifO_t hc_1 h
  refine WC.seq (WC.region ?_)
  refine sp (OpV.assign rfl) ?_
  refine WL.nil (En.next (WC.ret (En.then_ret ?_)))
  refine En.ret1 rfl (Res.tmp rfl) ?_
  obtain rfl := Option.some.inj h
  intro w' hs
  exact ⟨rfl, hs.below⟩
 ·
  intro hc_1
  replace h := ifO_f hc_1 h
  refine WC.skip (En.next (WC.seq (WC.region ?_)))
  refine sp (OpV.move rfl) ?_
  refine sp (OpV.assign rfl) ?_
  refine WL.nil (En.next (WC.ret ?_))
  refine En.ret1 rfl (Res.tmp rfl) ?_
  obtain rfl := Option.some.inj h
  intro w' hs
  exact ⟨rfl, hs.below⟩

theorem w_laws_szMonitor {a_p0 : MonitorT} {left_p1 : Int} {r : Int} {q0_0 : Option Addr} {l0_0 k0_0 : Nat} (h : laws_szMonitor a_p0 left_p1 = some r) {w : World} (r0_0 : Rd tMode w q0_0 l0_0 k0_0 a_p0.Modes)   :
    Calls Try.prog 31 #[.agg #[.string a_p0.Name, .slice q0_0 l0_0 k0_0, .int .i64 a_p0.Stretch], .int .i64 left_p1] w (fun en w' => en = .returned (.int .i64 r) ∧ Ext w w') := by
 obtain rfl := r0_0.1
 unfold laws_szMonitor at h
 refine enter (vs := [_, _]) Try.func31 rfl rfl rfl rfl ?_
 refine WC.seq (WC.region ?_)
 refine WL.heavy rfl rfl rfl (OpH.box rfl rfl ?_)
 intro b0_0
 refine sp (OpV.assign rfl) ?_
 refine WL.nil (En.next (WC.seq (WC.region ?_)))
 refine sp (OpV.move rfl) ?_
 refine sp (OpV.fieldAddr rfl fo_59_0) ?_
 refine sp (OpV.loadBox rfl pt_9 (.head _) rfl) ?_
 refine sp (OpV.lenS rfl us_9 rfl) ?_
 refine sp (OpV.subR rfl rfl) ?_
 refine sp (OpV.assign rfl) ?_
 refine WL.nil (En.next (WC.seq (WC.seq (WC.region ?_))))
 refine sp (OpV.move rfl) ?_
 refine sp (OpV.lss rfl rfl) ?_
 refine WL.nil (En.next ?_)
 refine WC.cond rfl ?_ ?_
 ·
  intro hc_1
  replace h := ifO_t hc_1 h
  refine WC.seq (WC.region ?_)
  refine sp (OpV.assign rfl) ?_
  refine WL.nil (En.next (WC.ret (En.then_ret ?_)))
  refine En.ret1 rfl (Res.tmp rfl) ?_
  obtain rfl := Option.some.inj h
  intro w' hs
  exact ⟨rfl, hs.below⟩
 ·
  intro hc_1
  replace h := ifO_f hc_1 h
  refine WC.skip (En.next (WC.seq ?_))
  obtain ⟨x4_3, e4_3, h⟩ := bnd h
  refine WC.region ?_
  refine sp (OpV.fieldAddr rfl fo_59_1) ?_
  refine sp (OpV.loadBox rfl pt_57 (.head _) rfl) ?_
  refine sp (OpV.move rfl) ?_
  refine sp (OpV.call (evs.cons rfl (evs.cons rfl (evs.nil))) ca_54 (fun w hs => w_laws_szModeS e4_3 (r0_0.ext hs.below))) ?_
  refine sp (OpV.assign rfl) ?_
  refine WL.nil (En.next (WC.seq (WC.seq (WC.region ?_))))
  refine sp (OpV.move rfl) ?_
  refine sp (OpV.lss rfl rfl) ?_
  refine WL.nil (En.next ?_)
  refine WC.cond rfl ?_ ?_
  ·
   intro hc_2
   replace h := ifO_t hc_2 h
   refine WC.seq (WC.region ?_)
   refine sp (OpV.assign rfl) ?_
   refine WL.nil (En.next (WC.ret (En.then_ret ?_)))
   refine En.ret1 rfl (Res.tmp rfl) ?_
   obtain rfl := Option.some.inj h
   intro w' hs
   exact ⟨rfl, hs.below⟩
  ·
   intro hc_2
   replace h := ifO_f hc_2 h
   refine WC.skip (En.next (WC.seq (WC.region ?_)))
   refine sp (OpV.move rfl) ?_
   refine sp (OpV.assign rfl) ?_
   refine WL.nil (En.next (WC.ret ?_))
   refine En.ret1 rfl (Res.tmp rfl) ?_
   obtain rfl := Option.some.inj h
   intro w' hs
   exact ⟨rfl, hs.below⟩

theorem w_laws_toMode {a_p0 : ModeT} {r : ModeT}  (h : laws_toMode a_p0 = some r) {w : World}    :
    Calls Try.prog 69 #[.agg #[.int .i64 a_p0.Clock, .int .i64 a_p0.W, .int .i64 a_p0.HFront, .int .i64 a_p0.HSync, .int .i64 a_p0.HBack, .int .i64 a_p0.H, .int .i64 a_p0.VFront, .int .i64 a_p0.VSync, .int .i64 a_p0.VBack]] w (fun en w' => en = .returned (.agg #[.int .i64 r.Clock, .int .i64 r.W, .int .i64 r.HFront, .int .i64 r.HSync, .int .i64 r.HBack, .int .i64 r.H, .int .i64 r.VFront, .int .i64 r.VSync, .int .i64 r.VBack]) ∧ Ext w w') := by
 unfold laws_toMode at h
 refine enter (vs := [_]) Try.func69 rfl rfl rfl rfl ?_
 refine WC.seq (WC.region ?_)
 refine WL.heavy rfl rfl rfl (OpH.box rfl rfl ?_)
 intro b0_0
 refine WL.heavy rfl rfl rfl (OpH.alloc zc_33 ?_)
 intro b0_1
 refine WL.nil (En.next (WC.seq (WC.region ?_)))
 refine WL.heavy rfl rfl rfl (OpH.alloc zc_33 ?_)
 intro b1_0
 refine WL.nil (En.next (WC.seq (WC.region ?_)))
 refine sp (OpV.fieldAddr rfl fo_97_0) ?_
 refine sp (OpV.loadBox rfl pt_3 (.tail _ (.tail _ (.head _))) rfl) ?_
 refine sp (OpV.fieldAddr rfl fo_33_0) ?_
 refine WL.heavy0 rfl rfl (OpH.storeTo (A := []) [_, _, _, _, _, _, _, _, _] rfl rfl rfl ts_3 rfl rfl rfl ?_)
 refine WL.nil (En.next (WC.seq (WC.region ?_)))
 refine sp (OpV.fieldAddr rfl fo_97_1) ?_
 refine sp (OpV.loadBox rfl pt_3 (.tail _ (.tail _ (.head _))) rfl) ?_
 refine sp (OpV.fieldAddr rfl fo_33_1) ?_
 refine WL.heavy0 rfl rfl (OpH.storeTo (A := []) [_, _, _, _, _, _, _, _, _] rfl rfl rfl ts_3 rfl rfl rfl ?_)
 refine WL.nil (En.next (WC.seq (WC.region ?_)))
 refine sp (OpV.fieldAddr rfl fo_97_2) ?_
 refine sp (OpV.loadBox rfl pt_3 (.tail _ (.tail _ (.head _))) rfl) ?_
 refine sp (OpV.fieldAddr rfl fo_33_2) ?_
 refine WL.heavy0 rfl rfl (OpH.storeTo (A := []) [_, _, _, _, _, _, _, _, _] rfl rfl rfl ts_3 rfl rfl rfl ?_)
 refine WL.nil (En.next (WC.seq (WC.region ?_)))
 refine sp (OpV.fieldAddr rfl fo_97_3) ?_
 refine sp (OpV.loadBox rfl pt_3 (.tail _ (.tail _ (.head _))) rfl) ?_
 refine sp (OpV.fieldAddr rfl fo_33_3) ?_
 refine WL.heavy0 rfl rfl (OpH.storeTo (A := []) [_, _, _, _, _, _, _, _, _] rfl rfl rfl ts_3 rfl rfl rfl ?_)
 refine WL.nil (En.next (WC.seq (WC.region ?_)))
 refine sp (OpV.fieldAddr rfl fo_97_4) ?_
 refine sp (OpV.loadBox rfl pt_3 (.tail _ (.tail _ (.head _))) rfl) ?_
 refine sp (OpV.fieldAddr rfl fo_33_4) ?_
 refine WL.heavy0 rfl rfl (OpH.storeTo (A := []) [_, _, _, _, _, _, _, _, _] rfl rfl rfl ts_3 rfl rfl rfl ?_)
 refine WL.nil (En.next (WC.seq (WC.region ?_)))
 refine sp (OpV.fieldAddr rfl fo_97_5) ?_
 refine sp (OpV.loadBox rfl pt_3 (.tail _ (.tail _ (.head _))) rfl) ?_
 refine sp (OpV.fieldAddr rfl fo_33_5) ?_
 refine WL.heavy0 rfl rfl (OpH.storeTo (A := []) [_, _, _, _, _, _, _, _, _] rfl rfl rfl ts_3 rfl rfl rfl ?_)
 refine WL.nil (En.next (WC.seq (WC.region ?_)))
 refine sp (OpV.fieldAddr rfl fo_97_6) ?_
 refine sp (OpV.loadBox rfl pt_3 (.tail _ (.tail _ (.head _))) rfl) ?_
 refine sp (OpV.fieldAddr rfl fo_33_6) ?_
 refine WL.heavy0 rfl rfl (OpH.storeTo (A := []) [_, _, _, _, _, _, _, _, _] rfl rfl rfl ts_3 rfl rfl rfl ?_)
 refine WL.nil (En.next (WC.seq (WC.region ?_)))
 refine sp (OpV.fieldAddr rfl fo_97_7) ?_
 refine sp (OpV.loadBox rfl pt_3 (.tail _ (.tail _ (.head _))) rfl) ?_
 refine sp (OpV.fieldAddr rfl fo_33_7) ?_
 refine WL.heavy0 rfl rfl (OpH.storeTo (A := []) [_, _, _, _, _, _, _, _, _] rfl rfl rfl ts_3 rfl rfl rfl ?_)
 refine WL.nil (En.next (WC.seq (WC.region ?_)))
 refine sp (OpV.fieldAddr rfl fo_97_8) ?_
 refine sp (OpV.loadBox rfl pt_3 (.tail _ (.tail _ (.head _))) rfl) ?_
 refine sp (OpV.fieldAddr rfl fo_33_8) ?_
 refine WL.heavy0 rfl rfl (OpH.storeTo (A := []) [_, _, _, _, _, _, _, _, _] rfl rfl rfl ts_3 rfl rfl rfl ?_)
 refine WL.nil (En.next (WC.seq (WC.region ?_)))
 refine sp (OpV.loadAll rfl (.head _) ag_33) ?_
 refine WL.heavy0 rfl rfl (OpH.storeTo (A := [_]) [_, _, _, _, _, _, _, _, _] rfl rfl rfl ts_33 rfl rfl rfl ?_)
 refine WL.nil (En.next (WC.ret ?_))
 refine En.ret1 rfl (Res.cell rfl (.tail _ (.head _)) ag_33) ?_
 obtain rfl := Option.some.inj h
 intro w' hs
 exact ⟨rfl, hs.below⟩

theorem w_laws_toModeS {a_p0 : List ModeT} {r : (List ModeT)} {q0_0 : Option Addr} {l0_0 k0_0 : Nat} (h : laws_toModeS a_p0 = some r) {w : World} (r0_0 : Rd tMode w q0_0 l0_0 k0_0 a_p0)   :
    Calls Try.prog 57 #[.slice q0_0 l0_0 k0_0] w (fun en w' => ∃ rv G, en = .returned rv ∧ (∃ (a0_0 : Option Addr) (n0_0 : Nat) (c0_0 : Nat) (f0_0 : List Nat), rv = .slice a0_0 n0_0 c0_0 ∧ G = [Chunk.own tMode f0_0 a0_0 n0_0 c0_0 r]) ∧ St w G w') := by
 obtain rfl := r0_0.1
 unfold laws_toModeS at h
 refine enter (vs := [_]) Try.func57 rfl rfl rfl rfl ?_
 refine WC.seq (WC.region ?_)
 refine sp (OpV.assign rfl) ?_
 refine WL.nil (En.next (WC.seq ?_))
 obtain ⟨x1_2, e1_2, h⟩ := bnd h
 refine WC.region ?_
 refine sp (OpV.move rfl) ?_
 refine sp (OpV.len rfl si_57 rfl) ?_
 refine WL.heavy rfl rfl rfl (OpH.makeO (A := tMode) rfl rfl mi_45 (fun w => tMode_flat.ow w (ModeT.mk 0 0 0 0 0 0 0 0 0)) (by decide) e1_2 ⟨Int.le_refl _, (mkO_some e1_2).1.2⟩ ?_)
 intro b1_2
 refine sp (OpV.assign rfl) ?_
 refine WL.nil (En.next (WC.seq (WC.seq (WC.region ?_))))
 refine sp (OpV.assign rfl) ?_
 refine WL.nil (En.next (WC.block ?_))
 obtain ⟨zy0, ezy0, h⟩ := bnd h
 refine WC.cut (X := ((List ModeT)) × ((List Nat))) (.exit 0) (fun x => zy0 = x.1) (fun x => match x with | (out_0e, fout_0e) => [(3, .slice (some ⟨b1_2, 0, .none⟩) x1_2.length ((a_p0.length : Int).toNat))]) (fun x => match x with | (out_0e, fout_0e) => [Chunk.own tMode fout_0e (some ⟨b1_2, 0, .none⟩) x1_2.length ((a_p0.length : Int).toNat) out_0e]) ?_ ?_
 ·
  rintro ⟨out_0e, fout_0e⟩ hx
  replace hx : out_0e = zy0 := hx.symm
  subst hx
  show En _ _ _ _ [(3, .slice (some ⟨b1_2, 0, .none⟩) x1_2.length ((a_p0.length : Int).toNat))] [Chunk.own tMode fout_0e (some ⟨b1_2, 0, .none⟩) x1_2.length ((a_p0.length : Int).toNat) out_0e]
  refine En.block_exit (En.next (WC.seq (WC.region ?_)))
  refine sp (OpV.move rfl) ?_
  refine sp (OpV.assign rfl) ?_
  refine WL.nil (En.next (WC.ret ?_))
  refine En.ret1 rfl (Res.tmp rfl) ?_
  obtain rfl := Option.some.inj h
  intro w' hs
  have hs := hs
  exact ⟨_, _, rfl, ⟨(some ⟨b1_2, 0, .none⟩), x1_2.length, ((a_p0.length : Int).toNat), fout_0e, rfl, rfl⟩, hs⟩
 ·
  intro zK0_0
  refine WC.loopP (G := (List Nat)) (fun s g => match s, g with | (out_0, i_0), fout_0 => [(0, .slice q0_0 a_p0.length k0_0), (3, .slice (some ⟨b1_2, 0, .none⟩) x1_2.length ((a_p0.length : Int).toNat)), (4, .int .i64 i_0)]) (fun s g => match s, g with | (out_0, i_0), fout_0 => [Chunk.own tMode fout_0 (some ⟨b1_2, 0, .none⟩) x1_2.length ((a_p0.length : Int).toNat) out_0]) (x1_2, 0) [b1_2] ezy0 (by exact Sub.cons rfl (Sub.cons rfl (Sub.cons rfl (Sub.nil _)))) (by exact (fun _ h => h)) ?_
  rintro zm0 ⟨out_0, i_0⟩ fout_0 zo0 zf0 zb0 ze0
  have zh0 : laws_toModeS_L0 a_p0 out_0 i_0 = some zo0 := zf0
  unfold laws_toModeS_L0 at zh0
  show WC _ _ _ _ _ [(0, .slice q0_0 a_p0.length k0_0), (3, .slice (some ⟨b1_2, 0, .none⟩) x1_2.length ((a_p0.length : Int).toNat)), (4, .int .i64 i_0)] [Chunk.own tMode fout_0 (some ⟨b1_2, 0, .none⟩) x1_2.length ((a_p0.length : Int).toNat) out_0]
  refine WC.seq (WC.seq (WC.region ?_))
  refine sp (OpV.move rfl) ?_
  refine sp (OpV.move rfl) ?_
  refine sp (OpV.len rfl si_57 rfl) ?_
  refine sp (OpV.lss rfl rfl) ?_
  refine WL.nil (En.next ?_)
  refine WC.cond rfl ?_ ?_
  ·
   intro hc_1
   replace zh0 := ifO_t hc_1 zh0
   refine WC.skip (En.next (WC.seq (WC.block ?_)))
   refine WC.inh fun hin5 => ?_
   obtain ⟨x5_4, e5_4, zh0⟩ := bnd zh0
   obtain ⟨g5_4, o5_4, _, ha5_4, rfl, hd5_4⟩ := Rd.atIdx r0_0 e5_4
   replace hd5_4 : ∀ (j : Nat) v, ([.int .i64 x5_4.Clock, .int .i64 x5_4.W, .int .i64 x5_4.HFront, .int .i64 x5_4.HSync, .int .i64 x5_4.HBack, .int .i64 x5_4.H, .int .i64 x5_4.VFront, .int .i64 x5_4.VSync, .int .i64 x5_4.VBack] : List Value)[j]? = some v → w.cell? ⟨g5_4, o5_4 + i_0.toNat * 9 + j, .none⟩ = some v := hd5_4
   obtain ⟨x5_6, e5_6, zh0⟩ := bnd zh0
   have hn5_7 := ownLen hin5 (.head _)
   obtain ⟨x5_8, e5_8, zh0⟩ := bnd zh0
   obtain ⟨g5_7, o5_7, ha5_7⟩ := ownAddrU hin5 (.head _) e5_8
   refine WC.region ?_
   refine sp (OpV.move rfl) ?_
   refine sp (OpV.move rfl) ?_
   refine sp (OpV.move rfl) ?_
   refine sp (OpV.move rfl) ?_
   refine sp (OpV.idxA rfl rfl se_57 ha5_4 ⟨(idx_some e5_4).1, (idx_some e5_4).2.1⟩) ?_
   refine sp (OpV.loadN rfl ag_97 rfl (fun w hs => hs.cellsAt hd5_4)) ?_
   refine sp (OpV.call (evs.cons rfl (evs.nil)) ca_69 (fun w hs => w_laws_toMode e5_6)) ?_
   refine sp (OpV.idxA rfl rfl se_45 ha5_7 ⟨(upd_some e5_8).1.1, by rw [hn5_7]; exact (upd_some e5_8).1.2⟩) ?_
   refine WL.wkF (fun _ h => St.elFlat tMode_flat x5_6 h) ?_
   refine WL.heavy0 rfl rfl (OpH.setEl (A := tMode) ha5_7 rfl rfl rfl ts_33 e5_8 ?_)
   intro f5_8
   refine WL.nil (En.block_norm (En.next (WC.region ?_)))
   refine sp (OpV.move rfl) ?_
   refine sp (OpV.addR rfl rfl) ?_
   refine sp (OpV.assign rfl) ?_
   refine WL.nil ?_
   exact En.backP zb0 zh0 f5_8 (Sub.cons rfl (Sub.cons rfl (Sub.cons rfl (Sub.nil _)))) (fun _ h => h)
  ·
   intro hc_1
   replace zh0 := ifO_f hc_1 zh0
   refine WC.exit (En.then_exit (En.then_exit ?_))
   have hx := exitP ze0 zh0
   exact En.wk _ _ (Sub.cons rfl (Sub.nil _)) (fun _ h => h) (zK0_0 (out_0, fout_0) hx.symm)

theorem w_laws_toMonitor {a_p0 : MonitorT} {r : MonitorT} {q0_0 : Option Addr} {l0_0 k0_0 : Nat} (h : laws_toMonitor a_p0 = some r) {w : World} (r0_0 : Rd tMode w q0_0 l0_0 k0_0 a_p0.Modes)   :
    Calls Try.prog 33 #[.agg #[.string a_p0.Name, .slice q0_0 l0_0 k0_0, .int .i64 a_p0.Stretch]] w (fun en w' => ∃ rv G, en = .returned rv ∧ (∃ (a0_0 : Option Addr) (n0_0 : Nat) (c0_0 : Nat) (f0_0 : List Nat), rv = .agg #[.string r.Name, .slice a0_0 n0_0 c0_0, .int .i64 r.Stretch] ∧ G = [Chunk.own tMode f0_0 a0_0 n0_0 c0_0 r.Modes]) ∧ St w G w') := by
 obtain rfl := r0_0.1
 unfold laws_toMonitor at h
 refine enter (vs := [_]) Try.func33 rfl rfl rfl rfl ?_
 refine WC.seq (WC.region ?_)
 refine WL.heavy rfl rfl rfl (OpH.box rfl rfl ?_)
 intro b0_0
 refine WL.heavy rfl rfl rfl (OpH.alloc zc_47 ?_)
 intro b0_1
 refine WL.nil (En.next (WC.seq (WC.region ?_)))
 refine WL.heavy rfl rfl rfl (OpH.alloc zc_47 ?_)
 intro b1_0
 refine WL.nil (En.next (WC.seq (WC.region ?_)))
 refine sp (OpV.fieldAddr rfl fo_59_0) ?_
 refine sp (OpV.loadBox rfl pt_9 (.tail _ (.tail _ (.head _))) rfl) ?_
 refine sp (OpV.fieldAddr rfl fo_47_0) ?_
 refine WL.heavy0 rfl rfl (OpH.storeTo (A := []) [_, _, _] rfl rfl rfl ts_9 rfl rfl rfl ?_)
 refine WL.nil (En.next (WC.seq ?_))
 obtain ⟨x3_2, e3_2, h⟩ := bnd h
 refine WC.region ?_
 refine sp (OpV.fieldAddr rfl fo_59_1) ?_
 refine sp (OpV.loadBox rfl pt_57 (.tail _ (.tail _ (.head _))) rfl) ?_
 refine WL.heavy rfl rfl rfl (OpH.callR (evs.cons rfl (evs.nil)) ca_57 (fun w hs => w_laws_toModeS e3_2 (r0_0.ext hs.below)) ?_)
 rintro _ _ ⟨a3_200, n3_200, c3_200, f3_200, rfl, rfl⟩
 refine sp (OpV.fieldAddr rfl fo_47_1) ?_
 refine WL.heavy0 rfl rfl (OpH.storeTo (A := [_]) [_, _, _] rfl rfl rfl ts_45 rfl rfl rfl ?_)
 refine WL.nil (En.next (WC.seq (WC.region ?_)))
 refine sp (OpV.fieldAddr rfl fo_59_2) ?_
 refine sp (OpV.loadBox rfl pt_3 (.tail _ (.tail _ (.tail _ (.head _)))) rfl) ?_
 refine sp (OpV.fieldAddr rfl fo_47_2) ?_
 refine WL.heavy0 rfl rfl (OpH.storeTo (A := [_]) [_, _, _] rfl rfl rfl ts_3 rfl rfl rfl ?_)
 refine WL.nil (En.next (WC.seq (WC.region ?_)))
 refine sp (OpV.loadAll rfl (.tail _ (.head _)) ag_47) ?_
 refine WL.heavy0 rfl rfl (OpH.storeTo (A := [_, _]) [_, _, _] rfl rfl rfl ts_47 rfl rfl rfl ?_)
 refine WL.nil (En.next (WC.ret ?_))
 refine En.ret1 rfl (Res.cell rfl (.tail _ (.tail _ (.head _))) ag_47) ?_
 obtain rfl := Option.some.inj h
 intro w' hs
 have hs := (hs).sub (.cons_cons _ (.cons _ (.cons _ (.cons _ (.slnil)))))
 exact ⟨_, _, rfl, ⟨a3_200, n3_200, c3_200, f3_200, rfl, rfl⟩, hs⟩

theorem w_spec_ModeOk {m_p0 : ModeT} {r : Bool}  (h : spec_ModeOk m_p0 = some r) {w : World}    :
    Calls Try.prog 68 #[.agg #[.int .i64 m_p0.Clock, .int .i64 m_p0.W, .int .i64 m_p0.HFront, .int .i64 m_p0.HSync, .int .i64 m_p0.HBack, .int .i64 m_p0.H, .int .i64 m_p0.VFront, .int .i64 m_p0.VSync, .int .i64 m_p0.VBack]] w (fun en w' => en = .returned (.bool r) ∧ Ext w w') := by
 unfold spec_ModeOk at h
 refine enter (vs := [_]) Try.func68 rfl rfl rfl rfl ?_
 refine WC.seq (WC.region ?_)
 refine WL.heavy rfl rfl rfl (OpH.box rfl rfl ?_)
 intro b0_0
 refine sp (OpV.assign rfl) ?_
 refine WL.nil (En.next (WC.seq ?_))
 obtain ⟨x1_2, e1_2, h⟩ := bnd h
 obtain ⟨q1_7, e1_7, h⟩ := bnd h
 obtain ⟨q1_12, e1_12, h⟩ := bnd h
 obtain ⟨q1_17, e1_17, h⟩ := bnd h
 obtain ⟨q1_22, e1_22, h⟩ := bnd h
 obtain ⟨q1_27, e1_27, h⟩ := bnd h
 obtain ⟨q1_32, e1_32, h⟩ := bnd h
 obtain ⟨q1_37, e1_37, h⟩ := bnd h
 obtain ⟨q1_42, e1_42, h⟩ := bnd h
 refine WC.region ?_
 refine sp (OpV.fieldAddr rfl fo_33_0) ?_
 refine sp (OpV.loadBox rfl pt_3 (.head _) rfl) ?_
 refine sp (OpV.call (evs.cons rfl (evs.cons rfl (evs.cons rfl (evs.nil)))) ca_41 (fun w hs => w_spec_l01In e1_2)) ?_
 refine sp (OpV.move rfl) ?_
 refine Lt.ofWL.andQ 6 10 9 (p := ?pz1) (rest := ?qz1) (B := q1_7) rfl (fun hz => andO_f e1_7 hz) ?Tz1 ?Fz1 ?az1 ?bz1 ?cz1 ?dz1 ?ez1
 case Tz1 =>
  intro hcz1 hkz1
  have hqz1 := andO_t e1_7 hcz1
  obtain ⟨x1_6, e1_6, hqz1⟩ := bnd hqz1
  obtain rfl := Option.some.inj hqz1
  refine sp (OpV.fieldAddr rfl fo_33_1) ?_
  refine sp (OpV.loadBox rfl pt_3 (.head _) rfl) ?_
  refine sp (OpV.call (evs.cons rfl (evs.cons rfl (evs.cons rfl (evs.nil)))) ca_41 (fun w hs => w_spec_l01In e1_6)) ?_
  refine hkz1 _ ?_ ?_
  exact rfl
  repeat (first | exact Sub.refl _ | refine Sub.skip rfl ?_)
 case Fz1 =>
  intro hcz1 hkz1
  refine sk ?_
  refine sk ?_
  refine sk ?_
  refine hkz1 _ ?_
  repeat (first | exact Sub.refl _ | refine Sub.skip rfl ?_)
 case az1 => exact rfl
 case bz1 => exact rfl
 case cz1 => exact rfl
 case dz1 => exact rfl
 refine sp (OpV.move rfl) ?_
 refine Lt.ofWL.andQ 11 15 14 (p := ?pz2) (rest := ?qz2) (B := q1_12) rfl (fun hz => andO_f e1_12 hz) ?Tz2 ?Fz2 ?az2 ?bz2 ?cz2 ?dz2 ?ez2
 case Tz2 =>
  intro hcz2 hkz2
  have hqz2 := andO_t e1_12 hcz2
  obtain ⟨x1_11, e1_11, hqz2⟩ := bnd hqz2
  obtain rfl := Option.some.inj hqz2
  refine sp (OpV.fieldAddr rfl fo_33_5) ?_
  refine sp (OpV.loadBox rfl pt_3 (.head _) rfl) ?_
  refine sp (OpV.call (evs.cons rfl (evs.cons rfl (evs.cons rfl (evs.nil)))) ca_41 (fun w hs => w_spec_l01In e1_11)) ?_
  refine hkz2 _ ?_ ?_
  exact rfl
  repeat (first | exact Sub.refl _ | refine Sub.skip rfl ?_)
 case Fz2 =>
  intro hcz2 hkz2
  refine sk ?_
  refine sk ?_
  refine sk ?_
  refine hkz2 _ ?_
  repeat (first | exact Sub.refl _ | refine Sub.skip rfl ?_)
 case az2 => exact rfl
 case bz2 => exact rfl
 case cz2 => exact rfl
 case dz2 => exact rfl
 refine sp (OpV.move rfl) ?_
 refine Lt.ofWL.andQ 16 20 19 (p := ?pz3) (rest := ?qz3) (B := q1_17) rfl (fun hz => andO_f e1_17 hz) ?Tz3 ?Fz3 ?az3 ?bz3 ?cz3 ?dz3 ?ez3
 case Tz3 =>
  intro hcz3 hkz3
  have hqz3 := andO_t e1_17 hcz3
  obtain ⟨x1_16, e1_16, hqz3⟩ := bnd hqz3
  obtain rfl := Option.some.inj hqz3
  refine sp (OpV.fieldAddr rfl fo_33_3) ?_
  refine sp (OpV.loadBox rfl pt_3 (.head _) rfl) ?_
  refine sp (OpV.call (evs.cons rfl (evs.cons rfl (evs.cons rfl (evs.nil)))) ca_41 (fun w hs => w_spec_l01In e1_16)) ?_
  refine hkz3 _ ?_ ?_
  exact rfl
  repeat (first | exact Sub.refl _ | refine Sub.skip rfl ?_)
 case Fz3 =>
  intro hcz3 hkz3
  refine sk ?_
  refine sk ?_
  refine sk ?_
  refine hkz3 _ ?_
  repeat (first | exact Sub.refl _ | refine Sub.skip rfl ?_)
 case az3 => exact rfl
 case bz3 => exact rfl
 case cz3 => exact rfl
 case dz3 => exact rfl
 refine sp (OpV.move rfl) ?_
 refine Lt.ofWL.andQ 21 25 24 (p := ?pz4) (rest := ?qz4) (B := q1_22) rfl (fun hz => andO_f e1_22 hz) ?Tz4 ?Fz4 ?az4 ?bz4 ?cz4 ?dz4 ?ez4
 case Tz4 =>
  intro hcz4 hkz4
  have hqz4 := andO_t e1_22 hcz4
  obtain ⟨x1_21, e1_21, hqz4⟩ := bnd hqz4
  obtain rfl := Option.some.inj hqz4
  refine sp (OpV.fieldAddr rfl fo_33_7) ?_
  refine sp (OpV.loadBox rfl pt_3 (.head _) rfl) ?_
  refine sp (OpV.call (evs.cons rfl (evs.cons rfl (evs.cons rfl (evs.nil)))) ca_41 (fun w hs => w_spec_l01In e1_21)) ?_
  refine hkz4 _ ?_ ?_
  exact rfl
  repeat (first | exact Sub.refl _ | refine Sub.skip rfl ?_)
 case Fz4 =>
  intro hcz4 hkz4
  refine sk ?_
  refine sk ?_
  refine sk ?_
  refine hkz4 _ ?_
  repeat (first | exact Sub.refl _ | refine Sub.skip rfl ?_)
 case az4 => exact rfl
 case bz4 => exact rfl
 case cz4 => exact rfl
 case dz4 => exact rfl
 refine sp (OpV.move rfl) ?_
 refine Lt.ofWL.andQ 26 30 29 (p := ?pz5) (rest := ?qz5) (B := q1_27) rfl (fun hz => andO_f e1_27 hz) ?Tz5 ?Fz5 ?az5 ?bz5 ?cz5 ?dz5 ?ez5
 case Tz5 =>
  intro hcz5 hkz5
  have hqz5 := andO_t e1_27 hcz5
  obtain ⟨x1_26, e1_26, hqz5⟩ := bnd hqz5
  obtain rfl := Option.some.inj hqz5
  refine sp (OpV.fieldAddr rfl fo_33_2) ?_
  refine sp (OpV.loadBox rfl pt_3 (.head _) rfl) ?_
  refine sp (OpV.call (evs.cons rfl (evs.cons rfl (evs.cons rfl (evs.nil)))) ca_41 (fun w hs => w_spec_l01In e1_26)) ?_
  refine hkz5 _ ?_ ?_
  exact rfl
  repeat (first | exact Sub.refl _ | refine Sub.skip rfl ?_)
 case Fz5 =>
  intro hcz5 hkz5
  refine sk ?_
  refine sk ?_
  refine sk ?_
  refine hkz5 _ ?_
  repeat (first | exact Sub.refl _ | refine Sub.skip rfl ?_)
 case az5 => exact rfl
 case bz5 => exact rfl
 case cz5 => exact rfl
 case dz5 => exact rfl
 refine sp (OpV.move rfl) ?_
 refine Lt.ofWL.andQ 31 35 34 (p := ?pz6) (rest := ?qz6) (B := q1_32) rfl (fun hz => andO_f e1_32 hz) ?Tz6 ?Fz6 ?az6 ?bz6 ?cz6 ?dz6 ?ez6
 case Tz6 =>
  intro hcz6 hkz6
  have hqz6 := andO_t e1_32 hcz6
  obtain ⟨x1_31, e1_31, hqz6⟩ := bnd hqz6
  obtain rfl := Option.some.inj hqz6
  refine sp (OpV.fieldAddr rfl fo_33_4) ?_
  refine sp (OpV.loadBox rfl pt_3 (.head _) rfl) ?_
  refine sp (OpV.call (evs.cons rfl (evs.cons rfl (evs.cons rfl (evs.nil)))) ca_41 (fun w hs => w_spec_l01In e1_31)) ?_
  refine hkz6 _ ?_ ?_
  exact rfl
  repeat (first | exact Sub.refl _ | refine Sub.skip rfl ?_)
 case Fz6 =>
  intro hcz6 hkz6
  refine sk ?_
  refine sk ?_
  refine sk ?_
  refine hkz6 _ ?_
  repeat (first | exact Sub.refl _ | refine Sub.skip rfl ?_)
 case az6 => exact rfl
 case bz6 => exact rfl
 case cz6 => exact rfl
 case dz6 => exact rfl
 refine sp (OpV.move rfl) ?_
 refine Lt.ofWL.andQ 36 40 39 (p := ?pz7) (rest := ?qz7) (B := q1_37) rfl (fun hz => andO_f e1_37 hz) ?Tz7 ?Fz7 ?az7 ?bz7 ?cz7 ?dz7 ?ez7
 case Tz7 =>
  intro hcz7 hkz7
  have hqz7 := andO_t e1_37 hcz7
  obtain ⟨x1_36, e1_36, hqz7⟩ := bnd hqz7
  obtain rfl := Option.some.inj hqz7
  refine sp (OpV.fieldAddr rfl fo_33_6) ?_
  refine sp (OpV.loadBox rfl pt_3 (.head _) rfl) ?_
  refine sp (OpV.call (evs.cons rfl (evs.cons rfl (evs.cons rfl (evs.nil)))) ca_41 (fun w hs => w_spec_l01In e1_36)) ?_
  refine hkz7 _ ?_ ?_
  exact rfl
  repeat (first | exact Sub.refl _ | refine Sub.skip rfl ?_)
 case Fz7 =>
  intro hcz7 hkz7
  refine sk ?_
  refine sk ?_
  refine sk ?_
  refine hkz7 _ ?_
  repeat (first | exact Sub.refl _ | refine Sub.skip rfl ?_)
 case az7 => exact rfl
 case bz7 => exact rfl
 case cz7 => exact rfl
 case dz7 => exact rfl
 refine sp (OpV.move rfl) ?_
 refine Lt.ofWL.andQ 41 45 44 (p := ?pz8) (rest := ?qz8) (B := q1_42) rfl (fun hz => andO_f e1_42 hz) ?Tz8 ?Fz8 ?az8 ?bz8 ?cz8 ?dz8 ?ez8
 case Tz8 =>
  intro hcz8 hkz8
  have hqz8 := andO_t e1_42 hcz8
  obtain ⟨x1_41, e1_41, hqz8⟩ := bnd hqz8
  obtain rfl := Option.some.inj hqz8
  refine sp (OpV.fieldAddr rfl fo_33_8) ?_
  refine sp (OpV.loadBox rfl pt_3 (.head _) rfl) ?_
  refine sp (OpV.call (evs.cons rfl (evs.cons rfl (evs.cons rfl (evs.nil)))) ca_41 (fun w hs => w_spec_l01In e1_41)) ?_
  refine hkz8 _ ?_ ?_
  exact rfl
  repeat (first | exact Sub.refl _ | refine Sub.skip rfl ?_)
 case Fz8 =>
  intro hcz8 hkz8
  refine sk ?_
  refine sk ?_
  refine sk ?_
  refine hkz8 _ ?_
  repeat (first | exact Sub.refl _ | refine Sub.skip rfl ?_)
 case az8 => exact rfl
 case bz8 => exact rfl
 case cz8 => exact rfl
 case dz8 => exact rfl
 refine sp (OpV.assign rfl) ?_
 refine WL.nil (En.next (WC.ret ?_))
 refine En.ret1 rfl (Res.tmp rfl) ?_
 obtain rfl := Option.some.inj h
 intro w' hs
 exact ⟨rfl, hs.below⟩

theorem w_spec_MonitorOk {m_p0 : MonitorT} {r : Bool} {q0_0 : Option Addr} {l0_0 k0_0 : Nat} (h : spec_MonitorOk m_p0 = some r) {w : World} (r0_0 : Rd tMode w q0_0 l0_0 k0_0 m_p0.Modes)   :
    Calls Try.prog 55 #[.agg #[.string m_p0.Name, .slice q0_0 l0_0 k0_0, .int .i64 m_p0.Stretch]] w (fun en w' => en = .returned (.bool r) ∧ Ext w w') := by
 obtain rfl := r0_0.1
 unfold spec_MonitorOk at h
 refine enter (vs := [_]) Try.func55 rfl rfl rfl rfl ?_
 refine WC.seq (WC.region ?_)
 refine WL.heavy rfl rfl rfl (OpH.box rfl rfl ?_)
 intro b0_0
 refine sp (OpV.assign rfl) ?_
 refine WL.nil (En.next (WC.seq (WC.seq ?_)))
 obtain ⟨x1_3, e1_3, h⟩ := bnd h
 obtain ⟨q1_11, e1_11, h⟩ := bnd h
 obtain ⟨q1_17, e1_17, h⟩ := bnd h
 refine WC.region ?_
 refine sp (OpV.fieldAddr rfl fo_47_0) ?_
 refine sp (OpV.loadBox rfl pt_9 (.head _) rfl) ?_
 refine sp (OpV.lenS rfl us_9 rfl) ?_
 refine sp (OpV.call (evs.cons rfl (evs.cons rfl (evs.cons rfl (evs.nil)))) ca_41 (fun w hs => w_spec_l01In e1_3)) ?_
 refine sp (OpV.not rfl) ?_
 refine sp (OpV.move rfl) ?_
 refine Lt.ofWL.orQ 10 16 15 (p := ?pz1) (rest := ?qz1) (B := q1_11) rfl (fun hz => orO_t e1_11 hz) ?Tz1 ?Fz1 ?az1 ?bz1 ?cz1 ?dz1 ?ez1
 case Tz1 =>
  intro hcz1 hkz1
  refine sk ?_
  refine sk ?_
  refine sk ?_
  refine sk ?_
  refine sk ?_
  refine hkz1 _ ?_
  repeat (first | exact Sub.refl _ | refine Sub.skip rfl ?_)
 case Fz1 =>
  intro hcz1 hkz1
  have hqz1 := orO_f e1_11 hcz1
  obtain ⟨x1_9, e1_9, hqz1⟩ := bnd hqz1
  obtain rfl := Option.some.inj hqz1
  refine sp (OpV.fieldAddr rfl fo_47_1) ?_
  refine sp (OpV.loadBox rfl pt_45 (.head _) rfl) ?_
  refine sp (OpV.len rfl si_45 rfl) ?_
  refine sp (OpV.call (evs.cons rfl (evs.cons rfl (evs.cons rfl (evs.nil)))) ca_41 (fun w hs => w_spec_l01In e1_9)) ?_
  refine sp (OpV.not rfl) ?_
  refine hkz1 _ ?_ ?_
  exact rfl
  repeat (first | exact Sub.refl _ | refine Sub.skip rfl ?_)
 case az1 => exact rfl
 case bz1 => exact rfl
 case cz1 => exact rfl
 case dz1 => exact rfl
 refine sp (OpV.move rfl) ?_
 refine Lt.ofWL.orQ 17 22 21 (p := ?pz2) (rest := ?qz2) (B := q1_17) rfl (fun hz => orO_t e1_17 hz) ?Tz2 ?Fz2 ?az2 ?bz2 ?cz2 ?dz2 ?ez2
 case Tz2 =>
  intro hcz2 hkz2
  refine sk ?_
  refine sk ?_
  refine sk ?_
  refine sk ?_
  refine hkz2 _ ?_
  repeat (first | exact Sub.refl _ | refine Sub.skip rfl ?_)
 case Fz2 =>
  intro hcz2 hkz2
  have hqz2 := orO_f e1_17 hcz2
  obtain ⟨x1_15, e1_15, hqz2⟩ := bnd hqz2
  obtain rfl := Option.some.inj hqz2
  refine sp (OpV.fieldAddr rfl fo_47_2) ?_
  refine sp (OpV.loadBox rfl pt_3 (.head _) rfl) ?_
  refine sp (OpV.call (evs.cons rfl (evs.cons rfl (evs.cons rfl (evs.nil)))) ca_41 (fun w hs => w_spec_l01In e1_15)) ?_
  refine sp (OpV.not rfl) ?_
  refine hkz2 _ ?_ ?_
  exact rfl
  repeat (first | exact Sub.refl _ | refine Sub.skip rfl ?_)
 case az2 => exact rfl
 case bz2 => exact rfl
 case cz2 => exact rfl
 case dz2 => exact rfl
 refine WL.nil (En.next ?_)
 refine WC.cond rfl ?_ ?_
 ·
  intro hc_1
  replace h := ifO_t hc_1 h
  refine WC.seq (WC.region ?_)
  refine sp (OpV.assign rfl) ?_
  refine WL.nil (En.next (WC.ret (En.then_ret ?_)))
  refine En.ret1 rfl (Res.tmp rfl) ?_
  obtain rfl := Option.some.inj h
  intro w' hs
  exact ⟨rfl, hs.below⟩
 ·
  intro hc_1
  replace h := ifO_f hc_1 h
  refine WC.skip (En.next (WC.seq (WC.seq (WC.region ?_))))
  refine sp (OpV.assign rfl) ?_
  refine WL.nil (En.next (WC.block ?_))
  obtain ⟨zy0, ezy0, h⟩ := bnd h
  refine WC.cut (X := (Unit) × (Unit)) (.exit 0) (fun x => zy0 = .inl x.1) (fun x => match x with | ((), ()) => [(1, .pointer (some ⟨b0_0, 0, .none⟩))]) (fun x => match x with | ((), ()) => [Chunk.box b0_0 47 [.string m_p0.Name, .slice q0_0 m_p0.Modes.length k0_0, .int .i64 m_p0.Stretch]]) ?_ ?_
  ·
   rintro ⟨⟨⟩, ⟨⟩⟩ hx
   replace hx : .inl () = zy0 := hx.symm
   subst hx
   replace h := fork_l h
   show En _ _ _ _ [(1, .pointer (some ⟨b0_0, 0, .none⟩))] [Chunk.box b0_0 47 [.string m_p0.Name, .slice q0_0 m_p0.Modes.length k0_0, .int .i64 m_p0.Stretch]]
   refine En.block_exit (En.next (WC.seq (WC.seq (WC.region ?_))))
   refine sp (OpV.assign rfl) ?_
   refine WL.nil (En.next (WC.block ?_))
   obtain ⟨zy1, ezy1, h⟩ := bnd h
   refine WC.cut (X := (Unit) × (Unit)) (.exit 2) (fun x => zy1 = .inl x.1) (fun x => match x with | ((), ()) => []) (fun x => match x with | ((), ()) => []) ?_ ?_
   ·
    rintro ⟨⟨⟩, ⟨⟩⟩ hx
    replace hx : .inl () = zy1 := hx.symm
    subst hx
    replace h := fork_l h
    show En _ _ _ _ [] []
    refine En.block_exit (En.next (WC.seq (WC.region ?_)))
    refine sp (OpV.assign rfl) ?_
    refine WL.nil (En.next (WC.ret ?_))
    refine En.ret1 rfl (Res.tmp rfl) ?_
    obtain rfl := Option.some.inj h
    intro w' hs
    exact ⟨rfl, hs.below⟩
   ·
    intro zK1_0
    refine WC.loopP (G := Unit) (fun s g => match s, g with | k_1, () => [(1, .pointer (some ⟨b0_0, 0, .none⟩)), (4, .int .i64 k_1)]) (fun s g => match s, g with | k_1, () => [Chunk.box b0_0 47 [.string m_p0.Name, .slice q0_0 m_p0.Modes.length k0_0, .int .i64 m_p0.Stretch]]) 0 () ezy1 (by exact Sub.cons rfl (Sub.cons rfl (Sub.nil _))) (by exact (fun _ h => h)) ?_
    rintro zm1 k_1 ⟨⟩ zo1 zf1 zb1 ze1
    have zh1 : spec_MonitorOk_L1 m_p0 k_1 = some zo1 := zf1
    unfold spec_MonitorOk_L1 at zh1
    show WC _ _ _ _ _ [(1, .pointer (some ⟨b0_0, 0, .none⟩)), (4, .int .i64 k_1)] [Chunk.box b0_0 47 [.string m_p0.Name, .slice q0_0 m_p0.Modes.length k0_0, .int .i64 m_p0.Stretch]]
    refine WC.seq (WC.seq (WC.region ?_))
    refine sp (OpV.move rfl) ?_
    refine sp (OpV.fieldAddr rfl fo_47_1) ?_
    refine sp (OpV.loadBox rfl pt_45 (.head _) rfl) ?_
    refine sp (OpV.len rfl si_45 rfl) ?_
    refine sp (OpV.lss rfl rfl) ?_
    refine WL.nil (En.next ?_)
    refine WC.cond rfl ?_ ?_
    ·
     intro hc_2
     replace zh1 := ifO_t hc_2 zh1
     refine WC.skip (En.next (WC.seq (WC.block (WC.seq ?_))))
     obtain ⟨x11_3, e11_3, zh1⟩ := bnd zh1
     obtain ⟨g11_3, o11_3, _, ha11_3, rfl, hd11_3⟩ := Rd.atIdx r0_0 e11_3
     replace hd11_3 : ∀ (j : Nat) v, ([.int .i64 x11_3.Clock, .int .i64 x11_3.W, .int .i64 x11_3.HFront, .int .i64 x11_3.HSync, .int .i64 x11_3.HBack, .int .i64 x11_3.H, .int .i64 x11_3.VFront, .int .i64 x11_3.VSync, .int .i64 x11_3.VBack] : List Value)[j]? = some v → w.cell? ⟨g11_3, o11_3 + k_1.toNat * 9 + j, .none⟩ = some v := hd11_3
     obtain ⟨x11_5, e11_5, zh1⟩ := bnd zh1
     refine WC.region ?_
     refine sp (OpV.fieldAddr rfl fo_47_1) ?_
     refine sp (OpV.loadBox rfl pt_45 (.head _) rfl) ?_
     refine sp (OpV.move rfl) ?_
     refine sp (OpV.idxA rfl rfl se_45 ha11_3 ⟨(idx_some e11_3).1, (idx_some e11_3).2.1⟩) ?_
     refine sp (OpV.loadN rfl ag_33 rfl (fun w hs => hs.cellsAt hd11_3)) ?_
     refine sp (OpV.call (evs.cons rfl (evs.nil)) ca_68 (fun w hs => w_spec_ModeOk e11_5)) ?_
     refine sp (OpV.not rfl) ?_
     refine WL.nil (En.next ?_)
     refine WC.cond rfl ?_ ?_
     ·
      intro hc_3
      replace zh1 := ifO_t hc_3 zh1
      refine WC.seq (WC.region ?_)
      refine sp (OpV.assign rfl) ?_
      refine WL.nil (En.next (WC.ret (En.block_ret (En.then_ret (En.then_ret (En.block_ret (En.then_ret ?_)))))))
      refine En.ret1 rfl (Res.tmp rfl) ?_
      have hx := exitP ze1 zh1
      subst hx
      replace h := fork_r h
      obtain rfl := Option.some.inj h
      intro w' hs
      exact ⟨rfl, hs.below⟩
     ·
      intro hc_3
      replace zh1 := ifO_f hc_3 zh1
      refine WC.skip (En.block_norm (En.next (WC.region ?_)))
      refine sp (OpV.move rfl) ?_
      refine sp (OpV.addR rfl rfl) ?_
      refine sp (OpV.assign rfl) ?_
      refine WL.nil ?_
      exact En.backP zb1 zh1 () (Sub.cons rfl (Sub.cons rfl (Sub.nil _))) (fun _ h => h)
    ·
     intro hc_2
     replace zh1 := ifO_f hc_2 zh1
     refine WC.exit (En.then_exit (En.then_exit ?_))
     have hx := exitP ze1 zh1
     exact En.wk _ _ (Sub.nil _) (fun _ h => (h).sub (.cons _ (.slnil))) (zK1_0 ((), ()) hx.symm)
  ·
   intro zK0_0
   refine WC.loopP (G := Unit) (fun s g => match s, g with | k_0, () => [(1, .pointer (some ⟨b0_0, 0, .none⟩)), (3, .int .i64 k_0)]) (fun s g => match s, g with | k_0, () => [Chunk.box b0_0 47 [.string m_p0.Name, .slice q0_0 m_p0.Modes.length k0_0, .int .i64 m_p0.Stretch]]) 0 () ezy0 (by exact Sub.cons rfl (Sub.cons rfl (Sub.nil _))) (by exact (fun _ h => h)) ?_
   rintro zm0 k_0 ⟨⟩ zo0 zf0 zb0 ze0
   have zh0 : spec_MonitorOk_L0 m_p0 k_0 = some zo0 := zf0
   unfold spec_MonitorOk_L0 at zh0
   show WC _ _ _ _ _ [(1, .pointer (some ⟨b0_0, 0, .none⟩)), (3, .int .i64 k_0)] [Chunk.box b0_0 47 [.string m_p0.Name, .slice q0_0 m_p0.Modes.length k0_0, .int .i64 m_p0.Stretch]]
   refine WC.seq (WC.seq (WC.region ?_))
   refine sp (OpV.move rfl) ?_
   refine sp (OpV.fieldAddr rfl fo_47_0) ?_
   refine sp (OpV.loadBox rfl pt_9 (.head _) rfl) ?_
   refine sp (OpV.lenS rfl us_9 rfl) ?_
   refine sp (OpV.lss rfl rfl) ?_
   refine WL.nil (En.next ?_)
   refine WC.cond rfl ?_ ?_
   ·
    intro hc_4
    replace zh0 := ifO_t hc_4 zh0
    refine WC.skip (En.next (WC.seq (WC.block (WC.seq ?_))))
    obtain ⟨x6_3, e6_3, zh0⟩ := bnd zh0
    obtain ⟨q6_11, e6_11, zh0⟩ := bnd zh0
    refine WC.region ?_
    refine sp (OpV.fieldAddr rfl fo_47_0) ?_
    refine sp (OpV.loadBox rfl pt_9 (.head _) rfl) ?_
    refine sp (OpV.move rfl) ?_
    refine sp (OpV.sidxR rfl rfl us_9 e6_3) ?_
    refine sp (OpV.lss rfl rfl) ?_
    refine sp (OpV.move rfl) ?_
    refine Lt.ofWL.orQ 35 41 40 (p := ?pz3) (rest := ?qz3) (B := q6_11) rfl (fun hz => orO_t e6_11 hz) ?Tz3 ?Fz3 ?az3 ?bz3 ?cz3 ?dz3 ?ez3
    case Tz3 =>
     intro hcz3 hkz3
     refine sk ?_
     refine sk ?_
     refine sk ?_
     refine sk ?_
     refine sk ?_
     refine hkz3 _ ?_
     repeat (first | exact Sub.refl _ | refine Sub.skip rfl ?_)
    case Fz3 =>
     intro hcz3 hkz3
     have hqz3 := orO_f e6_11 hcz3
     obtain ⟨x6_9, e6_9, hqz3⟩ := bnd hqz3
     obtain rfl := Option.some.inj hqz3
     refine sp (OpV.fieldAddr rfl fo_47_0) ?_
     refine sp (OpV.loadBox rfl pt_9 (.head _) rfl) ?_
     refine sp (OpV.move rfl) ?_
     refine sp (OpV.sidxR rfl rfl us_9 e6_9) ?_
     refine sp (OpV.gtr rfl rfl) ?_
     refine hkz3 _ ?_ ?_
     exact rfl
     repeat (first | exact Sub.refl _ | refine Sub.skip rfl ?_)
    case az3 => exact rfl
    case bz3 => exact rfl
    case cz3 => exact rfl
    case dz3 => exact rfl
    refine WL.nil (En.next ?_)
    refine WC.cond rfl ?_ ?_
    ·
     intro hc_5
     replace zh0 := ifO_t hc_5 zh0
     refine WC.seq (WC.region ?_)
     refine sp (OpV.assign rfl) ?_
     refine WL.nil (En.next (WC.ret (En.block_ret (En.then_ret (En.then_ret (En.block_ret (En.then_ret ?_)))))))
     refine En.ret1 rfl (Res.tmp rfl) ?_
     have hx := exitP ze0 zh0
     subst hx
     replace h := fork_r h
     obtain rfl := Option.some.inj h
     intro w' hs
     exact ⟨rfl, hs.below⟩
    ·
     intro hc_5
     replace zh0 := ifO_f hc_5 zh0
     refine WC.skip (En.block_norm (En.next (WC.region ?_)))
     refine sp (OpV.move rfl) ?_
     refine sp (OpV.addR rfl rfl) ?_
     refine sp (OpV.assign rfl) ?_
     refine WL.nil ?_
     exact En.backP zb0 zh0 () (Sub.cons rfl (Sub.cons rfl (Sub.nil _))) (fun _ h => h)
   ·
    intro hc_4
    replace zh0 := ifO_f hc_4 zh0
    refine WC.exit (En.then_exit (En.then_exit ?_))
    have hx := exitP ze0 zh0
    exact En.wk _ _ (Sub.cons rfl (Sub.nil _)) (fun _ h => h) (zK0_0 ((), ()) hx.symm)

theorem w_spec_ByteSum {s_p0 : ByteArray} {r : Int}  (h : spec_ByteSum s_p0 = some r) {w : World}    :
    Calls Try.prog 56 #[.string s_p0] w (fun en w' => en = .returned (.int .i64 r) ∧ Ext w w') := by
 unfold spec_ByteSum at h
 refine enter (vs := [_]) Try.func56 rfl rfl rfl rfl ?_
 refine WC.seq (WC.region ?_)
 refine sp (OpV.assign rfl) ?_
 refine WL.nil (En.next (WC.seq (WC.region ?_)))
 refine sp (OpV.assign rfl) ?_
 refine WL.nil (En.next (WC.seq (WC.seq (WC.region ?_))))
 refine sp (OpV.assign rfl) ?_
 refine WL.nil (En.next (WC.block ?_))
 obtain ⟨zy0, ezy0, h⟩ := bnd h
 refine WC.cut (X := (Int) × (Unit)) (.exit 0) (fun x => zy0 = x.1) (fun x => match x with | (n_0e, ()) => [(3, .int .i64 n_0e)]) (fun x => match x with | (n_0e, ()) => []) ?_ ?_
 ·
  rintro ⟨n_0e, ⟨⟩⟩ hx
  replace hx : n_0e = zy0 := hx.symm
  subst hx
  show En _ _ _ _ [(3, .int .i64 n_0e)] []
  refine En.block_exit (En.next (WC.seq (WC.region ?_)))
  refine sp (OpV.move rfl) ?_
  refine sp (OpV.assign rfl) ?_
  refine WL.nil (En.next (WC.ret ?_))
  refine En.ret1 rfl (Res.tmp rfl) ?_
  obtain rfl := Option.some.inj h
  intro w' hs
  exact ⟨rfl, hs.below⟩
 ·
  intro zK0_0
  refine WC.loopP (G := Unit) (fun s g => match s, g with | (n_0, k_0), () => [(0, .string s_p0), (3, .int .i64 n_0), (4, .int .i64 k_0)]) (fun s g => match s, g with | (n_0, k_0), () => []) (0, 0) () ezy0 (by exact Sub.cons rfl (Sub.cons rfl (Sub.cons rfl (Sub.nil _)))) (by exact (fun _ h => h)) ?_
  rintro zm0 ⟨n_0, k_0⟩ ⟨⟩ zo0 zf0 zb0 ze0
  have zh0 : spec_ByteSum_L0 s_p0 n_0 k_0 = some zo0 := zf0
  unfold spec_ByteSum_L0 at zh0
  show WC _ _ _ _ _ [(0, .string s_p0), (3, .int .i64 n_0), (4, .int .i64 k_0)] []
  refine WC.seq (WC.seq (WC.region ?_))
  refine sp (OpV.move rfl) ?_
  refine sp (OpV.move rfl) ?_
  refine sp (OpV.lenS rfl us_9 rfl) ?_
  refine sp (OpV.lss rfl rfl) ?_
  refine WL.nil (En.next ?_)
  refine WC.cond rfl ?_ ?_
  ·
   intro hc_1
   replace zh0 := ifO_t hc_1 zh0
   refine WC.skip (En.next (WC.seq (WC.block ?_)))
   obtain ⟨x5_3, e5_3, zh0⟩ := bnd zh0
   refine WC.region ?_
   refine sp (OpV.move rfl) ?_
   refine sp (OpV.move rfl) ?_
   refine sp (OpV.move rfl) ?_
   refine sp (OpV.sidxR rfl rfl us_9 e5_3) ?_
   refine sp (OpV.convR rfl uS_5 ui_3_i64) ?_
   refine sp (OpV.addR rfl rfl) ?_
   refine sp (OpV.remR rfl rfl rfl) ?_
   refine sp (OpV.assign rfl) ?_
   refine WL.nil (En.block_norm (En.next (WC.region ?_)))
   refine sp (OpV.move rfl) ?_
   refine sp (OpV.addR rfl rfl) ?_
   refine sp (OpV.assign rfl) ?_
   refine WL.nil ?_
   exact En.backP zb0 zh0 () (Sub.cons rfl (Sub.cons rfl (Sub.cons rfl (Sub.nil _)))) (fun _ h => h)
  ·
   intro hc_1
   replace zh0 := ifO_f hc_1 zh0
   refine WC.exit (En.then_exit (En.then_exit ?_))
   have hx := exitP ze0 zh0
   exact En.wk _ _ (Sub.cons rfl (Sub.nil _)) (fun _ h => h) (zK0_0 (n_0, ()) hx.symm)

theorem w_spec_BuildDescriptor {a_p0 : MonitorT} {r : ByteArray × Bool} {q0_0 : Option Addr} {l0_0 k0_0 : Nat} (h : spec_BuildDescriptor a_p0 = some r) {w : World} (r0_0 : Rd tMode w q0_0 l0_0 k0_0 a_p0.Modes)   :
    Calls Try.prog 32 #[.agg #[.string a_p0.Name, .slice q0_0 l0_0 k0_0, .int .i64 a_p0.Stretch]] w (fun en w' => en = .returned (.tuple #[.string r.1, .bool r.2]) ∧ Ext w w') := by
 obtain rfl := r0_0.1
 unfold spec_BuildDescriptor at h
 refine enter (vs := [_]) Try.func32 rfl rfl rfl rfl ?_
 refine WC.seq (WC.region ?_)
 refine WL.heavy rfl rfl rfl (OpH.box rfl rfl ?_)
 intro b0_0
 refine sp (OpV.assign rfl) ?_
 refine sp (OpV.assign rfl) ?_
 refine WL.nil (En.next (WC.seq (WC.seq ?_)))
 obtain ⟨x1_1, e1_1, h⟩ := bnd h
 refine WC.region ?_
 refine sp (OpV.loadAll rfl (.head _) ag_47) ?_
 refine sp (OpV.call (evs.cons rfl (evs.nil)) ca_55 (fun w hs => w_spec_MonitorOk e1_1 (r0_0.ext hs.below))) ?_
 refine sp (OpV.not rfl) ?_
 refine WL.nil (En.next ?_)
 refine WC.cond rfl ?_ ?_
 ·
  intro hc_1
  replace h := ifO_t hc_1 h
  refine WC.seq (WC.region ?_)
  refine sp (OpV.assign rfl) ?_
  refine sp (OpV.assign rfl) ?_
  refine WL.nil (En.next (WC.ret (En.then_ret ?_)))
  refine En.ret2 rfl (Res.tmp rfl) (Res.tmp rfl) ?_
  obtain rfl := Option.some.inj h
  intro w' hs
  exact ⟨rfl, hs.below⟩
 ·
  intro hc_1
  replace h := ifO_f hc_1 h
  refine WC.skip (En.next (WC.seq (WC.region ?_)))
  refine sp (OpV.fieldAddr rfl fo_47_0) ?_
  refine sp (OpV.loadBox rfl pt_9 (.head _) rfl) ?_
  refine sp (OpV.lenS rfl us_9 rfl) ?_
  refine sp (OpV.conv8R rfl uS_3 ui_5_u8) ?_
  refine WL.heavy rfl rfl rfl (OpH.litF (A := tU8) (xs := [0, 255, 255, 0, (b8 (a_p0.Name.size : Int))]) tU8_flat (evps.cons rfl (evps.cons rfl (evps.cons rfl (evps.cons rfl (evps.cons rfl (evps.nil)))))) (bs_22_5_0_1_2_3_4 _ _ _ _ _) rfl rfl (Nat.le_of_ble_eq_true rfl) ?_)
  intro b3_4
  refine sp (OpV.assign rfl) ?_
  refine WL.nil (En.next (WC.seq ?_))
  obtain ⟨n4_3, h⟩ := need_some h
  obtain ⟨x4_4, e4_4, h⟩ := bnd h
  refine WC.region ?_
  refine sp (OpV.move rfl) ?_
  refine sp (OpV.fieldAddr rfl fo_47_0) ?_
  refine sp (OpV.loadBox rfl pt_9 (.tail _ (.head _)) rfl) ?_
  refine WL.heavy rfl rfl rfl (OpH.bytesOf (A := tU8) tU8_flat (fun _ => rfl) rfl us_9 sl_22 ui_5_u8 n4_3 ?_)
  intro b4_3 c4_3
  refine WL.heavy rfl rfl rfl (OpH.appS (F := [_]) (A := tU8) tU8_flat rfl rfl rfl mi_22 rfl (by decide) (fun w hs => ((hs.mem (.head _)).2 _ rfl)) e4_4 ?_)
  intro f4_4 a4_4 c4_4
  refine sp (OpV.assign rfl) ?_
  refine WL.nil (En.next (WC.seq ?_))
  obtain ⟨x5_9, e5_9, h⟩ := bnd h
  refine WC.region ?_
  refine sp (OpV.move rfl) ?_
  refine sp (OpV.fieldAddr rfl fo_47_2) ?_
  refine sp (OpV.loadBox rfl pt_3 (.tail _ (.tail _ (.head _))) rfl) ?_
  refine sp (OpV.conv8R rfl uS_3 ui_5_u8) ?_
  refine sp (OpV.fieldAddr rfl fo_47_1) ?_
  refine sp (OpV.loadBox rfl pt_45 (.tail _ (.tail _ (.head _))) rfl) ?_
  refine sp (OpV.len rfl si_45 rfl) ?_
  refine sp (OpV.conv8R rfl uS_3 ui_5_u8) ?_
  refine WL.heavy rfl rfl rfl (OpH.litF (A := tU8) (xs := [(b8 a_p0.Stretch), (b8 (a_p0.Modes.length : Int))]) tU8_flat (evps.cons rfl (evps.cons rfl (evps.nil))) (bs_22_2_0_1 _ _) rfl rfl (Nat.le_of_ble_eq_true rfl) ?_)
  intro b5_8
  refine WL.heavy rfl rfl rfl (OpH.appS (F := [_, _]) (A := tU8) tU8_flat rfl rfl rfl mi_22 rfl (by decide) (fun w hs => (Ow.rd (hs.mem (.head _)))) e5_9 ?_)
  intro f5_9 a5_9 c5_9
  refine sp (OpV.assign rfl) ?_
  refine WL.nil (En.next (WC.seq (WC.seq (WC.region ?_))))
  refine sp (OpV.assign rfl) ?_
  refine WL.nil (En.next (WC.block ?_))
  obtain ⟨zy0, ezy0, h⟩ := bnd h
  refine WC.cut (X := ((List Int)) × ((Option Addr) × Nat × Nat × (List Nat))) (.exit 0) (fun x => zy0 = x.1) (fun x => match x with | (v_0e, (av_0e, nv_0e, cv_0e, fv_0e)) => [(4, .slice av_0e nv_0e cv_0e)]) (fun x => match x with | (v_0e, (av_0e, nv_0e, cv_0e, fv_0e)) => [Chunk.own tU8 fv_0e av_0e nv_0e cv_0e v_0e]) ?_ ?_
  ·
   rintro ⟨v_0e, ⟨av_0e, nv_0e, cv_0e, fv_0e⟩⟩ hx
   replace hx : v_0e = zy0 := hx.symm
   subst hx
   show En _ _ _ _ [(4, .slice av_0e nv_0e cv_0e)] [Chunk.own tU8 fv_0e av_0e nv_0e cv_0e v_0e]
   refine En.block_exit (En.next (WC.seq (WC.region ?_)))
   refine sp (OpV.move rfl) ?_
   refine sp (OpV.strBR (A := tU8) tU8_flat (fun _ => rfl) rfl sl_22 ui_5_u8 us_9 (fun w hs => (Ow.rd (hs.mem (.head _))))) ?_
   refine sp (OpV.assign rfl) ?_
   refine WL.nil (En.next (WC.seq ?_))
   obtain ⟨x12_2, e12_2, h⟩ := bnd h
   obtain ⟨x12_7, e12_7, h⟩ := bnd h
   refine WC.region ?_
   refine sp (OpV.move rfl) ?_
   refine sp (OpV.move rfl) ?_
   refine sp (OpV.call (evs.cons rfl (evs.nil)) ca_56 (fun w hs => w_spec_ByteSum e12_2)) ?_
   refine sp (OpV.subR rfl rfl) ?_
   refine sp (OpV.conv8R rfl uS_3 ui_5_u8) ?_
   refine WL.heavy rfl rfl rfl (OpH.litF (A := tU8) (xs := [(b8 (wr (256 - x12_2)))]) tU8_flat (evps.cons rfl (evps.nil)) (bs_22_1_0 _) rfl rfl (Nat.le_of_ble_eq_true rfl) ?_)
   intro b12_5
   refine sp (OpV.strBR (A := tU8) tU8_flat (fun _ => rfl) rfl sl_22 ui_5_u8 us_9 (fun w hs => (Ow.rd (hs.mem (.head _))))) ?_
   refine sp (OpV.sappR rfl rfl e12_7) ?_
   refine sp (OpV.assign rfl) ?_
   refine sp (OpV.assign rfl) ?_
   refine WL.nil (En.next (WC.ret ?_))
   refine En.ret2 rfl (Res.tmp rfl) (Res.tmp rfl) ?_
   obtain rfl := Option.some.inj h
   intro w' hs
   exact ⟨rfl, hs.below⟩
  ·
   intro zK0_0
   refine WC.loopP (G := (Option Addr) × Nat × Nat × (List Nat)) (fun s g => match s, g with | (v_0, v1_0), (av_0, nv_0, cv_0, fv_0) => [(1, .pointer (some ⟨b0_0, 0, .none⟩)), (4, .slice av_0 nv_0 cv_0), (5, .int .i64 v1_0)]) (fun s g => match s, g with | (v_0, v1_0), (av_0, nv_0, cv_0, fv_0) => [Chunk.box b0_0 47 [.string a_p0.Name, .slice q0_0 a_p0.Modes.length k0_0, .int .i64 a_p0.Stretch], Chunk.own tU8 fv_0 av_0 nv_0 cv_0 v_0]) (x5_9, 0) (a5_9, x5_9.length, c5_9, f5_9) ezy0 (by exact Sub.cons rfl (Sub.cons rfl (Sub.cons rfl (Sub.nil _)))) (by exact (fun _ h => (((h).perm (List.perm_middle (l₁ := [_, _]))).perm (List.perm_middle (l₁ := [_, _, _]))).sub (.cons_cons _ (.cons_cons _ (.cons _ (.cons _ (.slnil))))))) ?_
   rintro zm0 ⟨v_0, v1_0⟩ ⟨av_0, nv_0, cv_0, fv_0⟩ zo0 zf0 zb0 ze0
   have zh0 : spec_BuildDescriptor_L0 a_p0 v_0 v1_0 = some zo0 := zf0
   unfold spec_BuildDescriptor_L0 at zh0
   show WC _ _ _ _ _ [(1, .pointer (some ⟨b0_0, 0, .none⟩)), (4, .slice av_0 nv_0 cv_0), (5, .int .i64 v1_0)] [Chunk.box b0_0 47 [.string a_p0.Name, .slice q0_0 a_p0.Modes.length k0_0, .int .i64 a_p0.Stretch], Chunk.own tU8 fv_0 av_0 nv_0 cv_0 v_0]
   refine WC.seq (WC.seq (WC.region ?_))
   refine sp (OpV.move rfl) ?_
   refine sp (OpV.fieldAddr rfl fo_47_1) ?_
   refine sp (OpV.loadBox rfl pt_45 (.head _) rfl) ?_
   refine sp (OpV.len rfl si_45 rfl) ?_
   refine sp (OpV.lss rfl rfl) ?_
   refine WL.nil (En.next ?_)
   refine WC.cond rfl ?_ ?_
   ·
    intro hc_2
    replace zh0 := ifO_t hc_2 zh0
    refine WC.skip (En.next (WC.seq (WC.block (WC.seq ?_))))
    obtain ⟨x9_3, e9_3, zh0⟩ := bnd zh0
    obtain ⟨g9_3, o9_3, _, ha9_3, rfl, hd9_3⟩ := Rd.atIdx r0_0 e9_3
    replace hd9_3 : ∀ (j : Nat) v, ([.int .i64 x9_3.Clock, .int .i64 x9_3.W, .int .i64 x9_3.HFront, .int .i64 x9_3.HSync, .int .i64 x9_3.HBack, .int .i64 x9_3.H, .int .i64 x9_3.VFront, .int .i64 x9_3.VSync, .int .i64 x9_3.VBack] : List Value)[j]? = some v → w.cell? ⟨g9_3, o9_3 + v1_0.toNat * 9 + j, .none⟩ = some v := hd9_3
    refine WC.region ?_
    refine sp (OpV.fieldAddr rfl fo_47_1) ?_
    refine sp (OpV.loadBox rfl pt_45 (.head _) rfl) ?_
    refine sp (OpV.move rfl) ?_
    refine sp (OpV.idxA rfl rfl se_45 ha9_3 ⟨(idx_some e9_3).1, (idx_some e9_3).2.1⟩) ?_
    refine sp (OpV.loadN rfl ag_33 rfl (fun w hs => hs.cellsAt hd9_3)) ?_
    refine WL.heavy rfl rfl rfl (OpH.alloc zc_33 ?_)
    intro b9_5
    refine WL.heavy0 rfl rfl (OpH.storeTo (A := []) [_, _, _, _, _, _, _, _, _] rfl rfl rfl ts_33 rfl rfl rfl ?_)
    refine WL.nil (En.next ?_)
    obtain ⟨x10_37, e10_37, zh0⟩ := bnd zh0
    refine WC.region ?_
    refine sp (OpV.move rfl) ?_
    refine sp (OpV.fieldAddr rfl fo_33_0) ?_
    refine sp (OpV.loadBox rfl pt_3 (.head _) rfl) ?_
    refine sp (OpV.shrR rfl rfl rfl) ?_
    refine sp (OpV.conv8R rfl uS_3 ui_5_u8) ?_
    refine sp (OpV.fieldAddr rfl fo_33_0) ?_
    refine sp (OpV.loadBox rfl pt_3 (.head _) rfl) ?_
    refine sp (OpV.shrR rfl rfl rfl) ?_
    refine sp (OpV.conv8R rfl uS_3 ui_5_u8) ?_
    refine sp (OpV.fieldAddr rfl fo_33_0) ?_
    refine sp (OpV.loadBox rfl pt_3 (.head _) rfl) ?_
    refine sp (OpV.conv8R rfl uS_3 ui_5_u8) ?_
    refine sp (OpV.fieldAddr rfl fo_33_1) ?_
    refine sp (OpV.loadBox rfl pt_3 (.head _) rfl) ?_
    refine sp (OpV.conv8R rfl uS_3 ui_5_u8) ?_
    refine sp (OpV.fieldAddr rfl fo_33_2) ?_
    refine sp (OpV.loadBox rfl pt_3 (.head _) rfl) ?_
    refine sp (OpV.conv8R rfl uS_3 ui_5_u8) ?_
    refine sp (OpV.fieldAddr rfl fo_33_3) ?_
    refine sp (OpV.loadBox rfl pt_3 (.head _) rfl) ?_
    refine sp (OpV.conv8R rfl uS_3 ui_5_u8) ?_
    refine sp (OpV.fieldAddr rfl fo_33_4) ?_
    refine sp (OpV.loadBox rfl pt_3 (.head _) rfl) ?_
    refine sp (OpV.conv8R rfl uS_3 ui_5_u8) ?_
    refine sp (OpV.fieldAddr rfl fo_33_5) ?_
    refine sp (OpV.loadBox rfl pt_3 (.head _) rfl) ?_
    refine sp (OpV.conv8R rfl uS_3 ui_5_u8) ?_
    refine sp (OpV.fieldAddr rfl fo_33_6) ?_
    refine sp (OpV.loadBox rfl pt_3 (.head _) rfl) ?_
    refine sp (OpV.conv8R rfl uS_3 ui_5_u8) ?_
    refine sp (OpV.fieldAddr rfl fo_33_7) ?_
    refine sp (OpV.loadBox rfl pt_3 (.head _) rfl) ?_
    refine sp (OpV.conv8R rfl uS_3 ui_5_u8) ?_
    refine sp (OpV.fieldAddr rfl fo_33_8) ?_
    refine sp (OpV.loadBox rfl pt_3 (.head _) rfl) ?_
    refine sp (OpV.conv8R rfl uS_3 ui_5_u8) ?_
    refine WL.heavy rfl rfl rfl (OpH.litF (A := tU8) (xs := [(b8 (shr x9_3.Clock 16)), (b8 (shr x9_3.Clock 8)), (b8 x9_3.Clock), (b8 x9_3.W), (b8 x9_3.HFront), (b8 x9_3.HSync), (b8 x9_3.HBack), (b8 x9_3.H), (b8 x9_3.VFront), (b8 x9_3.VSync), (b8 x9_3.VBack)]) tU8_flat (evps.cons rfl (evps.cons rfl (evps.cons rfl (evps.cons rfl (evps.cons rfl (evps.cons rfl (evps.cons rfl (evps.cons rfl (evps.cons rfl (evps.cons rfl (evps.cons rfl (evps.nil)))))))))))) (bs_22_11_0_1_2_3_4_5_6_7_8_9_10 _ _ _ _ _ _ _ _ _ _ _) rfl rfl (Nat.le_of_ble_eq_true rfl) ?_)
    intro b10_36
    refine WL.heavy rfl rfl rfl (OpH.appS (F := [_, _, _]) (A := tU8) tU8_flat rfl rfl rfl mi_22 rfl (by decide) (fun w hs => (Ow.rd (hs.mem (.head _)))) e10_37 ?_)
    intro f10_37 a10_37 c10_37
    refine sp (OpV.assign rfl) ?_
    refine WL.nil (En.block_norm (En.next (WC.region ?_)))
    refine sp (OpV.move rfl) ?_
    refine sp (OpV.addR rfl rfl) ?_
    refine sp (OpV.assign rfl) ?_
    refine WL.nil ?_
    exact En.backP zb0 zh0 (a10_37, x10_37.length, c10_37, f10_37) (Sub.cons rfl (Sub.cons rfl (Sub.cons rfl (Sub.nil _)))) (fun _ h => (((h).perm (List.perm_middle (l₁ := [_, _, _]))).perm (List.perm_middle (l₁ := [_, _, _]))).sub (.cons_cons _ (.cons_cons _ (.cons _ (.cons _ (.slnil))))))
   ·
    intro hc_2
    replace zh0 := ifO_f hc_2 zh0
    refine WC.exit (En.then_exit (En.then_exit ?_))
    have hx := exitP ze0 zh0
    exact En.wk _ _ (Sub.cons rfl (Sub.nil _)) (fun _ h => ((h).perm (List.perm_middle (l₁ := [_]))).sub (.cons_cons _ (.cons _ (.slnil)))) (zK0_0 (v_0, (av_0, nv_0, cv_0, fv_0)) hx.symm)

theorem w_impl_modeNumbers {m_p0 : ModeT} {r : Unit × ModeT} {b0 : Nat} (h : impl_modeNumbers m_p0 = some r) {w0 w : World} {C : List Chunk} (hs0 : St w0 (Chunk.box b0 33 [.int .i64 m_p0.Clock, .int .i64 m_p0.W, .int .i64 m_p0.HFront, .int .i64 m_p0.HSync, .int .i64 m_p0.HBack, .int .i64 m_p0.H, .int .i64 m_p0.VFront, .int .i64 m_p0.VSync, .int .i64 m_p0.VBack] :: C) w)  :
    Calls Try.prog 52 #[.pointer (some ⟨b0, 0, .none⟩)] w (fun en w' => ∃ rv G, en = .returned rv ∧ (∃ (b0_p : Nat), rv = .slice (some ⟨b0_p, 0, .none⟩) 8 8 ∧ G = Chunk.box b0_p 82 [.pointer (some ⟨b0, 1, .none⟩), .pointer (some ⟨b0, 2, .none⟩), .pointer (some ⟨b0, 3, .none⟩), .pointer (some ⟨b0, 4, .none⟩), .pointer (some ⟨b0, 5, .none⟩), .pointer (some ⟨b0, 6, .none⟩), .pointer (some ⟨b0, 7, .none⟩), .pointer (some ⟨b0, 8, .none⟩)] :: Chunk.box b0 33 [.int .i64 r.2.Clock, .int .i64 r.2.W, .int .i64 r.2.HFront, .int .i64 r.2.HSync, .int .i64 r.2.HBack, .int .i64 r.2.H, .int .i64 r.2.VFront, .int .i64 r.2.VSync, .int .i64 r.2.VBack] :: C) ∧ St w0 G w') := by
 unfold impl_modeNumbers at h
 refine enterF hs0 (vs := [_]) Try.func52 rfl rfl rfl rfl ?_
 refine WC.seq (WC.region ?_)
 refine sp (OpV.assign rfl) ?_
 refine WL.nil (En.next (WC.seq ?_))
 refine WC.drawnH [] (_ :: C) (fun _ h => h) (by kernel_rfl) ?_
 refine WAE.take (i := 0) rfl (by kernel_rfl) (by kernel_rfl) (by kernel_rfl) rfl rfl rfl (OpV.move rfl) ?_
 refine WAE.take (i := 1) rfl (by kernel_rfl) (by kernel_rfl) (by kernel_rfl) rfl rfl rfl (OpV.nilCheck rfl) ?_
 refine WAE.take (i := 2) rfl (by kernel_rfl) (by kernel_rfl) (by kernel_rfl) rfl rfl rfl (OpV.fieldAddr rfl fo_33_1) ?_
 refine WAE.take (i := 3) rfl (by kernel_rfl) (by kernel_rfl) (by kernel_rfl) rfl rfl rfl (OpV.move rfl) ?_
 refine WAE.take (i := 4) rfl (by kernel_rfl) (by kernel_rfl) (by kernel_rfl) rfl rfl rfl (OpV.nilCheck rfl) ?_
 refine WAE.take (i := 5) rfl (by kernel_rfl) (by kernel_rfl) (by kernel_rfl) rfl rfl rfl (OpV.fieldAddr rfl fo_33_2) ?_
 refine WAE.take (i := 6) rfl (by kernel_rfl) (by kernel_rfl) (by kernel_rfl) rfl rfl rfl (OpV.move rfl) ?_
 refine WAE.take (i := 7) rfl (by kernel_rfl) (by kernel_rfl) (by kernel_rfl) rfl rfl rfl (OpV.nilCheck rfl) ?_
 refine WAE.take (i := 8) rfl (by kernel_rfl) (by kernel_rfl) (by kernel_rfl) rfl rfl rfl (OpV.fieldAddr rfl fo_33_3) ?_
 refine WAE.take (i := 9) rfl (by kernel_rfl) (by kernel_rfl) (by kernel_rfl) rfl rfl rfl (OpV.move rfl) ?_
 refine WAE.take (i := 10) rfl (by kernel_rfl) (by kernel_rfl) (by kernel_rfl) rfl rfl rfl (OpV.nilCheck rfl) ?_
 refine WAE.take (i := 11) rfl (by kernel_rfl) (by kernel_rfl) (by kernel_rfl) rfl rfl rfl (OpV.fieldAddr rfl fo_33_4) ?_
 refine WAE.take (i := 12) rfl (by kernel_rfl) (by kernel_rfl) (by kernel_rfl) rfl rfl rfl (OpV.move rfl) ?_
 refine WAE.take (i := 13) rfl (by kernel_rfl) (by kernel_rfl) (by kernel_rfl) rfl rfl rfl (OpV.nilCheck rfl) ?_
 refine WAE.take (i := 14) rfl (by kernel_rfl) (by kernel_rfl) (by kernel_rfl) rfl rfl rfl (OpV.fieldAddr rfl fo_33_5) ?_
 refine WAE.take (i := 15) rfl (by kernel_rfl) (by kernel_rfl) (by kernel_rfl) rfl rfl rfl (OpV.move rfl) ?_
 refine WAE.take (i := 16) rfl (by kernel_rfl) (by kernel_rfl) (by kernel_rfl) rfl rfl rfl (OpV.nilCheck rfl) ?_
 refine WAE.take (i := 17) rfl (by kernel_rfl) (by kernel_rfl) (by kernel_rfl) rfl rfl rfl (OpV.fieldAddr rfl fo_33_6) ?_
 refine WAE.take (i := 18) rfl (by kernel_rfl) (by kernel_rfl) (by kernel_rfl) rfl rfl rfl (OpV.move rfl) ?_
 refine WAE.take (i := 19) rfl (by kernel_rfl) (by kernel_rfl) (by kernel_rfl) rfl rfl rfl (OpV.nilCheck rfl) ?_
 refine WAE.take (i := 20) rfl (by kernel_rfl) (by kernel_rfl) (by kernel_rfl) rfl rfl rfl (OpV.fieldAddr rfl fo_33_7) ?_
 refine WAE.take (i := 21) rfl (by kernel_rfl) (by kernel_rfl) (by kernel_rfl) rfl rfl rfl (OpV.move rfl) ?_
 refine WAE.take (i := 22) rfl (by kernel_rfl) (by kernel_rfl) (by kernel_rfl) rfl rfl rfl (OpV.nilCheck rfl) ?_
 refine WAE.take (i := 23) rfl (by kernel_rfl) (by kernel_rfl) (by kernel_rfl) rfl rfl rfl (OpV.fieldAddr rfl fo_33_8) ?_
 refine WAE.all (rs := [24]) (by kernel_rfl) rfl (AllR.cons rfl rfl rfl rfl ?_ AllR.nil)
 refine OpH.buildSlice (evps.cons rfl (evps.cons rfl (evps.cons rfl (evps.cons rfl (evps.cons rfl (evps.cons rfl (evps.cons rfl (evps.cons rfl (evps.nil))))))))) (bs_79_8_0_1_2_3_4_5_6_7 _ _ _ _ _ _ _ _) ?_
 intro b1_24
 refine ⟨[_], rfl, ?_⟩
 refine WAE.rebase (H := []) ?_
 refine WAE.take (i := 25) rfl (by kernel_rfl) (by kernel_rfl) (by kernel_rfl) rfl rfl rfl (OpV.assign rfl) ?_
 refine WAE.done (by kernel_rfl) ?_ _
 refine En.next (WC.ret ?_)
 refine En.ret1 rfl (Res.tmp rfl) ?_
 obtain rfl := Option.some.inj h
 intro w' hs
 have hs := hs
 exact ⟨_, _, rfl, ⟨b1_24, rfl, rfl⟩, hs⟩

theorem w_impl_ByteSum {s_p0 : ByteArray} {r : Int}  (h : impl_ByteSum s_p0 = some r) {w : World}    :
    Calls Try.prog 29 #[.string s_p0] w (fun en w' => en = .returned (.int .i64 r) ∧ Ext w w') := by
 unfold impl_ByteSum at h
 refine enter (vs := [_]) Try.func29 rfl rfl rfl rfl ?_
 refine WC.seq (WC.region ?_)
 refine sp (OpV.assign rfl) ?_
 refine WL.nil (En.next (WC.seq (WC.region ?_)))
 refine sp (OpV.assign rfl) ?_
 refine WL.nil (En.next (WC.seq (WC.seq (WC.region ?_))))
 refine sp (OpV.move rfl) ?_
 refine sp (OpV.lenS rfl us_9 rfl) ?_
 refine sp (OpV.move rfl) ?_
 refine WL.nil (En.next (WC.block ?_))
 obtain ⟨zy0, ezy0, h⟩ := bnd h
 refine WC.cut (X := (Int) × (Unit)) (.exit 0) (fun x => zy0 = x.1) (fun x => match x with | (n_0e, ()) => [(3, .int .i64 n_0e)]) (fun x => match x with | (n_0e, ()) => []) ?_ ?_
 ·
  rintro ⟨n_0e, ⟨⟩⟩ hx
  replace hx : n_0e = zy0 := hx.symm
  subst hx
  show En _ _ _ _ [(3, .int .i64 n_0e)] []
  refine En.block_exit (En.next (WC.seq (WC.region ?_)))
  refine sp (OpV.move rfl) ?_
  refine sp (OpV.remR rfl rfl rfl) ?_
  refine sp (OpV.assign rfl) ?_
  refine WL.nil (En.next (WC.ret ?_))
  refine En.ret1 rfl (Res.tmp rfl) ?_
  obtain rfl := Option.some.inj h
  intro w' hs
  exact ⟨rfl, hs.below⟩
 ·
  intro zK0_0
  refine WC.loopP (G := Unit) (fun s g => match s, g with | (n_0, v_0), () => [(0, .string s_p0), (3, .int .i64 n_0), (6, .int .i64 (s_p0.size : Int)), (7, .int .i64 v_0)]) (fun s g => match s, g with | (n_0, v_0), () => []) (0, 0) () ezy0 (by exact Sub.cons rfl (Sub.cons rfl (Sub.cons rfl (Sub.cons rfl (Sub.nil _))))) (by exact (fun _ h => h)) ?_
  rintro zm0 ⟨n_0, v_0⟩ ⟨⟩ zo0 zf0 zb0 ze0
  have zh0 : impl_ByteSum_L0 s_p0 n_0 v_0 = some zo0 := zf0
  unfold impl_ByteSum_L0 at zh0
  show WC _ _ _ _ _ [(0, .string s_p0), (3, .int .i64 n_0), (6, .int .i64 (s_p0.size : Int)), (7, .int .i64 v_0)] []
  refine WC.seq (WC.region ?_)
  refine sp (OpV.lss rfl rfl) ?_
  refine WL.nil (En.next (WC.seq ?_))
  refine WC.cond rfl ?_ ?_
  ·
   intro hc_1
   replace zh0 := ifO_t hc_1 zh0
   refine WC.skip (En.next (WC.seq (WC.block (WC.seq (WC.region ?_)))))
   refine sp (OpV.move rfl) ?_
   refine sp (OpV.assign rfl) ?_
   refine WL.nil (En.next ?_)
   obtain ⟨x5_3, e5_3, zh0⟩ := bnd zh0
   refine WC.region ?_
   refine sp (OpV.move rfl) ?_
   refine sp (OpV.move rfl) ?_
   refine sp (OpV.move rfl) ?_
   refine sp (OpV.sidxR rfl rfl us_9 e5_3) ?_
   refine sp (OpV.convR rfl uS_5 ui_3_i64) ?_
   refine sp (OpV.addR rfl rfl) ?_
   refine sp (OpV.assign rfl) ?_
   refine WL.nil (En.block_norm (En.next (WC.region ?_)))
   refine sp (OpV.addR rfl rfl) ?_
   refine sp (OpV.move rfl) ?_
   refine WL.nil ?_
   exact En.backP zb0 zh0 () (Sub.cons rfl (Sub.cons rfl (Sub.cons rfl (Sub.cons rfl (Sub.nil _))))) (fun _ h => h)
  ·
   intro hc_1
   replace zh0 := ifO_f hc_1 zh0
   refine WC.exit (En.then_exit (En.then_exit ?_))
   have hx := exitP ze0 zh0
   exact En.wk _ _ (Sub.cons rfl (Sub.nil _)) (fun _ h => h) (zK0_0 (n_0, ()) hx.symm)

theorem w_impl_BuildDescriptor {a_p0 : MonitorT} {r : ByteArray × Bool} {q0_0 : Option Addr} {l0_0 k0_0 : Nat} (h : impl_BuildDescriptor a_p0 = some r) {w : World} (r0_0 : Rd tMode w q0_0 l0_0 k0_0 a_p0.Modes)   :
    Calls Try.prog 27 #[.agg #[.string a_p0.Name, .slice q0_0 l0_0 k0_0, .int .i64 a_p0.Stretch]] w (fun en w' => en = .returned (.tuple #[.string r.1, .bool r.2]) ∧ Ext w w') := by
 obtain rfl := r0_0.1
 unfold impl_BuildDescriptor at h
 refine enter (vs := [_]) Try.func27 rfl rfl rfl rfl ?_
 refine WC.seq (WC.region ?_)
 refine WL.heavy rfl rfl rfl (OpH.box rfl rfl ?_)
 intro b0_0
 refine sp (OpV.assign rfl) ?_
 refine sp (OpV.assign rfl) ?_
 refine WL.nil (En.next (WC.seq (WC.seq ?_)))
 obtain ⟨x1_1, e1_1, h⟩ := bnd h
 refine WC.region ?_
 refine sp (OpV.loadAll rfl (.head _) ag_47) ?_
 refine sp (OpV.call (evs.cons rfl (evs.nil)) ca_30 (fun w hs => w_impl_MonitorOk e1_1 (r0_0.ext hs.below))) ?_
 refine sp (OpV.not rfl) ?_
 refine WL.nil (En.next ?_)
 refine WC.cond rfl ?_ ?_
 ·
  intro hc_1
  replace h := ifO_t hc_1 h
  refine WC.seq (WC.region ?_)
  refine sp (OpV.assign rfl) ?_
  refine sp (OpV.assign rfl) ?_
  refine WL.nil (En.next (WC.ret (En.then_ret ?_)))
  refine En.ret2 rfl (Res.tmp rfl) (Res.tmp rfl) ?_
  obtain rfl := Option.some.inj h
  intro w' hs
  exact ⟨rfl, hs.below⟩
 ·
  intro hc_1
  replace h := ifO_f hc_1 h
  refine WC.skip (En.next (WC.seq ?_))
  obtain ⟨x3_7, e3_7, h⟩ := bnd h
  refine WC.region ?_
  refine sp (OpV.fieldAddr rfl fo_47_0) ?_
  refine sp (OpV.loadBox rfl pt_9 (.head _) rfl) ?_
  refine sp (OpV.lenS rfl us_9 rfl) ?_
  refine sp (OpV.conv8R rfl uS_3 ui_5_u8) ?_
  refine WL.heavy rfl rfl rfl (OpH.litF (A := tU8) (xs := [0, 255, 255, 0, (b8 (a_p0.Name.size : Int))]) tU8_flat (evps.cons rfl (evps.cons rfl (evps.cons rfl (evps.cons rfl (evps.cons rfl (evps.nil)))))) (bs_22_5_0_1_2_3_4 _ _ _ _ _) rfl rfl (Nat.le_of_ble_eq_true rfl) ?_)
  intro b3_4
  refine sp (OpV.fieldAddr rfl fo_47_0) ?_
  refine sp (OpV.loadBox rfl pt_9 (.tail _ (.head _)) rfl) ?_
  refine WL.heavy rfl rfl rfl (OpH.appB (F := []) (A := tU8) tU8_flat (fun _ => rfl) rfl rfl rfl mi_22 rfl (by decide) us_9 e3_7 ?_)
  intro f3_7 a3_7 c3_7
  refine sp (OpV.assign rfl) ?_
  refine WL.nil (En.next (WC.seq ?_))
  obtain ⟨x4_9, e4_9, h⟩ := bnd h
  refine WC.region ?_
  refine sp (OpV.move rfl) ?_
  refine sp (OpV.fieldAddr rfl fo_47_2) ?_
  refine sp (OpV.loadBox rfl pt_3 (.tail _ (.head _)) rfl) ?_
  refine sp (OpV.conv8R rfl uS_3 ui_5_u8) ?_
  refine sp (OpV.fieldAddr rfl fo_47_1) ?_
  refine sp (OpV.loadBox rfl pt_45 (.tail _ (.head _)) rfl) ?_
  refine sp (OpV.len rfl si_45 rfl) ?_
  refine sp (OpV.conv8R rfl uS_3 ui_5_u8) ?_
  refine WL.heavy rfl rfl rfl (OpH.litF (A := tU8) (xs := [(b8 a_p0.Stretch), (b8 (a_p0.Modes.length : Int))]) tU8_flat (evps.cons rfl (evps.cons rfl (evps.nil))) (bs_22_2_0_1 _ _) rfl rfl (Nat.le_of_ble_eq_true rfl) ?_)
  intro b4_8
  refine WL.heavy rfl rfl rfl (OpH.appS (F := [_]) (A := tU8) tU8_flat rfl rfl rfl mi_22 rfl (by decide) (fun w hs => (Ow.rd (hs.mem (.head _)))) e4_9 ?_)
  intro f4_9 a4_9 c4_9
  refine sp (OpV.assign rfl) ?_
  refine WL.nil (En.next (WC.seq (WC.seq (WC.region ?_))))
  refine sp (OpV.fieldAddr rfl fo_47_1) ?_
  refine sp (OpV.loadBox rfl pt_45 (.tail _ (.tail _ (.head _))) rfl) ?_
  refine sp (OpV.len rfl si_45 rfl) ?_
  refine sp (OpV.move rfl) ?_
  refine WL.nil (En.next (WC.block ?_))
  obtain ⟨zy0, ezy0, h⟩ := bnd h
  refine WC.cut (X := ((List Int)) × ((Option Addr) × Nat × Nat × (List Nat))) (.exit 0) (fun x => zy0 = x.1) (fun x => match x with | (v_0e, (av_0e, nv_0e, cv_0e, fv_0e)) => [(4, .slice av_0e nv_0e cv_0e)]) (fun x => match x with | (v_0e, (av_0e, nv_0e, cv_0e, fv_0e)) => [Chunk.own tU8 fv_0e av_0e nv_0e cv_0e v_0e]) ?_ ?_
  ·
   rintro ⟨v_0e, ⟨av_0e, nv_0e, cv_0e, fv_0e⟩⟩ hx
   replace hx : v_0e = zy0 := hx.symm
   subst hx
   show En _ _ _ _ [(4, .slice av_0e nv_0e cv_0e)] [Chunk.own tU8 fv_0e av_0e nv_0e cv_0e v_0e]
   refine En.block_exit (En.next (WC.seq ?_))
   obtain ⟨x15_3, e15_3, h⟩ := bnd h
   obtain ⟨x15_7, e15_7, h⟩ := bnd h
   refine WC.region ?_
   refine sp (OpV.move rfl) ?_
   refine sp (OpV.move rfl) ?_
   refine sp (OpV.strBR (A := tU8) tU8_flat (fun _ => rfl) rfl sl_22 ui_5_u8 us_9 (fun w hs => (Ow.rd (hs.mem (.head _))))) ?_
   refine sp (OpV.call (evs.cons rfl (evs.nil)) ca_29 (fun w hs => w_impl_ByteSum e15_3)) ?_
   refine sp (OpV.negR rfl) ?_
   refine sp (OpV.conv8R rfl uS_3 ui_5_u8) ?_
   refine WL.heavy rfl rfl rfl (OpH.litF (A := tU8) (xs := [(b8 (wr (0 - x15_3)))]) tU8_flat (evps.cons rfl (evps.nil)) (bs_22_1_0 _) rfl rfl (Nat.le_of_ble_eq_true rfl) ?_)
   intro b15_6
   refine WL.heavy rfl rfl rfl (OpH.appS (F := [_]) (A := tU8) tU8_flat rfl rfl rfl mi_22 rfl (by decide) (fun w hs => (Ow.rd (hs.mem (.head _)))) e15_7 ?_)
   intro f15_7 a15_7 c15_7
   refine sp (OpV.strBR (A := tU8) tU8_flat (fun _ => rfl) rfl sl_22 ui_5_u8 us_9 (fun w hs => (Ow.rd (hs.mem (.tail _ (.head _)))))) ?_
   refine sp (OpV.assign rfl) ?_
   refine sp (OpV.assign rfl) ?_
   refine WL.nil (En.next (WC.ret ?_))
   refine En.ret2 rfl (Res.tmp rfl) (Res.tmp rfl) ?_
   obtain rfl := Option.some.inj h
   intro w' hs
   exact ⟨rfl, hs.below⟩
  ·
   intro zK0_0
   refine WC.loopP (G := (Option Addr) × Nat × Nat × (List Nat)) (fun s g => match s, g with | (v_0, v1_0), (av_0, nv_0, cv_0, fv_0) => [(4, .slice av_0 nv_0 cv_0), (31, .slice q0_0 a_p0.Modes.length k0_0), (32, .int .i64 (a_p0.Modes.length : Int)), (33, .int .i64 v1_0)]) (fun s g => match s, g with | (v_0, v1_0), (av_0, nv_0, cv_0, fv_0) => [Chunk.own tU8 fv_0 av_0 nv_0 cv_0 v_0]) (x4_9, 0) (a4_9, x4_9.length, c4_9, f4_9) ezy0 (by exact Sub.cons rfl (Sub.cons rfl (Sub.cons rfl (Sub.cons rfl (Sub.nil _))))) (by exact (fun _ h => ((h).perm (List.perm_middle (l₁ := [_]))).sub (.cons_cons _ (.cons _ (.cons _ (.slnil)))))) ?_
   rintro zm0 ⟨v_0, v1_0⟩ ⟨av_0, nv_0, cv_0, fv_0⟩ zo0 zf0 zb0 ze0
   have zh0 : impl_BuildDescriptor_L0 a_p0 v_0 v1_0 = some zo0 := zf0
   unfold impl_BuildDescriptor_L0 at zh0
   show WC _ _ _ _ _ [(4, .slice av_0 nv_0 cv_0), (31, .slice q0_0 a_p0.Modes.length k0_0), (32, .int .i64 (a_p0.Modes.length : Int)), (33, .int .i64 v1_0)] [Chunk.own tU8 fv_0 av_0 nv_0 cv_0 v_0]
   refine WC.seq (WC.region ?_)
   refine sp (OpV.lss rfl rfl) ?_
   refine WL.nil (En.next (WC.seq ?_))
   refine WC.cond rfl ?_ ?_
   ·
    intro hc_2
    replace zh0 := ifO_t hc_2 zh0
    refine WC.skip (En.next (WC.seq (WC.block (WC.seq ?_))))
    obtain ⟨x7_0, e7_0, zh0⟩ := bnd zh0
    obtain ⟨g7_0, o7_0, _, ha7_0, rfl, hd7_0⟩ := Rd.atIdx r0_0 e7_0
    replace hd7_0 : ∀ (j : Nat) v, ([.int .i64 x7_0.Clock, .int .i64 x7_0.W, .int .i64 x7_0.HFront, .int .i64 x7_0.HSync, .int .i64 x7_0.HBack, .int .i64 x7_0.H, .int .i64 x7_0.VFront, .int .i64 x7_0.VSync, .int .i64 x7_0.VBack] : List Value)[j]? = some v → w.cell? ⟨g7_0, o7_0 + v1_0.toNat * 9 + j, .none⟩ = some v := hd7_0
    refine WC.region ?_
    refine sp (OpV.idxA rfl rfl se_45 ha7_0 ⟨(idx_some e7_0).1, (idx_some e7_0).2.1⟩) ?_
    refine sp (OpV.loadN rfl ag_33 rfl (fun w hs => hs.cellsAt hd7_0)) ?_
    refine WL.heavy rfl rfl rfl (OpH.alloc zc_33 ?_)
    intro b7_2
    refine WL.heavy0 rfl rfl (OpH.storeTo (A := []) [_, _, _, _, _, _, _, _, _] rfl rfl rfl ts_33 rfl rfl rfl ?_)
    refine WL.nil (En.next (WC.seq ?_))
    obtain ⟨x8_13, e8_13, zh0⟩ := bnd zh0
    refine WC.region ?_
    refine sp (OpV.move rfl) ?_
    refine sp (OpV.fieldAddr rfl fo_33_0) ?_
    refine sp (OpV.loadBox rfl pt_3 (.head _) rfl) ?_
    refine sp (OpV.shrR rfl rfl rfl) ?_
    refine sp (OpV.conv8R rfl uS_3 ui_5_u8) ?_
    refine sp (OpV.fieldAddr rfl fo_33_0) ?_
    refine sp (OpV.loadBox rfl pt_3 (.head _) rfl) ?_
    refine sp (OpV.shrR rfl rfl rfl) ?_
    refine sp (OpV.conv8R rfl uS_3 ui_5_u8) ?_
    refine sp (OpV.fieldAddr rfl fo_33_0) ?_
    refine sp (OpV.loadBox rfl pt_3 (.head _) rfl) ?_
    refine sp (OpV.conv8R rfl uS_3 ui_5_u8) ?_
    refine WL.heavy rfl rfl rfl (OpH.litF (A := tU8) (xs := [(b8 (shr x7_0.Clock 16)), (b8 (shr x7_0.Clock 8)), (b8 x7_0.Clock)]) tU8_flat (evps.cons rfl (evps.cons rfl (evps.cons rfl (evps.nil)))) (bs_22_3_0_1_2 _ _ _) rfl rfl (Nat.le_of_ble_eq_true rfl) ?_)
    intro b8_12
    refine WL.heavy rfl rfl rfl (OpH.appS (F := [_, _]) (A := tU8) tU8_flat rfl rfl rfl mi_22 rfl (by decide) (fun w hs => (Ow.rd (hs.mem (.head _)))) e8_13 ?_)
    intro f8_13 a8_13 c8_13
    refine sp (OpV.assign rfl) ?_
    refine WL.nil (En.next (WC.seq ?_))
    obtain ⟨⟨x9_0a, x9_0b⟩, e9_0, zh0⟩ := bnd zh0
    refine WC.region ?_
    refine WL.wkF (fun _ h => h.perm (List.perm_middle (l₁ := [_]))) ?_
    refine WL.heavy rfl rfl rfl (OpH.callX (evs.cons rfl (evs.nil)) ca_52 (fun w hs => w_impl_modeNumbers e9_0 hs) ?_)
    rintro _ _ ⟨b9_00p, rfl, rfl⟩
    refine sp (OpV.len rfl si_79 rfl) ?_
    refine sp (OpV.move rfl) ?_
    refine WL.nil (En.next (WC.block ?_))
    refine WC.unroll 9 (RC.succ ?_)
    refine WC.seq (WC.region ?_)
    refine sp (OpV.bq (b := true) (OpV.lss rfl rfl) (by rfl)) ?_
    refine WL.nil (En.next (WC.seq ?_))
    refine WC.cond rfl (fun _ => ?_) (fun hc => by cases hc)
    refine WC.skip (En.next (WC.seq (WC.block (WC.seq (WC.region ?_)))))
    refine sp (OpV.idxA rfl rfl se_79 rfl (by decide)) ?_
    refine sp (OpV.loadBox rfl pt_82 (.head _) rfl) ?_
    refine sp (OpV.assign rfl) ?_
    refine WL.nil (En.next ?_)
    obtain ⟨x12r1_6, e12r1_6, zh0⟩ := bnd zh0
    refine WC.region ?_
    refine sp (OpV.move rfl) ?_
    refine sp (OpV.move rfl) ?_
    refine sp (OpV.nilCheck rfl) ?_
    refine sp (OpV.loadBox rfl pt_3 (.tail _ (.head _)) rfl) ?_
    refine sp (OpV.conv8R rfl uS_3 ui_5_u8) ?_
    refine WL.heavy rfl rfl rfl (OpH.litF (A := tU8) (xs := [(b8 x9_0b.W)]) tU8_flat (evps.cons rfl (evps.nil)) (bs_22_1_0 _) rfl rfl (Nat.le_of_ble_eq_true rfl) ?_)
    intro b12r1_5
    refine WL.heavy rfl rfl rfl (OpH.appS (F := [_, _, _, _]) (A := tU8) tU8_flat rfl rfl rfl mi_22 rfl (by decide) (fun w hs => (Ow.rd (hs.mem (.head _)))) e12r1_6 ?_)
    intro f12r1_6 a12r1_6 c12r1_6
    refine sp (OpV.assign rfl) ?_
    refine WL.nil (En.block_norm (En.next (WC.region ?_)))
    refine sp (OpV.iq (n := 1) (OpV.addR rfl rfl) (by rfl)) ?_
    refine sp (OpV.move rfl) ?_
    refine WL.nil ?_
    refine En.again (RC.succ ?_)
    refine WC.seq (WC.region ?_)
    refine sp (OpV.bq (b := true) (OpV.lss rfl rfl) (by rfl)) ?_
    refine WL.nil (En.next (WC.seq ?_))
    refine WC.cond rfl (fun _ => ?_) (fun hc => by cases hc)
    refine WC.skip (En.next (WC.seq (WC.block (WC.seq (WC.region ?_)))))
    refine sp (OpV.idxA rfl rfl se_79 rfl (by decide)) ?_
    refine sp (OpV.loadBox rfl pt_82 (.tail _ (.head _)) rfl) ?_
    refine sp (OpV.assign rfl) ?_
    refine WL.nil (En.next ?_)
    obtain ⟨x12r2_6, e12r2_6, zh0⟩ := bnd zh0
    refine WC.region ?_
    refine sp (OpV.move rfl) ?_
    refine sp (OpV.move rfl) ?_
    refine sp (OpV.nilCheck rfl) ?_
    refine sp (OpV.loadBox rfl pt_3 (.tail _ (.tail _ (.head _))) rfl) ?_
    refine sp (OpV.conv8R rfl uS_3 ui_5_u8) ?_
    refine WL.heavy rfl rfl rfl (OpH.litF (A := tU8) (xs := [(b8 x9_0b.HFront)]) tU8_flat (evps.cons rfl (evps.nil)) (bs_22_1_0 _) rfl rfl (Nat.le_of_ble_eq_true rfl) ?_)
    intro b12r2_5
    refine WL.heavy rfl rfl rfl (OpH.appS (F := [_, _, _, _, _]) (A := tU8) tU8_flat rfl rfl rfl mi_22 rfl (by decide) (fun w hs => (Ow.rd (hs.mem (.head _)))) e12r2_6 ?_)
    intro f12r2_6 a12r2_6 c12r2_6
    refine sp (OpV.assign rfl) ?_
    refine WL.nil (En.block_norm (En.next (WC.region ?_)))
    refine sp (OpV.iq (n := 2) (OpV.addR rfl rfl) (by rfl)) ?_
    refine sp (OpV.move rfl) ?_
    refine WL.nil ?_
    refine En.again (RC.succ ?_)
    refine WC.seq (WC.region ?_)
    refine sp (OpV.bq (b := true) (OpV.lss rfl rfl) (by rfl)) ?_
    refine WL.nil (En.next (WC.seq ?_))
    refine WC.cond rfl (fun _ => ?_) (fun hc => by cases hc)
    refine WC.skip (En.next (WC.seq (WC.block (WC.seq (WC.region ?_)))))
    refine sp (OpV.idxA rfl rfl se_79 rfl (by decide)) ?_
    refine sp (OpV.loadBox rfl pt_82 (.tail _ (.tail _ (.head _))) rfl) ?_
    refine sp (OpV.assign rfl) ?_
    refine WL.nil (En.next ?_)
    obtain ⟨x12r3_6, e12r3_6, zh0⟩ := bnd zh0
    refine WC.region ?_
    refine sp (OpV.move rfl) ?_
    refine sp (OpV.move rfl) ?_
    refine sp (OpV.nilCheck rfl) ?_
    refine sp (OpV.loadBox rfl pt_3 (.tail _ (.tail _ (.tail _ (.head _)))) rfl) ?_
    refine sp (OpV.conv8R rfl uS_3 ui_5_u8) ?_
    refine WL.heavy rfl rfl rfl (OpH.litF (A := tU8) (xs := [(b8 x9_0b.HSync)]) tU8_flat (evps.cons rfl (evps.nil)) (bs_22_1_0 _) rfl rfl (Nat.le_of_ble_eq_true rfl) ?_)
    intro b12r3_5
    refine WL.heavy rfl rfl rfl (OpH.appS (F := [_, _, _, _, _, _]) (A := tU8) tU8_flat rfl rfl rfl mi_22 rfl (by decide) (fun w hs => (Ow.rd (hs.mem (.head _)))) e12r3_6 ?_)
    intro f12r3_6 a12r3_6 c12r3_6
    refine sp (OpV.assign rfl) ?_
    refine WL.nil (En.block_norm (En.next (WC.region ?_)))
    refine sp (OpV.iq (n := 3) (OpV.addR rfl rfl) (by rfl)) ?_
    refine sp (OpV.move rfl) ?_
    refine WL.nil ?_
    refine En.again (RC.succ ?_)
    refine WC.seq (WC.region ?_)
    refine sp (OpV.bq (b := true) (OpV.lss rfl rfl) (by rfl)) ?_
    refine WL.nil (En.next (WC.seq ?_))
    refine WC.cond rfl (fun _ => ?_) (fun hc => by cases hc)
    refine WC.skip (En.next (WC.seq (WC.block (WC.seq (WC.region ?_)))))
    refine sp (OpV.idxA rfl rfl se_79 rfl (by decide)) ?_
    refine sp (OpV.loadBox rfl pt_82 (.tail _ (.tail _ (.tail _ (.head _)))) rfl) ?_
    refine sp (OpV.assign rfl) ?_
    refine WL.nil (En.next ?_)
    obtain ⟨x12r4_6, e12r4_6, zh0⟩ := bnd zh0
    refine WC.region ?_
    refine sp (OpV.move rfl) ?_
    refine sp (OpV.move rfl) ?_
    refine sp (OpV.nilCheck rfl) ?_
    refine sp (OpV.loadBox rfl pt_3 (.tail _ (.tail _ (.tail _ (.tail _ (.head _))))) rfl) ?_
    refine sp (OpV.conv8R rfl uS_3 ui_5_u8) ?_
    refine WL.heavy rfl rfl rfl (OpH.litF (A := tU8) (xs := [(b8 x9_0b.HBack)]) tU8_flat (evps.cons rfl (evps.nil)) (bs_22_1_0 _) rfl rfl (Nat.le_of_ble_eq_true rfl) ?_)
    intro b12r4_5
    refine WL.heavy rfl rfl rfl (OpH.appS (F := [_, _, _, _, _, _, _]) (A := tU8) tU8_flat rfl rfl rfl mi_22 rfl (by decide) (fun w hs => (Ow.rd (hs.mem (.head _)))) e12r4_6 ?_)
    intro f12r4_6 a12r4_6 c12r4_6
    refine sp (OpV.assign rfl) ?_
    refine WL.nil (En.block_norm (En.next (WC.region ?_)))
    refine sp (OpV.iq (n := 4) (OpV.addR rfl rfl) (by rfl)) ?_
    refine sp (OpV.move rfl) ?_
    refine WL.nil ?_
    refine En.again (RC.succ ?_)
    refine WC.seq (WC.region ?_)
    refine sp (OpV.bq (b := true) (OpV.lss rfl rfl) (by rfl)) ?_
    refine WL.nil (En.next (WC.seq ?_))
    refine WC.cond rfl (fun _ => ?_) (fun hc => by cases hc)
    refine WC.skip (En.next (WC.seq (WC.block (WC.seq (WC.region ?_)))))
    refine sp (OpV.idxA rfl rfl se_79 rfl (by decide)) ?_
    refine sp (OpV.loadBox rfl pt_82 (.tail _ (.tail _ (.tail _ (.tail _ (.head _))))) rfl) ?_
    refine sp (OpV.assign rfl) ?_
    refine WL.nil (En.next ?_)
    obtain ⟨x12r5_6, e12r5_6, zh0⟩ := bnd zh0
    refine WC.region ?_
    refine sp (OpV.move rfl) ?_
    refine sp (OpV.move rfl) ?_
    refine sp (OpV.nilCheck rfl) ?_
    refine sp (OpV.loadBox rfl pt_3 (.tail _ (.tail _ (.tail _ (.tail _ (.tail _ (.head _)))))) rfl) ?_
    refine sp (OpV.conv8R rfl uS_3 ui_5_u8) ?_
    refine WL.heavy rfl rfl rfl (OpH.litF (A := tU8) (xs := [(b8 x9_0b.H)]) tU8_flat (evps.cons rfl (evps.nil)) (bs_22_1_0 _) rfl rfl (Nat.le_of_ble_eq_true rfl) ?_)
    intro b12r5_5
    refine WL.heavy rfl rfl rfl (OpH.appS (F := [_, _, _, _, _, _, _, _]) (A := tU8) tU8_flat rfl rfl rfl mi_22 rfl (by decide) (fun w hs => (Ow.rd (hs.mem (.head _)))) e12r5_6 ?_)
    intro f12r5_6 a12r5_6 c12r5_6
    refine sp (OpV.assign rfl) ?_
    refine WL.nil (En.block_norm (En.next (WC.region ?_)))
    refine sp (OpV.iq (n := 5) (OpV.addR rfl rfl) (by rfl)) ?_
    refine sp (OpV.move rfl) ?_
    refine WL.nil ?_
    refine En.again (RC.succ ?_)
    refine WC.seq (WC.region ?_)
    refine sp (OpV.bq (b := true) (OpV.lss rfl rfl) (by rfl)) ?_
    refine WL.nil (En.next (WC.seq ?_))
    refine WC.cond rfl (fun _ => ?_) (fun hc => by cases hc)
    refine WC.skip (En.next (WC.seq (WC.block (WC.seq (WC.region ?_)))))
    refine sp (OpV.idxA rfl rfl se_79 rfl (by decide)) ?_
    refine sp (OpV.loadBox rfl pt_82 (.tail _ (.tail _ (.tail _ (.tail _ (.tail _ (.head _)))))) rfl) ?_
    refine sp (OpV.assign rfl) ?_
    refine WL.nil (En.next ?_)
    obtain ⟨x12r6_6, e12r6_6, zh0⟩ := bnd zh0
    refine WC.region ?_
    refine sp (OpV.move rfl) ?_
    refine sp (OpV.move rfl) ?_
    refine sp (OpV.nilCheck rfl) ?_
    refine sp (OpV.loadBox rfl pt_3 (.tail _ (.tail _ (.tail _ (.tail _ (.tail _ (.tail _ (.head _))))))) rfl) ?_
    refine sp (OpV.conv8R rfl uS_3 ui_5_u8) ?_
    refine WL.heavy rfl rfl rfl (OpH.litF (A := tU8) (xs := [(b8 x9_0b.VFront)]) tU8_flat (evps.cons rfl (evps.nil)) (bs_22_1_0 _) rfl rfl (Nat.le_of_ble_eq_true rfl) ?_)
    intro b12r6_5
    refine WL.heavy rfl rfl rfl (OpH.appS (F := [_, _, _, _, _, _, _, _, _]) (A := tU8) tU8_flat rfl rfl rfl mi_22 rfl (by decide) (fun w hs => (Ow.rd (hs.mem (.head _)))) e12r6_6 ?_)
    intro f12r6_6 a12r6_6 c12r6_6
    refine sp (OpV.assign rfl) ?_
    refine WL.nil (En.block_norm (En.next (WC.region ?_)))
    refine sp (OpV.iq (n := 6) (OpV.addR rfl rfl) (by rfl)) ?_
    refine sp (OpV.move rfl) ?_
    refine WL.nil ?_
    refine En.again (RC.succ ?_)
    refine WC.seq (WC.region ?_)
    refine sp (OpV.bq (b := true) (OpV.lss rfl rfl) (by rfl)) ?_
    refine WL.nil (En.next (WC.seq ?_))
    refine WC.cond rfl (fun _ => ?_) (fun hc => by cases hc)
    refine WC.skip (En.next (WC.seq (WC.block (WC.seq (WC.region ?_)))))
    refine sp (OpV.idxA rfl rfl se_79 rfl (by decide)) ?_
    refine sp (OpV.loadBox rfl pt_82 (.tail _ (.tail _ (.tail _ (.tail _ (.tail _ (.tail _ (.head _))))))) rfl) ?_
    refine sp (OpV.assign rfl) ?_
    refine WL.nil (En.next ?_)
    obtain ⟨x12r7_6, e12r7_6, zh0⟩ := bnd zh0
    refine WC.region ?_
    refine sp (OpV.move rfl) ?_
    refine sp (OpV.move rfl) ?_
    refine sp (OpV.nilCheck rfl) ?_
    refine sp (OpV.loadBox rfl pt_3 (.tail _ (.tail _ (.tail _ (.tail _ (.tail _ (.tail _ (.tail _ (.head _)))))))) rfl) ?_
    refine sp (OpV.conv8R rfl uS_3 ui_5_u8) ?_
    refine WL.heavy rfl rfl rfl (OpH.litF (A := tU8) (xs := [(b8 x9_0b.VSync)]) tU8_flat (evps.cons rfl (evps.nil)) (bs_22_1_0 _) rfl rfl (Nat.le_of_ble_eq_true rfl) ?_)
    intro b12r7_5
    refine WL.heavy rfl rfl rfl (OpH.appS (F := [_, _, _, _, _, _, _, _, _, _]) (A := tU8) tU8_flat rfl rfl rfl mi_22 rfl (by decide) (fun w hs => (Ow.rd (hs.mem (.head _)))) e12r7_6 ?_)
    intro f12r7_6 a12r7_6 c12r7_6
    refine sp (OpV.assign rfl) ?_
    refine WL.nil (En.block_norm (En.next (WC.region ?_)))
    refine sp (OpV.iq (n := 7) (OpV.addR rfl rfl) (by rfl)) ?_
    refine sp (OpV.move rfl) ?_
    refine WL.nil ?_
    refine En.again (RC.succ ?_)
    refine WC.seq (WC.region ?_)
    refine sp (OpV.bq (b := true) (OpV.lss rfl rfl) (by rfl)) ?_
    refine WL.nil (En.next (WC.seq ?_))
    refine WC.cond rfl (fun _ => ?_) (fun hc => by cases hc)
    refine WC.skip (En.next (WC.seq (WC.block (WC.seq (WC.region ?_)))))
    refine sp (OpV.idxA rfl rfl se_79 rfl (by decide)) ?_
    refine sp (OpV.loadBox rfl pt_82 (.tail _ (.tail _ (.tail _ (.tail _ (.tail _ (.tail _ (.tail _ (.head _)))))))) rfl) ?_
    refine sp (OpV.assign rfl) ?_
    refine WL.nil (En.next ?_)
    obtain ⟨x12r8_6, e12r8_6, zh0⟩ := bnd zh0
    refine WC.region ?_
    refine sp (OpV.move rfl) ?_
    refine sp (OpV.move rfl) ?_
    refine sp (OpV.nilCheck rfl) ?_
    refine sp (OpV.loadBox rfl pt_3 (.tail _ (.tail _ (.tail _ (.tail _ (.tail _ (.tail _ (.tail _ (.tail _ (.head _))))))))) rfl) ?_
    refine sp (OpV.conv8R rfl uS_3 ui_5_u8) ?_
    refine WL.heavy rfl rfl rfl (OpH.litF (A := tU8) (xs := [(b8 x9_0b.VBack)]) tU8_flat (evps.cons rfl (evps.nil)) (bs_22_1_0 _) rfl rfl (Nat.le_of_ble_eq_true rfl) ?_)
    intro b12r8_5
    refine WL.heavy rfl rfl rfl (OpH.appS (F := [_, _, _, _, _, _, _, _, _, _, _]) (A := tU8) tU8_flat rfl rfl rfl mi_22 rfl (by decide) (fun w hs => (Ow.rd (hs.mem (.head _)))) e12r8_6 ?_)
    intro f12r8_6 a12r8_6 c12r8_6
    refine sp (OpV.assign rfl) ?_
    refine WL.nil (En.block_norm (En.next (WC.region ?_)))
    refine sp (OpV.iq (n := 8) (OpV.addR rfl rfl) (by rfl)) ?_
    refine sp (OpV.move rfl) ?_
    refine WL.nil ?_
    refine En.again (RC.succ ?_)
    refine WC.seq (WC.region ?_)
    refine sp (OpV.bq (b := false) (OpV.lss rfl rfl) (by rfl)) ?_
    refine WL.nil (En.next (WC.seq ?_))
    refine WC.cond rfl (fun hc => by cases hc) (fun _ => ?_)
    refine WC.exit (En.then_exit (En.then_exit (En.block_exit (En.block_norm (En.next (WC.region ?_))))))
    refine sp (OpV.addR rfl rfl) ?_
    refine sp (OpV.move rfl) ?_
    refine WL.nil ?_
    exact En.backP zb0 zh0 (a12r8_6, x12r8_6.length, c12r8_6, f12r8_6) (Sub.cons rfl (Sub.cons rfl (Sub.cons rfl (Sub.cons rfl (Sub.nil _))))) (fun _ h => ((h).perm (List.perm_middle (l₁ := [_, _, _, _, _, _, _, _, _, _, _]))).sub (.cons_cons _ (.cons _ (.cons _ (.cons _ (.cons _ (.cons _ (.cons _ (.cons _ (.cons _ (.cons _ (.cons _ (.cons _ (.slnil))))))))))))))
   ·
    intro hc_2
    replace zh0 := ifO_f hc_2 zh0
    refine WC.exit (En.then_exit (En.then_exit ?_))
    have hx := exitP ze0 zh0
    exact En.wk _ _ (Sub.cons rfl (Sub.nil _)) (fun _ h => h) (zK0_0 (v_0, (av_0, nv_0, cv_0, fv_0)) hx.symm)

theorem w_laws_eqMode {a_p0 : ModeT} {b_p1 : ModeT} {r : Bool}  (h : laws_eqMode a_p0 b_p1 = some r) {w : World}    :
    Calls Try.prog 70 #[.agg #[.int .i64 a_p0.Clock, .int .i64 a_p0.W, .int .i64 a_p0.HFront, .int .i64 a_p0.HSync, .int .i64 a_p0.HBack, .int .i64 a_p0.H, .int .i64 a_p0.VFront, .int .i64 a_p0.VSync, .int .i64 a_p0.VBack], .agg #[.int .i64 b_p1.Clock, .int .i64 b_p1.W, .int .i64 b_p1.HFront, .int .i64 b_p1.HSync, .int .i64 b_p1.HBack, .int .i64 b_p1.H, .int .i64 b_p1.VFront, .int .i64 b_p1.VSync, .int .i64 b_p1.VBack]] w (fun en w' => en = .returned (.bool r) ∧ Ext w w') := by
 unfold laws_eqMode at h
 refine enter (vs := [_, _]) Try.func70 rfl rfl rfl rfl ?_
 refine WC.seq (WC.region ?_)
 refine WL.heavy rfl rfl rfl (OpH.box rfl rfl ?_)
 intro b0_0
 refine WL.heavy rfl rfl rfl (OpH.box rfl rfl ?_)
 intro b0_1
 refine sp (OpV.assign rfl) ?_
 refine WL.nil (En.next (WC.seq (WC.seq (WC.region ?_))))
 refine sp (OpV.fieldAddr rfl fo_33_0) ?_
 refine sp (OpV.loadBox rfl pt_3 (.tail _ (.head _)) rfl) ?_
 refine sp (OpV.fieldAddr rfl fo_33_0) ?_
 refine sp (OpV.loadBox rfl pt_3 (.head _) rfl) ?_
 refine sp (OpV.neq rfl rfl) ?_
 refine WL.nil (En.next ?_)
 refine WC.cond rfl ?_ ?_
 ·
  intro hc_1
  replace h := ifO_t hc_1 h
  refine WC.seq (WC.region ?_)
  refine sp (OpV.assign rfl) ?_
  refine WL.nil (En.next (WC.ret (En.then_ret ?_)))
  refine En.ret1 rfl (Res.tmp rfl) ?_
  obtain rfl := Option.some.inj h
  intro w' hs
  exact ⟨rfl, hs.below⟩
 ·
  intro hc_1
  replace h := ifO_f hc_1 h
  refine WC.skip (En.next (WC.seq (WC.seq (WC.region ?_))))
  refine sp (OpV.fieldAddr rfl fo_33_1) ?_
  refine sp (OpV.loadBox rfl pt_3 (.tail _ (.head _)) rfl) ?_
  refine sp (OpV.fieldAddr rfl fo_33_1) ?_
  refine sp (OpV.loadBox rfl pt_3 (.head _) rfl) ?_
  refine sp (OpV.neq rfl rfl) ?_
  refine WL.nil (En.next ?_)
  refine WC.cond rfl ?_ ?_
  ·
   intro hc_2
   replace h := ifO_t hc_2 h
   refine WC.seq (WC.region ?_)
   refine sp (OpV.assign rfl) ?_
   refine WL.nil (En.next (WC.ret (En.then_ret ?_)))
   refine En.ret1 rfl (Res.tmp rfl) ?_
   obtain rfl := Option.some.inj h
   intro w' hs
   exact ⟨rfl, hs.below⟩
  ·
   intro hc_2
   replace h := ifO_f hc_2 h
   refine WC.skip (En.next (WC.seq (WC.seq (WC.region ?_))))
   refine sp (OpV.fieldAddr rfl fo_33_2) ?_
   refine sp (OpV.loadBox rfl pt_3 (.tail _ (.head _)) rfl) ?_
   refine sp (OpV.fieldAddr rfl fo_33_2) ?_
   refine sp (OpV.loadBox rfl pt_3 (.head _) rfl) ?_
   refine sp (OpV.neq rfl rfl) ?_
   refine WL.nil (En.next ?_)
   refine WC.cond rfl ?_ ?_
   ·
    intro hc_3
    replace h := ifO_t hc_3 h
    refine WC.seq (WC.region ?_)
    refine sp (OpV.assign rfl) ?_
    refine WL.nil (En.next (WC.ret (En.then_ret ?_)))
    refine En.ret1 rfl (Res.tmp rfl) ?_
    obtain rfl := Option.some.inj h
    intro w' hs
    exact ⟨rfl, hs.below⟩
   ·
    intro hc_3
    replace h := ifO_f hc_3 h
    refine WC.skip (En.next (WC.seq (WC.seq (WC.region ?_))))
    refine sp (OpV.fieldAddr rfl fo_33_3) ?_
    refine sp (OpV.loadBox rfl pt_3 (.tail _ (.head _)) rfl) ?_
    refine sp (OpV.fieldAddr rfl fo_33_3) ?_
    refine sp (OpV.loadBox rfl pt_3 (.head _) rfl) ?_
    refine sp (OpV.neq rfl rfl) ?_
    refine WL.nil (En.next ?_)
    refine WC.cond rfl ?_ ?_
    ·
     intro hc_4
     replace h := ifO_t hc_4 h
     refine WC.seq (WC.region ?_)
     refine sp (OpV.assign rfl) ?_
     refine WL.nil (En.next (WC.ret (En.then_ret ?_)))
     refine En.ret1 rfl (Res.tmp rfl) ?_
     obtain rfl := Option.some.inj h
     intro w' hs
     exact ⟨rfl, hs.below⟩
    ·
     intro hc_4
     replace h := ifO_f hc_4 h
     refine WC.skip (En.next (WC.seq (WC.seq (WC.region ?_))))
     refine sp (OpV.fieldAddr rfl fo_33_4) ?_
     refine sp (OpV.loadBox rfl pt_3 (.tail _ (.head _)) rfl) ?_
     refine sp (OpV.fieldAddr rfl fo_33_4) ?_
     refine sp (OpV.loadBox rfl pt_3 (.head _) rfl) ?_
     refine sp (OpV.neq rfl rfl) ?_
     refine WL.nil (En.next ?_)
     refine WC.cond rfl ?_ ?_
     ·
      intro hc_5
      replace h := ifO_t hc_5 h
      refine WC.seq (WC.region ?_)
      refine sp (OpV.assign rfl) ?_
      refine WL.nil (En.next (WC.ret (En.then_ret ?_)))
      refine En.ret1 rfl (Res.tmp rfl) ?_
      obtain rfl := Option.some.inj h
      intro w' hs
      exact ⟨rfl, hs.below⟩
     ·
      intro hc_5
      replace h := ifO_f hc_5 h
      refine WC.skip (En.next (WC.seq (WC.seq (WC.region ?_))))
      refine sp (OpV.fieldAddr rfl fo_33_5) ?_
      refine sp (OpV.loadBox rfl pt_3 (.tail _ (.head _)) rfl) ?_
      refine sp (OpV.fieldAddr rfl fo_33_5) ?_
      refine sp (OpV.loadBox rfl pt_3 (.head _) rfl) ?_
      refine sp (OpV.neq rfl rfl) ?_
      refine WL.nil (En.next ?_)
      refine WC.cond rfl ?_ ?_
      ·
       intro hc_6
       replace h := ifO_t hc_6 h
       refine WC.seq (WC.region ?_)
       refine sp (OpV.assign rfl) ?_
       refine WL.nil (En.next (WC.ret (En.then_ret ?_)))
       refine En.ret1 rfl (Res.tmp rfl) ?_
       obtain rfl := Option.some.inj h
       intro w' hs
       exact ⟨rfl, hs.below⟩
      ·
       intro hc_6
       replace h := ifO_f hc_6 h
       refine WC.skip (En.next (WC.seq (WC.seq (WC.region ?_))))
       refine sp (OpV.fieldAddr rfl fo_33_6) ?_
       refine sp (OpV.loadBox rfl pt_3 (.tail _ (.head _)) rfl) ?_
       refine sp (OpV.fieldAddr rfl fo_33_6) ?_
       refine sp (OpV.loadBox rfl pt_3 (.head _) rfl) ?_
       refine sp (OpV.neq rfl rfl) ?_
       refine WL.nil (En.next ?_)
       refine WC.cond rfl ?_ ?_
       ·
        intro hc_7
        replace h := ifO_t hc_7 h
        refine WC.seq (WC.region ?_)
        refine sp (OpV.assign rfl) ?_
        refine WL.nil (En.next (WC.ret (En.then_ret ?_)))
        refine En.ret1 rfl (Res.tmp rfl) ?_
        obtain rfl := Option.some.inj h
        intro w' hs
        exact ⟨rfl, hs.below⟩
       ·
        intro hc_7
        replace h := ifO_f hc_7 h
        refine WC.skip (En.next (WC.seq (WC.seq (WC.region ?_))))
        refine sp (OpV.fieldAddr rfl fo_33_7) ?_
        refine sp (OpV.loadBox rfl pt_3 (.tail _ (.head _)) rfl) ?_
        refine sp (OpV.fieldAddr rfl fo_33_7) ?_
        refine sp (OpV.loadBox rfl pt_3 (.head _) rfl) ?_
        refine sp (OpV.neq rfl rfl) ?_
        refine WL.nil (En.next ?_)
        refine WC.cond rfl ?_ ?_
        ·
         intro hc_8
         replace h := ifO_t hc_8 h
         refine WC.seq (WC.region ?_)
         refine sp (OpV.assign rfl) ?_
         refine WL.nil (En.next (WC.ret (En.then_ret ?_)))
         refine En.ret1 rfl (Res.tmp rfl) ?_
         obtain rfl := Option.some.inj h
         intro w' hs
         exact ⟨rfl, hs.below⟩
        ·
         intro hc_8
         replace h := ifO_f hc_8 h
         refine WC.skip (En.next (WC.seq (WC.seq (WC.region ?_))))
         refine sp (OpV.fieldAddr rfl fo_33_8) ?_
         refine sp (OpV.loadBox rfl pt_3 (.tail _ (.head _)) rfl) ?_
         refine sp (OpV.fieldAddr rfl fo_33_8) ?_
         refine sp (OpV.loadBox rfl pt_3 (.head _) rfl) ?_
         refine sp (OpV.neq rfl rfl) ?_
         refine WL.nil (En.next ?_)
         refine WC.cond rfl ?_ ?_
         ·
          intro hc_9
          replace h := ifO_t hc_9 h
          refine WC.seq (WC.region ?_)
          refine sp (OpV.assign rfl) ?_
          refine WL.nil (En.next (WC.ret (En.then_ret ?_)))
          refine En.ret1 rfl (Res.tmp rfl) ?_
          obtain rfl := Option.some.inj h
          intro w' hs
          exact ⟨rfl, hs.below⟩
         ·
          intro hc_9
          replace h := ifO_f hc_9 h
          refine WC.skip (En.next (WC.seq (WC.region ?_)))
          refine sp (OpV.assign rfl) ?_
          refine WL.nil (En.next (WC.ret ?_))
          refine En.ret1 rfl (Res.tmp rfl) ?_
          obtain rfl := Option.some.inj h
          intro w' hs
          exact ⟨rfl, hs.below⟩

theorem w_laws_eqModeS {a_p0 : List ModeT} {b_p1 : List ModeT} {r : Bool} {q0_0 : Option Addr} {l0_0 k0_0 : Nat} {q1_0 : Option Addr} {l1_0 k1_0 : Nat} (h : laws_eqModeS a_p0 b_p1 = some r) {w : World} (r0_0 : Rd tMode w q0_0 l0_0 k0_0 a_p0) (r1_0 : Rd tMode w q1_0 l1_0 k1_0 b_p1)   :
    Calls Try.prog 58 #[.slice q0_0 l0_0 k0_0, .slice q1_0 l1_0 k1_0] w (fun en w' => en = .returned (.bool r) ∧ Ext w w') := by
 obtain rfl := r0_0.1
 obtain rfl := r1_0.1
 unfold laws_eqModeS at h
 refine enter (vs := [_, _]) Try.func58 rfl rfl rfl rfl ?_
 refine WC.seq (WC.region ?_)
 refine sp (OpV.assign rfl) ?_
 refine WL.nil (En.next (WC.seq (WC.seq (WC.region ?_))))
 refine sp (OpV.move rfl) ?_
 refine sp (OpV.len rfl si_45 rfl) ?_
 refine sp (OpV.move rfl) ?_
 refine sp (OpV.len rfl si_45 rfl) ?_
 refine sp (OpV.neq rfl rfl) ?_
 refine WL.nil (En.next ?_)
 refine WC.cond rfl ?_ ?_
 ·
  intro hc_1
  replace h := ifO_t hc_1 h
  refine WC.seq (WC.region ?_)
  refine sp (OpV.assign rfl) ?_
  refine WL.nil (En.next (WC.ret (En.then_ret ?_)))
  refine En.ret1 rfl (Res.tmp rfl) ?_
  obtain rfl := Option.some.inj h
  intro w' hs
  exact ⟨rfl, hs.below⟩
 ·
  intro hc_1
  replace h := ifO_f hc_1 h
  refine WC.skip (En.next (WC.seq (WC.seq (WC.region ?_))))
  refine sp (OpV.assign rfl) ?_
  refine WL.nil (En.next (WC.block ?_))
  obtain ⟨zy0, ezy0, h⟩ := bnd h
  refine WC.cut (X := (Unit) × (Unit)) (.exit 0) (fun x => zy0 = .inl x.1) (fun x => match x with | ((), ()) => []) (fun x => match x with | ((), ()) => []) ?_ ?_
  ·
   rintro ⟨⟨⟩, ⟨⟩⟩ hx
   replace hx : .inl () = zy0 := hx.symm
   subst hx
   replace h := fork_l h
   show En _ _ _ _ [] []
   refine En.block_exit (En.next (WC.seq (WC.region ?_)))
   refine sp (OpV.assign rfl) ?_
   refine WL.nil (En.next (WC.ret ?_))
   refine En.ret1 rfl (Res.tmp rfl) ?_
   obtain rfl := Option.some.inj h
   intro w' hs
   exact ⟨rfl, hs.below⟩
  ·
   intro zK0_0
   refine WC.loopP (G := Unit) (fun s g => match s, g with | i_0, () => [(0, .slice q0_0 a_p0.length k0_0), (1, .slice q1_0 b_p1.length k1_0), (5, .int .i64 i_0)]) (fun s g => match s, g with | i_0, () => []) 0 () ezy0 (by exact Sub.cons rfl (Sub.cons rfl (Sub.cons rfl (Sub.nil _)))) (by exact (fun _ h => h)) ?_
   rintro zm0 i_0 ⟨⟩ zo0 zf0 zb0 ze0
   have zh0 : laws_eqModeS_L0 a_p0 b_p1 i_0 = some zo0 := zf0
   unfold laws_eqModeS_L0 at zh0
   show WC _ _ _ _ _ [(0, .slice q0_0 a_p0.length k0_0), (1, .slice q1_0 b_p1.length k1_0), (5, .int .i64 i_0)] []
   refine WC.seq (WC.seq (WC.region ?_))
   refine sp (OpV.move rfl) ?_
   refine sp (OpV.move rfl) ?_
   refine sp (OpV.len rfl si_45 rfl) ?_
   refine sp (OpV.lss rfl rfl) ?_
   refine WL.nil (En.next ?_)
   refine WC.cond rfl ?_ ?_
   ·
    intro hc_2
    replace zh0 := ifO_t hc_2 zh0
    refine WC.skip (En.next (WC.seq (WC.block (WC.seq ?_))))
    obtain ⟨x6_2, e6_2, zh0⟩ := bnd zh0
    obtain ⟨g6_2, o6_2, _, ha6_2, rfl, hd6_2⟩ := Rd.atIdx r0_0 e6_2
    replace hd6_2 : ∀ (j : Nat) v, ([.int .i64 x6_2.Clock, .int .i64 x6_2.W, .int .i64 x6_2.HFront, .int .i64 x6_2.HSync, .int .i64 x6_2.HBack, .int .i64 x6_2.H, .int .i64 x6_2.VFront, .int .i64 x6_2.VSync, .int .i64 x6_2.VBack] : List Value)[j]? = some v → w.cell? ⟨g6_2, o6_2 + i_0.toNat * 9 + j, .none⟩ = some v := hd6_2
    obtain ⟨x6_6, e6_6, zh0⟩ := bnd zh0
    obtain ⟨g6_6, o6_6, _, ha6_6, rfl, hd6_6⟩ := Rd.atIdx r1_0 e6_6
    replace hd6_6 : ∀ (j : Nat) v, ([.int .i64 x6_6.Clock, .int .i64 x6_6.W, .int .i64 x6_6.HFront, .int .i64 x6_6.HSync, .int .i64 x6_6.HBack, .int .i64 x6_6.H, .int .i64 x6_6.VFront, .int .i64 x6_6.VSync, .int .i64 x6_6.VBack] : List Value)[j]? = some v → w.cell? ⟨g6_6, o6_6 + i_0.toNat * 9 + j, .none⟩ = some v := hd6_6
    obtain ⟨x6_8, e6_8, zh0⟩ := bnd zh0
    refine WC.drawn [(0, ?r6v0), (1, ?r6v1), (5, ?r6v5), (26, ?r6v26)] (by kernel_rfl) (by kernel_rfl) ?dH6 ?dK6
    case dH6 =>
     intro W hW hk
     refine hW.step rfl rfl rfl (OpV.move rfl) ?_
     refine hW.step rfl rfl rfl (OpV.move rfl) ?_
     refine hW.step rfl rfl rfl (OpV.idxA rfl rfl se_45 ha6_2 ⟨(idx_some e6_2).1, (idx_some e6_2).2.1⟩) ?_
     refine hW.step rfl rfl rfl (OpV.loadN rfl ag_33 rfl (fun w hs => hs.cellsAt hd6_2)) ?_
     refine hW.step rfl rfl rfl (OpV.move rfl) ?_
     refine hW.step rfl rfl rfl (OpV.move rfl) ?_
     refine hW.step rfl rfl rfl (OpV.idxA rfl rfl se_45 ha6_6 ⟨(idx_some e6_6).1, (idx_some e6_6).2.1⟩) ?_
     refine hW.step rfl rfl rfl (OpV.loadN rfl ag_33 rfl (fun w hs => hs.cellsAt hd6_6)) ?_
     refine hW.step rfl rfl rfl (OpV.call (evs.cons rfl (evs.cons rfl (evs.nil))) ca_70 (fun w hs => w_laws_eqMode e6_8)) ?_
     refine hW.step rfl rfl rfl (OpV.not rfl) ?_
     refine hk _ ?_
     refine Sub.cons ?_ (Sub.cons ?_ (Sub.cons ?_ (Sub.cons ?_ (Sub.nil _))))
     all_goals exact rfl
    refine En.next ?_
    refine WC.cond rfl ?_ ?_
    ·
     intro hc_3
     replace zh0 := ifO_t hc_3 zh0
     refine WC.seq (WC.region ?_)
     refine sp (OpV.assign rfl) ?_
     refine WL.nil (En.next (WC.ret (En.block_ret (En.then_ret (En.then_ret (En.block_ret (En.then_ret ?_)))))))
     refine En.ret1 rfl (Res.tmp rfl) ?_
     have hx := exitP ze0 zh0
     subst hx
     replace h := fork_r h
     obtain rfl := Option.some.inj h
     intro w' hs
     exact ⟨rfl, hs.below⟩
    ·
     intro hc_3
     replace zh0 := ifO_f hc_3 zh0
     refine WC.skip (En.block_norm (En.next (WC.region ?_)))
     refine sp (OpV.move rfl) ?_
     refine sp (OpV.addR rfl rfl) ?_
     refine sp (OpV.assign rfl) ?_
     refine WL.nil ?_
     exact En.backP zb0 zh0 () (Sub.cons rfl (Sub.cons rfl (Sub.cons rfl (Sub.nil _)))) (fun _ h => h)
   ·
    intro hc_2
    replace zh0 := ifO_f hc_2 zh0
    refine WC.exit (En.then_exit (En.then_exit ?_))
    have hx := exitP ze0 zh0
    exact En.wk _ _ (Sub.nil _) (fun _ h => h) (zK0_0 ((), ()) hx.symm)

theorem w_laws_eqMonitor {a_p0 : MonitorT} {b_p1 : MonitorT} {r : Bool} {q0_0 : Option Addr} {l0_0 k0_0 : Nat} {q1_0 : Option Addr} {l1_0 k1_0 : Nat} (h : laws_eqMonitor a_p0 b_p1 = some r) {w : World} (r0_0 : Rd tMode w q0_0 l0_0 k0_0 a_p0.Modes) (r1_0 : Rd tMode w q1_0 l1_0 k1_0 b_p1.Modes)   :
    Calls Try.prog 34 #[.agg #[.string a_p0.Name, .slice q0_0 l0_0 k0_0, .int .i64 a_p0.Stretch], .agg #[.string b_p1.Name, .slice q1_0 l1_0 k1_0, .int .i64 b_p1.Stretch]] w (fun en w' => en = .returned (.bool r) ∧ Ext w w') := by
 obtain rfl := r0_0.1
 obtain rfl := r1_0.1
 unfold laws_eqMonitor at h
 refine enter (vs := [_, _]) Try.func34 rfl rfl rfl rfl ?_
 refine WC.seq (WC.region ?_)
 refine WL.heavy rfl rfl rfl (OpH.box rfl rfl ?_)
 intro b0_0
 refine WL.heavy rfl rfl rfl (OpH.box rfl rfl ?_)
 intro b0_1
 refine sp (OpV.assign rfl) ?_
 refine WL.nil (En.next (WC.seq (WC.seq (WC.region ?_))))
 refine sp (OpV.fieldAddr rfl fo_47_0) ?_
 refine sp (OpV.loadBox rfl pt_9 (.tail _ (.head _)) rfl) ?_
 refine sp (OpV.fieldAddr rfl fo_47_0) ?_
 refine sp (OpV.loadBox rfl pt_9 (.head _) rfl) ?_
 refine sp (OpV.sneqR rfl rfl) ?_
 refine WL.nil (En.next ?_)
 refine WC.cond rfl ?_ ?_
 ·
  intro hc_1
  replace h := ifO_t hc_1 h
  refine WC.seq (WC.region ?_)
  refine sp (OpV.assign rfl) ?_
  refine WL.nil (En.next (WC.ret (En.then_ret ?_)))
  refine En.ret1 rfl (Res.tmp rfl) ?_
  obtain rfl := Option.some.inj h
  intro w' hs
  exact ⟨rfl, hs.below⟩
 ·
  intro hc_1
  replace h := ifO_f hc_1 h
  refine WC.skip (En.next (WC.seq (WC.seq ?_)))
  obtain ⟨x3_4, e3_4, h⟩ := bnd h
  refine WC.region ?_
  refine sp (OpV.fieldAddr rfl fo_47_1) ?_
  refine sp (OpV.loadBox rfl pt_45 (.tail _ (.head _)) rfl) ?_
  refine sp (OpV.fieldAddr rfl fo_47_1) ?_
  refine sp (OpV.loadBox rfl pt_45 (.head _) rfl) ?_
  refine sp (OpV.call (evs.cons rfl (evs.cons rfl (evs.nil))) ca_58 (fun w hs => w_laws_eqModeS e3_4 (r0_0.ext hs.below) (r1_0.ext hs.below))) ?_
  refine sp (OpV.not rfl) ?_
  refine WL.nil (En.next ?_)
  refine WC.cond rfl ?_ ?_
  ·
   intro hc_2
   replace h := ifO_t hc_2 h
   refine WC.seq (WC.region ?_)
   refine sp (OpV.assign rfl) ?_
   refine WL.nil (En.next (WC.ret (En.then_ret ?_)))
   refine En.ret1 rfl (Res.tmp rfl) ?_
   obtain rfl := Option.some.inj h
   intro w' hs
   exact ⟨rfl, hs.below⟩
  ·
   intro hc_2
   replace h := ifO_f hc_2 h
   refine WC.skip (En.next (WC.seq (WC.seq (WC.region ?_))))
   refine sp (OpV.fieldAddr rfl fo_47_2) ?_
   refine sp (OpV.loadBox rfl pt_3 (.tail _ (.head _)) rfl) ?_
   refine sp (OpV.fieldAddr rfl fo_47_2) ?_
   refine sp (OpV.loadBox rfl pt_3 (.head _) rfl) ?_
   refine sp (OpV.neq rfl rfl) ?_
   refine WL.nil (En.next ?_)
   refine WC.cond rfl ?_ ?_
   ·
    intro hc_3
    replace h := ifO_t hc_3 h
    refine WC.seq (WC.region ?_)
    refine sp (OpV.assign rfl) ?_
    refine WL.nil (En.next (WC.ret (En.then_ret ?_)))
    refine En.ret1 rfl (Res.tmp rfl) ?_
    obtain rfl := Option.some.inj h
    intro w' hs
    exact ⟨rfl, hs.below⟩
   ·
    intro hc_3
    replace h := ifO_f hc_3 h
    refine WC.skip (En.next (WC.seq (WC.region ?_)))
    refine sp (OpV.assign rfl) ?_
    refine WL.nil (En.next (WC.ret ?_))
    refine En.ret1 rfl (Res.tmp rfl) ?_
    obtain rfl := Option.some.inj h
    intro w' hs
    exact ⟨rfl, hs.below⟩

theorem w_laws_FnExactBuildDescriptor {aM_p0 : MonitorT} {r : Bool} {q0_0 : Option Addr} {l0_0 k0_0 : Nat} (h : laws_FnExactBuildDescriptor aM_p0 = some r) {w : World} (r0_0 : Rd tMode w q0_0 l0_0 k0_0 aM_p0.Modes)   :
    Calls Try.prog 8 #[.agg #[.string aM_p0.Name, .slice q0_0 l0_0 k0_0, .int .i64 aM_p0.Stretch]] w (fun en w' => en = .returned (.bool r) ∧ Ext w w') := by
 obtain rfl := r0_0.1
 unfold laws_FnExactBuildDescriptor at h
 refine enter (vs := [_]) Try.func8 rfl rfl rfl rfl ?_
 refine WC.seq (WC.region ?_)
 refine WL.heavy rfl rfl rfl (OpH.box rfl rfl ?_)
 intro b0_0
 refine sp (OpV.assign rfl) ?_
 refine WL.nil (En.next (WC.seq (WC.region ?_)))
 refine sp (OpV.assign rfl) ?_
 refine WL.nil (En.next (WC.seq ?_))
 obtain ⟨x2_2, e2_2, h⟩ := bnd h
 refine WC.region ?_
 refine sp (OpV.loadAll rfl (.head _) ag_59) ?_
 refine sp (OpV.move rfl) ?_
 refine sp (OpV.call (evs.cons rfl (evs.cons rfl (evs.nil))) ca_31 (fun w hs => w_laws_szMonitor e2_2 (r0_0.ext hs.below))) ?_
 refine sp (OpV.assign rfl) ?_
 refine WL.nil (En.next (WC.seq (WC.seq (WC.region ?_))))
 refine sp (OpV.move rfl) ?_
 refine sp (OpV.lss rfl rfl) ?_
 refine WL.nil (En.next ?_)
 refine WC.cond rfl ?_ ?_
 ·
  intro hc_1
  replace h := ifO_t hc_1 h
  refine WC.seq (WC.region ?_)
  refine sp (OpV.assign rfl) ?_
  refine WL.nil (En.next (WC.ret (En.then_ret ?_)))
  refine En.ret1 rfl (Res.tmp rfl) ?_
  obtain rfl := Option.some.inj h
  intro w' hs
  exact ⟨rfl, hs.below⟩
 ·
  intro hc_1
  replace h := ifO_f hc_1 h
  refine WC.skip (En.next (WC.seq ?_))
  obtain ⟨x5_1, e5_1, h⟩ := bnd h
  obtain ⟨⟨x5_2a, x5_2b⟩, e5_2, h⟩ := bnd h
  refine WC.region ?_
  refine sp (OpV.loadAll rfl (.head _) ag_59) ?_
  refine WL.heavy rfl rfl rfl (OpH.callR (evs.cons rfl (evs.nil)) ca_33 (fun w hs => w_laws_toMonitor e5_1 (r0_0.ext hs.below)) ?_)
  rintro _ _ ⟨a5_100, n5_100, c5_100, f5_100, rfl, rfl⟩
  refine sp (OpV.call (evs.cons rfl (evs.nil)) ca_32 (fun w hs => w_spec_BuildDescriptor e5_2 (Ow.rd (hs.mem (.head _))))) ?_
  refine sp (OpV.move rfl) ?_
  refine sp (OpV.extract rfl rfl) ?_
  refine sp (OpV.extract rfl rfl) ?_
  refine sp (OpV.assign rfl) ?_
  refine sp (OpV.assign rfl) ?_
  refine WL.nil (En.next (WC.seq ?_))
  obtain ⟨x6_1, e6_1, h⟩ := bnd h
  refine WC.region ?_
  refine sp (OpV.loadAll rfl (.tail _ (.head _)) ag_59) ?_
  refine WL.heavy rfl rfl rfl (OpH.callR (evs.cons rfl (evs.nil)) ca_33 (fun w hs => w_laws_toMonitor e6_1 (r0_0.ext hs.below)) ?_)
  rintro _ _ ⟨a6_100, n6_100, c6_100, f6_100, rfl, rfl⟩
  refine WL.heavy rfl rfl rfl (OpH.alloc zc_47 ?_)
  intro b6_2
  refine WL.heavy0 rfl rfl (OpH.storeTo (A := []) [_, _, _] rfl rfl rfl ts_47 rfl rfl rfl ?_)
  refine WL.nil (En.next (WC.seq ?_))
  obtain ⟨⟨x7_1a, x7_1b⟩, e7_1, h⟩ := bnd h
  refine WC.region ?_
  refine sp (OpV.loadAll rfl (.head _) ag_47) ?_
  refine sp (OpV.call (evs.cons rfl (evs.nil)) ca_27 (fun w hs => w_impl_BuildDescriptor e7_1 (Ow.rd (hs.mem (.tail _ (.head _)))))) ?_
  refine sp (OpV.move rfl) ?_
  refine sp (OpV.extract rfl rfl) ?_
  refine sp (OpV.extract rfl rfl) ?_
  refine sp (OpV.assign rfl) ?_
  refine sp (OpV.assign rfl) ?_
  refine WL.nil (En.next (WC.seq (WC.seq (WC.region ?_))))
  refine sp (OpV.move rfl) ?_
  refine sp (OpV.move rfl) ?_
  refine sp (OpV.sneqR rfl rfl) ?_
  refine sp (OpV.move rfl) ?_
  refine Lt.ofWL.or 30 34 33 (p := ?pz1) (rest := ?qz1) (B := ?Bz1) rfl ?Tz1 ?Fz1 ?az1 ?bz1 ?cz1 ?dz1 ?ez1
  case Tz1 =>
   intro hcz1 hkz1
   refine sk ?_
   refine sk ?_
   refine sk ?_
   refine hkz1 _ ?_
   repeat (first | exact Sub.refl _ | refine Sub.skip rfl ?_)
  case Fz1 =>
   intro hcz1 hkz1
   refine sp (OpV.move rfl) ?_
   refine sp (OpV.move rfl) ?_
   refine sp (OpV.bneq rfl rfl ub_4) ?_
   refine hkz1 _ ?_ ?_
   exact rfl
   repeat (first | exact Sub.refl _ | refine Sub.skip rfl ?_)
  case az1 => exact rfl
  case bz1 => exact rfl
  case cz1 => exact rfl
  case dz1 => exact rfl
  refine WL.nil (En.next ?_)
  refine WC.cond rfl ?_ ?_
  ·
   intro hc_2
   replace h := ifO_t hc_2 h
   refine WC.seq (WC.region ?_)
   refine sp (OpV.assign rfl) ?_
   refine WL.nil (En.next (WC.ret (En.then_ret ?_)))
   refine En.ret1 rfl (Res.tmp rfl) ?_
   obtain rfl := Option.some.inj h
   intro w' hs
   exact ⟨rfl, hs.below⟩
  ·
   intro hc_2
   replace h := ifO_f hc_2 h
   refine WC.skip (En.next (WC.seq (WC.seq ?_)))
   obtain ⟨x10_2, e10_2, h⟩ := bnd h
   obtain ⟨x10_3, e10_3, h⟩ := bnd h
   refine WC.drawnH [] ([_, _, _, _]) (fun _ h => h) (by kernel_rfl) ?_
   refine WAE.take (i := 0) rfl (by kernel_rfl) (by kernel_rfl) (by kernel_rfl) rfl rfl rfl (OpV.loadAll rfl (.head _) ag_47) ?_
   refine WAE.take (i := 1) rfl (by kernel_rfl) (by kernel_rfl) (by kernel_rfl) rfl rfl rfl (OpV.loadAll rfl (.tail _ (.tail _ (.tail _ (.head _)))) ag_59) ?_
   refine WAE.all (rs := [2]) (by kernel_rfl) rfl (AllR.cons rfl rfl rfl rfl ?_ AllR.nil)
   refine OpH.callR (evs.cons rfl (evs.nil)) ca_33 (fun w hs => w_laws_toMonitor e10_2 (r0_0.ext hs.below)) ?_
   rintro _ _ ⟨a10_200, n10_200, c10_200, f10_200, rfl, rfl⟩
   refine ⟨[_], rfl, ?_⟩
   refine WAE.rebase (H := []) ?_
   refine WAE.take (i := 3) rfl (by kernel_rfl) (by kernel_rfl) (by kernel_rfl) rfl rfl rfl (OpV.call (evs.cons rfl (evs.cons rfl (evs.nil))) ca_34 (fun w hs => w_laws_eqMonitor e10_3 (Ow.rd (hs.mem (.tail _ (.tail _ (.head _))))) (Ow.rd (hs.mem (.head _))))) ?_
   refine WAE.take (i := 4) rfl (by kernel_rfl) (by kernel_rfl) (by kernel_rfl) rfl rfl rfl (OpV.not rfl) ?_
   refine WAE.done (by kernel_rfl) ?_ _
   refine En.next ?_
   refine WC.cond rfl ?_ ?_
   ·
    intro hc_3
    replace h := ifO_t hc_3 h
    refine WC.seq (WC.region ?_)
    refine sp (OpV.assign rfl) ?_
    refine WL.nil (En.next (WC.ret (En.then_ret ?_)))
    refine En.ret1 rfl (Res.tmp rfl) ?_
    obtain rfl := Option.some.inj h
    intro w' hs
    exact ⟨rfl, hs.below⟩
   ·
    intro hc_3
    replace h := ifO_f hc_3 h
    refine WC.skip (En.next (WC.seq (WC.region ?_)))
    refine sp (OpV.assign rfl) ?_
    refine WL.nil (En.next (WC.ret ?_))
    refine En.ret1 rfl (Res.tmp rfl) ?_
    obtain rfl := Option.some.inj h
    intro w' hs
    exact ⟨rfl, hs.below⟩

theorem w_spec_ParseDescriptor {a_p0 : ByteArray} {r : MonitorT × Bool}  (h : spec_ParseDescriptor a_p0 = some r) {w : World}    :
    Calls Try.prog 35 #[.string a_p0] w (fun en w' => ∃ rv G, en = .returned rv ∧ (∃ (a0_0 : Option Addr) (n0_0 : Nat) (c0_0 : Nat) (f0_0 : List Nat), rv = .tuple #[.agg #[.string r.1.Name, .slice a0_0 n0_0 c0_0, .int .i64 r.1.Stretch], .bool r.2] ∧ G = [Chunk.own tMode f0_0 a0_0 n0_0 c0_0 r.1.Modes]) ∧ St w G w') := by
 unfold spec_ParseDescriptor at h
 refine enter (vs := [_]) Try.func35 rfl rfl rfl rfl ?_
 refine WC.seq (WC.region ?_)
 refine WL.heavy rfl rfl rfl (OpH.alloc zc_47 ?_)
 intro b0_0
 refine sp (OpV.assign rfl) ?_
 refine WL.nil (En.next (WC.seq (WC.seq ?_)))
 obtain ⟨q1_11, e1_11, h⟩ := bnd h
 refine WC.region ?_
 refine sp (OpV.move rfl) ?_
 refine sp (OpV.lenS rfl us_9 rfl) ?_
 refine sp (OpV.lss rfl rfl) ?_
 refine sp (OpV.move rfl) ?_
 refine Lt.ofWL.orQ 12 20 19 (p := ?pz1) (rest := ?qz1) (B := q1_11) rfl (fun hz => orO_t e1_11 hz) ?Tz1 ?Fz1 ?az1 ?bz1 ?cz1 ?dz1 ?ez1
 case Tz1 =>
  intro hcz1 hkz1
  refine sk ?_
  refine sk ?_
  refine sk ?_
  refine sk ?_
  refine sk ?_
  refine sk ?_
  refine sk ?_
  refine hkz1 _ ?_
  repeat (first | exact Sub.refl _ | refine Sub.skip rfl ?_)
 case Fz1 =>
  intro hcz1 hkz1
  have hqz1 := orO_f e1_11 hcz1
  obtain ⟨x1_7, e1_7, hqz1⟩ := bnd hqz1
  obtain rfl := Option.some.inj hqz1
  refine sp (OpV.move rfl) ?_
  refine sp (OpV.lenS rfl us_9 rfl) ?_
  refine sp (OpV.move rfl) ?_
  refine sp (OpV.sidxR rfl rfl us_9 e1_7) ?_
  refine sp (OpV.convR rfl uS_5 ui_3_i64) ?_
  refine sp (OpV.addR rfl rfl) ?_
  refine sp (OpV.lss rfl rfl) ?_
  refine hkz1 _ ?_ ?_
  exact rfl
  repeat (first | exact Sub.refl _ | refine Sub.skip rfl ?_)
 case az1 => exact rfl
 case bz1 => exact rfl
 case cz1 => exact rfl
 case dz1 => exact rfl
 refine WL.nil (En.next ?_)
 refine WC.cond rfl ?_ ?_
 ·
  intro hc_1
  replace h := ifO_t hc_1 h
  refine WC.seq (WC.region ?_)
  refine sp (OpV.build (evps.nil) bd_47_) ?_
  refine WL.heavy0 rfl rfl (OpH.storeTo (A := []) [_, _, _] rfl rfl rfl ts_47 rfl rfl rfl ?_)
  refine sp (OpV.assign rfl) ?_
  refine WL.nil (En.next (WC.ret (En.then_ret ?_)))
  refine En.ret2 rfl (Res.cell rfl (.head _) ag_47) (Res.tmp rfl) ?_
  obtain rfl := Option.some.inj h
  intro w' hs
  have hs := ((hs).ownNil (A := tMode)).sub (.cons_cons _ (.cons _ (.slnil)))
  exact ⟨_, _, rfl, ⟨.none, 0, 0, [], rfl, rfl⟩, hs⟩
 ·
  intro hc_1
  replace h := ifO_f hc_1 h
  refine WC.skip (En.next (WC.seq ?_))
  obtain ⟨x3_1, e3_1, h⟩ := bnd h
  refine WC.region ?_
  refine sp (OpV.move rfl) ?_
  refine sp (OpV.sidxR rfl rfl us_9 e3_1) ?_
  refine sp (OpV.convR rfl uS_5 ui_3_i64) ?_
  refine sp (OpV.addR rfl rfl) ?_
  refine sp (OpV.assign rfl) ?_
  refine WL.nil (En.next (WC.seq ?_))
  obtain ⟨x4_2, e4_2, h⟩ := bnd h
  obtain ⟨x4_5, e4_5, h⟩ := bnd h
  refine WC.drawnH [] ([_]) (fun _ h => h) (by kernel_rfl) ?_
  refine WAE.take (i := 0) rfl (by kernel_rfl) (by kernel_rfl) (by kernel_rfl) rfl rfl rfl (OpV.move rfl) ?_
  refine WAE.take (i := 1) rfl (by kernel_rfl) (by kernel_rfl) (by kernel_rfl) rfl rfl rfl (OpV.move rfl) ?_
  refine WAE.take (i := 2) rfl (by kernel_rfl) (by kernel_rfl) (by kernel_rfl) rfl rfl rfl (OpV.ssubLH rfl rfl rfl us_9 e4_2) ?_
  refine WAE.take (i := 3) rfl (by kernel_rfl) (by kernel_rfl) (by kernel_rfl) rfl rfl rfl (OpV.move rfl) ?_
  refine WAE.take (i := 4) rfl (by kernel_rfl) (by kernel_rfl) (by kernel_rfl) rfl rfl rfl (OpV.move rfl) ?_
  refine WAE.take (i := 5) rfl (by kernel_rfl) (by kernel_rfl) (by kernel_rfl) rfl rfl rfl (OpV.sidxR rfl rfl us_9 e4_5) ?_
  refine WAE.take (i := 6) rfl (by kernel_rfl) (by kernel_rfl) (by kernel_rfl) rfl rfl rfl (OpV.convR rfl uS_5 ui_3_i64) ?_
  refine WAE.take (i := 7) rfl (by kernel_rfl) (by kernel_rfl) (by kernel_rfl) rfl rfl rfl (OpV.build (evps.cons rfl (evps.cons rfl (evps.nil))) (bd_47_0_2 _ _)) ?_
  refine WAE.all (rs := [8]) (by kernel_rfl) rfl (AllR.cons rfl rfl rfl rfl ?_ AllR.nil)
  refine OpH.alloc zc_47 ?_
  intro b4_8
  refine ⟨[_], rfl, ?_⟩
  refine WAE.all (rs := [9]) (by kernel_rfl) rfl (AllR.cons0 rfl rfl rfl ?_ AllR.nil)
  refine OpH.storeTo (A := []) [_, _, _] rfl rfl rfl ts_47 rfl rfl rfl ?_
  refine ⟨[_], rfl, ?_⟩
  refine WAE.rebase (H := []) ?_
  refine WAE.done (by kernel_rfl) ?_ _
  refine En.next (WC.seq (WC.seq (WC.region ?_)))
  refine sp (OpV.move rfl) ?_
  refine sp (OpV.addR rfl rfl) ?_
  refine sp (OpV.assign rfl) ?_
  refine WL.nil (En.next (WC.block ?_))
  obtain ⟨zy0, ezy0, h⟩ := bnd h
  refine WC.cut (X := ((List ModeT)) × ((Option Addr) × Nat × Nat × (List Nat))) (.exit 0) (fun x => zy0 = x.1) (fun x => match x with | (x_0e, (ax_0e, nx_0e, cx_0e, fx_0e)) => [(0, .string a_p0), (2, .pointer (some ⟨b0_0, 0, .none⟩)), (5, .pointer (some ⟨b4_8, 0, .none⟩))]) (fun x => match x with | (x_0e, (ax_0e, nx_0e, cx_0e, fx_0e)) => [Chunk.box b0_0 47 [.string (⟨#[]⟩ : ByteArray), .slice .none 0 0, .int .i64 0], Chunk.box b4_8 47 [.string x4_2, .slice ax_0e nx_0e cx_0e, .int .i64 (wr x4_5)], Chunk.own tMode fx_0e ax_0e nx_0e cx_0e x_0e]) ?_ ?_
  ·
   rintro ⟨x_0e, ⟨ax_0e, nx_0e, cx_0e, fx_0e⟩⟩ hx
   replace hx : x_0e = zy0 := hx.symm
   subst hx
   show En _ _ _ _ [(0, .string a_p0), (2, .pointer (some ⟨b0_0, 0, .none⟩)), (5, .pointer (some ⟨b4_8, 0, .none⟩))] [Chunk.box b0_0 47 [.string (⟨#[]⟩ : ByteArray), .slice .none 0 0, .int .i64 0], Chunk.box b4_8 47 [.string x4_2, .slice ax_0e nx_0e cx_0e, .int .i64 (wr x4_5)], Chunk.own tMode fx_0e ax_0e nx_0e cx_0e x_0e]
   refine En.block_exit (En.next (WC.seq ?_))
   obtain ⟨⟨x9_1a, x9_1b⟩, e9_1, h⟩ := bnd h
   refine WC.region ?_
   refine sp (OpV.loadAll rfl (.tail _ (.head _)) ag_47) ?_
   refine sp (OpV.call (evs.cons rfl (evs.nil)) ca_32 (fun w hs => w_spec_BuildDescriptor e9_1 (Ow.rd (hs.mem (.tail _ (.tail _ (.head _))))))) ?_
   refine sp (OpV.move rfl) ?_
   refine sp (OpV.extract rfl rfl) ?_
   refine sp (OpV.extract rfl rfl) ?_
   refine sp (OpV.assign rfl) ?_
   refine sp (OpV.assign rfl) ?_
   refine WL.nil (En.next (WC.seq (WC.seq (WC.region ?_))))
   refine sp (OpV.move rfl) ?_
   refine sp (OpV.not rfl) ?_
   refine sp (OpV.move rfl) ?_
   refine Lt.ofWL.or 120 124 123 (p := ?pz2) (rest := ?qz2) (B := ?Bz2) rfl ?Tz2 ?Fz2 ?az2 ?bz2 ?cz2 ?dz2 ?ez2
   case Tz2 =>
    intro hcz2 hkz2
    refine sk ?_
    refine sk ?_
    refine sk ?_
    refine hkz2 _ ?_
    repeat (first | exact Sub.refl _ | refine Sub.skip rfl ?_)
   case Fz2 =>
    intro hcz2 hkz2
    refine sp (OpV.move rfl) ?_
    refine sp (OpV.move rfl) ?_
    refine sp (OpV.sneqR rfl rfl) ?_
    refine hkz2 _ ?_ ?_
    exact rfl
    repeat (first | exact Sub.refl _ | refine Sub.skip rfl ?_)
   case az2 => exact rfl
   case bz2 => exact rfl
   case cz2 => exact rfl
   case dz2 => exact rfl
   refine WL.nil (En.next ?_)
   refine WC.cond rfl ?_ ?_
   ·
    intro hc_2
    replace h := ifO_t hc_2 h
    refine WC.seq (WC.region ?_)
    refine sp (OpV.build (evps.nil) bd_47_) ?_
    refine WL.heavy0 rfl rfl (OpH.storeTo (A := []) [_, _, _] rfl rfl rfl ts_47 rfl rfl rfl ?_)
    refine sp (OpV.assign rfl) ?_
    refine WL.nil (En.next (WC.ret (En.then_ret ?_)))
    refine En.ret2 rfl (Res.cell rfl (.head _) ag_47) (Res.tmp rfl) ?_
    obtain rfl := Option.some.inj h
    intro w' hs
    have hs := ((hs).ownNil (A := tMode)).sub (.cons_cons _ (.cons _ (.cons _ (.cons _ (.slnil)))))
    exact ⟨_, _, rfl, ⟨.none, 0, 0, [], rfl, rfl⟩, hs⟩
   ·
    intro hc_2
    replace h := ifO_f hc_2 h
    refine WC.skip (En.next (WC.seq (WC.region ?_)))
    refine sp (OpV.loadAll rfl (.tail _ (.head _)) ag_47) ?_
    refine WL.heavy0 rfl rfl (OpH.storeTo (A := []) [_, _, _] rfl rfl rfl ts_47 rfl rfl rfl ?_)
    refine sp (OpV.assign rfl) ?_
    refine WL.nil (En.next (WC.ret ?_))
    refine En.ret2 rfl (Res.cell rfl (.head _) ag_47) (Res.tmp rfl) ?_
    obtain rfl := Option.some.inj h
    intro w' hs
    have hs := ((hs).perm (List.perm_middle (l₁ := [_, _]))).sub (.cons_cons _ (.cons _ (.cons _ (.slnil))))
    exact ⟨_, _, rfl, ⟨ax_0e, nx_0e, cx_0e, fx_0e, rfl, rfl⟩, hs⟩
  ·
   intro zK0_0
   refine WC.loopP (G := (Option Addr) × Nat × Nat × (List Nat)) (fun s g => match s, g with | (x_0, v_0), (ax_0, nx_0, cx_0, fx_0) => [(0, .string a_p0), (2, .pointer (some ⟨b0_0, 0, .none⟩)), (5, .pointer (some ⟨b4_8, 0, .none⟩)), (6, .int .i64 v_0)]) (fun s g => match s, g with | (x_0, v_0), (ax_0, nx_0, cx_0, fx_0) => [Chunk.box b0_0 47 [.string (⟨#[]⟩ : ByteArray), .slice .none 0 0, .int .i64 0], Chunk.box b4_8 47 [.string x4_2, .slice ax_0 nx_0 cx_0, .int .i64 (wr x4_5)], Chunk.own tMode fx_0 ax_0 nx_0 cx_0 x_0]) ([], (wr ((wr (5 + (wr x3_1))) + 2))) (.none, 0, 0, []) ezy0 (by exact Sub.cons rfl (Sub.cons rfl (Sub.cons rfl (Sub.cons rfl (Sub.nil _))))) (by exact (fun _ h => (((h).ownNil (A := tMode)).perm (List.perm_middle (l₁ := [_]))).perm (List.perm_middle (l₁ := [_, _])))) ?_
   rintro zm0 ⟨x_0, v_0⟩ ⟨ax_0, nx_0, cx_0, fx_0⟩ zo0 zf0 zb0 ze0
   have zh0 : spec_ParseDescriptor_L0 a_p0 x_0 v_0 = some zo0 := zf0
   unfold spec_ParseDescriptor_L0 at zh0
   show WC _ _ _ _ _ [(0, .string a_p0), (2, .pointer (some ⟨b0_0, 0, .none⟩)), (5, .pointer (some ⟨b4_8, 0, .none⟩)), (6, .int .i64 v_0)] [Chunk.box b0_0 47 [.string (⟨#[]⟩ : ByteArray), .slice .none 0 0, .int .i64 0], Chunk.box b4_8 47 [.string x4_2, .slice ax_0 nx_0 cx_0, .int .i64 (wr x4_5)], Chunk.own tMode fx_0 ax_0 nx_0 cx_0 x_0]
   refine WC.seq (WC.seq (WC.region ?_))
   refine sp (OpV.move rfl) ?_
   refine sp (OpV.addR rfl rfl) ?_
   refine sp (OpV.move rfl) ?_
   refine sp (OpV.lenS rfl us_9 rfl) ?_
   refine sp (OpV.lss rfl rfl) ?_
   refine sp (OpV.move rfl) ?_
   refine Lt.ofWL.and 41 46 45 (p := ?pz3) (rest := ?qz3) (B := ?Bz3) rfl ?Tz3 ?Fz3 ?az3 ?bz3 ?cz3 ?dz3 ?ez3
   case Tz3 =>
    intro hcz3 hkz3
    refine sp (OpV.fieldAddr rfl fo_47_1) ?_
    refine sp (OpV.loadBox rfl pt_45 (.tail _ (.head _)) rfl) ?_
    refine sp (OpV.inhF fun hin => OpV.lenO (xs := x_0) rfl si_45 rfl (ownLen hin (.tail _ (.tail _ (.head _))))) ?_
    refine sp (OpV.lss rfl rfl) ?_
    refine hkz3 _ ?_ ?_
    exact rfl
    repeat (first | exact Sub.refl _ | refine Sub.skip rfl ?_)
   case Fz3 =>
    intro hcz3 hkz3
    refine sk ?_
    refine sk ?_
    refine sk ?_
    refine sk ?_
    refine hkz3 _ ?_
    repeat (first | exact Sub.refl _ | refine Sub.skip rfl ?_)
   case az3 => exact rfl
   case bz3 => exact rfl
   case cz3 => exact rfl
   case dz3 => exact rfl
   refine WL.nil (En.next ?_)
   refine WC.cond rfl ?_ ?_
   ·
    intro hc_3
    replace zh0 := ifO_t hc_3 zh0
    refine WC.skip (En.next (WC.seq (WC.block ?_)))
    obtain ⟨x8_4, e8_4, zh0⟩ := bnd zh0
    obtain ⟨x8_10, e8_10, zh0⟩ := bnd zh0
    obtain ⟨x8_17, e8_17, zh0⟩ := bnd zh0
    obtain ⟨x8_23, e8_23, zh0⟩ := bnd zh0
    obtain ⟨x8_28, e8_28, zh0⟩ := bnd zh0
    obtain ⟨x8_33, e8_33, zh0⟩ := bnd zh0
    obtain ⟨x8_38, e8_38, zh0⟩ := bnd zh0
    obtain ⟨x8_43, e8_43, zh0⟩ := bnd zh0
    obtain ⟨x8_48, e8_48, zh0⟩ := bnd zh0
    obtain ⟨x8_53, e8_53, zh0⟩ := bnd zh0
    obtain ⟨x8_58, e8_58, zh0⟩ := bnd zh0
    obtain ⟨x8_62, e8_62, zh0⟩ := bnd zh0
    refine WC.wkF (fun _ h => h.perm (List.perm_middle (l₁ := [_, _]))) ?_
    refine WC.wkF (fun _ h => h.perm (List.perm_middle (l₁ := [_, _]))) ?_
    refine WC.drawnH [_, _] ([_]) (fun _ h => h) (by kernel_rfl) ?_
    refine WAE.take (i := 0) rfl (by kernel_rfl) (by kernel_rfl) (by kernel_rfl) rfl rfl rfl (OpV.fieldAddr rfl fo_47_1) ?_
    refine WAE.take (i := 2) rfl (by kernel_rfl) (by kernel_rfl) (by kernel_rfl) rfl rfl rfl (OpV.move rfl) ?_
    refine WAE.take (i := 3) rfl (by kernel_rfl) (by kernel_rfl) (by kernel_rfl) rfl rfl rfl (OpV.move rfl) ?_
    refine WAE.take (i := 4) rfl (by kernel_rfl) (by kernel_rfl) (by kernel_rfl) rfl rfl rfl (OpV.sidxR rfl rfl us_9 e8_4) ?_
    refine WAE.take (i := 5) rfl (by kernel_rfl) (by kernel_rfl) (by kernel_rfl) rfl rfl rfl (OpV.convR rfl uS_5 ui_3_i64) ?_
    refine WAE.take (i := 6) rfl (by kernel_rfl) (by kernel_rfl) (by kernel_rfl) rfl rfl rfl (OpV.shlR rfl rfl rfl) ?_
    refine WAE.take (i := 7) rfl (by kernel_rfl) (by kernel_rfl) (by kernel_rfl) rfl rfl rfl (OpV.move rfl) ?_
    refine WAE.take (i := 8) rfl (by kernel_rfl) (by kernel_rfl) (by kernel_rfl) rfl rfl rfl (OpV.move rfl) ?_
    refine WAE.take (i := 9) rfl (by kernel_rfl) (by kernel_rfl) (by kernel_rfl) rfl rfl rfl (OpV.addR rfl rfl) ?_
    refine WAE.take (i := 10) rfl (by kernel_rfl) (by kernel_rfl) (by kernel_rfl) rfl rfl rfl (OpV.sidxR rfl rfl us_9 e8_10) ?_
    refine WAE.take (i := 11) rfl (by kernel_rfl) (by kernel_rfl) (by kernel_rfl) rfl rfl rfl (OpV.convR rfl uS_5 ui_3_i64) ?_
    refine WAE.take (i := 12) rfl (by kernel_rfl) (by kernel_rfl) (by kernel_rfl) rfl rfl rfl (OpV.shlR rfl rfl rfl) ?_
    refine WAE.take (i := 13) rfl (by kernel_rfl) (by kernel_rfl) (by kernel_rfl) rfl rfl rfl (OpV.addR rfl rfl) ?_
    refine WAE.take (i := 14) rfl (by kernel_rfl) (by kernel_rfl) (by kernel_rfl) rfl rfl rfl (OpV.move rfl) ?_
    refine WAE.take (i := 15) rfl (by kernel_rfl) (by kernel_rfl) (by kernel_rfl) rfl rfl rfl (OpV.move rfl) ?_
    refine WAE.take (i := 16) rfl (by kernel_rfl) (by kernel_rfl) (by kernel_rfl) rfl rfl rfl (OpV.addR rfl rfl) ?_
    refine WAE.take (i := 17) rfl (by kernel_rfl) (by kernel_rfl) (by kernel_rfl) rfl rfl rfl (OpV.sidxR rfl rfl us_9 e8_17) ?_
    refine WAE.take (i := 18) rfl (by kernel_rfl) (by kernel_rfl) (by kernel_rfl) rfl rfl rfl (OpV.convR rfl uS_5 ui_3_i64) ?_
    refine WAE.take (i := 19) rfl (by kernel_rfl) (by kernel_rfl) (by kernel_rfl) rfl rfl rfl (OpV.addR rfl rfl) ?_
    refine WAE.take (i := 20) rfl (by kernel_rfl) (by kernel_rfl) (by kernel_rfl) rfl rfl rfl (OpV.move rfl) ?_
    refine WAE.take (i := 21) rfl (by kernel_rfl) (by kernel_rfl) (by kernel_rfl) rfl rfl rfl (OpV.move rfl) ?_
    refine WAE.take (i := 22) rfl (by kernel_rfl) (by kernel_rfl) (by kernel_rfl) rfl rfl rfl (OpV.addR rfl rfl) ?_
    refine WAE.take (i := 23) rfl (by kernel_rfl) (by kernel_rfl) (by kernel_rfl) rfl rfl rfl (OpV.sidxR rfl rfl us_9 e8_23) ?_
    refine WAE.take (i := 24) rfl (by kernel_rfl) (by kernel_rfl) (by kernel_rfl) rfl rfl rfl (OpV.convR rfl uS_5 ui_3_i64) ?_
    refine WAE.take (i := 25) rfl (by kernel_rfl) (by kernel_rfl) (by kernel_rfl) rfl rfl rfl (OpV.move rfl) ?_
    refine WAE.take (i := 26) rfl (by kernel_rfl) (by kernel_rfl) (by kernel_rfl) rfl rfl rfl (OpV.move rfl) ?_
    refine WAE.take (i := 27) rfl (by kernel_rfl) (by kernel_rfl) (by kernel_rfl) rfl rfl rfl (OpV.addR rfl rfl) ?_
    refine WAE.take (i := 28) rfl (by kernel_rfl) (by kernel_rfl) (by kernel_rfl) rfl rfl rfl (OpV.sidxR rfl rfl us_9 e8_28) ?_
    refine WAE.take (i := 29) rfl (by kernel_rfl) (by kernel_rfl) (by kernel_rfl) rfl rfl rfl (OpV.convR rfl uS_5 ui_3_i64) ?_
    refine WAE.take (i := 30) rfl (by kernel_rfl) (by kernel_rfl) (by kernel_rfl) rfl rfl rfl (OpV.move rfl) ?_
    refine WAE.take (i := 31) rfl (by kernel_rfl) (by kernel_rfl) (by kernel_rfl) rfl rfl rfl (OpV.move rfl) ?_
    refine WAE.take (i := 32) rfl (by kernel_rfl) (by kernel_rfl) (by kernel_rfl) rfl rfl rfl (OpV.addR rfl rfl) ?_
    refine WAE.take (i := 33) rfl (by kernel_rfl) (by kernel_rfl) (by kernel_rfl) rfl rfl rfl (OpV.sidxR rfl rfl us_9 e8_33) ?_
    refine WAE.take (i := 34) rfl (by kernel_rfl) (by kernel_rfl) (by kernel_rfl) rfl rfl rfl (OpV.convR rfl uS_5 ui_3_i64) ?_
    refine WAE.take (i := 35) rfl (by kernel_rfl) (by kernel_rfl) (by kernel_rfl) rfl rfl rfl (OpV.move rfl) ?_
    refine WAE.take (i := 36) rfl (by kernel_rfl) (by kernel_rfl) (by kernel_rfl) rfl rfl rfl (OpV.move rfl) ?_
    refine WAE.take (i := 37) rfl (by kernel_rfl) (by kernel_rfl) (by kernel_rfl) rfl rfl rfl (OpV.addR rfl rfl) ?_
    refine WAE.take (i := 38) rfl (by kernel_rfl) (by kernel_rfl) (by kernel_rfl) rfl rfl rfl (OpV.sidxR rfl rfl us_9 e8_38) ?_
    refine WAE.take (i := 39) rfl (by kernel_rfl) (by kernel_rfl) (by kernel_rfl) rfl rfl rfl (OpV.convR rfl uS_5 ui_3_i64) ?_
    refine WAE.take (i := 40) rfl (by kernel_rfl) (by kernel_rfl) (by kernel_rfl) rfl rfl rfl (OpV.move rfl) ?_
    refine WAE.take (i := 41) rfl (by kernel_rfl) (by kernel_rfl) (by kernel_rfl) rfl rfl rfl (OpV.move rfl) ?_
    refine WAE.take (i := 42) rfl (by kernel_rfl) (by kernel_rfl) (by kernel_rfl) rfl rfl rfl (OpV.addR rfl rfl) ?_
    refine WAE.take (i := 43) rfl (by kernel_rfl) (by kernel_rfl) (by kernel_rfl) rfl rfl rfl (OpV.sidxR rfl rfl us_9 e8_43) ?_
    refine WAE.take (i := 44) rfl (by kernel_rfl) (by kernel_rfl) (by kernel_rfl) rfl rfl rfl (OpV.convR rfl uS_5 ui_3_i64) ?_
    refine WAE.take (i := 45) rfl (by kernel_rfl) (by kernel_rfl) (by kernel_rfl) rfl rfl rfl (OpV.move rfl) ?_
    refine WAE.take (i := 46) rfl (by kernel_rfl) (by kernel_rfl) (by kernel_rfl) rfl rfl rfl (OpV.move rfl) ?_
    refine WAE.take (i := 47) rfl (by kernel_rfl) (by kernel_rfl) (by kernel_rfl) rfl rfl rfl (OpV.addR rfl rfl) ?_
    refine WAE.take (i := 48) rfl (by kernel_rfl) (by kernel_rfl) (by kernel_rfl) rfl rfl rfl (OpV.sidxR rfl rfl us_9 e8_48) ?_
    refine WAE.take (i := 49) rfl (by kernel_rfl) (by kernel_rfl) (by kernel_rfl) rfl rfl rfl (OpV.convR rfl uS_5 ui_3_i64) ?_
    refine WAE.take (i := 50) rfl (by kernel_rfl) (by kernel_rfl) (by kernel_rfl) rfl rfl rfl (OpV.move rfl) ?_
    refine WAE.take (i := 51) rfl (by kernel_rfl) (by kernel_rfl) (by kernel_rfl) rfl rfl rfl (OpV.move rfl) ?_
    refine WAE.take (i := 52) rfl (by kernel_rfl) (by kernel_rfl) (by kernel_rfl) rfl rfl rfl (OpV.addR rfl rfl) ?_
    refine WAE.take (i := 53) rfl (by kernel_rfl) (by kernel_rfl) (by kernel_rfl) rfl rfl rfl (OpV.sidxR rfl rfl us_9 e8_53) ?_
    refine WAE.take (i := 54) rfl (by kernel_rfl) (by kernel_rfl) (by kernel_rfl) rfl rfl rfl (OpV.convR rfl uS_5 ui_3_i64) ?_
    refine WAE.take (i := 55) rfl (by kernel_rfl) (by kernel_rfl) (by kernel_rfl) rfl rfl rfl (OpV.move rfl) ?_
    refine WAE.take (i := 56) rfl (by kernel_rfl) (by kernel_rfl) (by kernel_rfl) rfl rfl rfl (OpV.move rfl) ?_
    refine WAE.take (i := 57) rfl (by kernel_rfl) (by kernel_rfl) (by kernel_rfl) rfl rfl rfl (OpV.addR rfl rfl) ?_
    refine WAE.take (i := 58) rfl (by kernel_rfl) (by kernel_rfl) (by kernel_rfl) rfl rfl rfl (OpV.sidxR rfl rfl us_9 e8_58) ?_
    refine WAE.take (i := 59) rfl (by kernel_rfl) (by kernel_rfl) (by kernel_rfl) rfl rfl rfl (OpV.convR rfl uS_5 ui_3_i64) ?_
    refine WAE.take (i := 60) rfl (by kernel_rfl) (by kernel_rfl) (by kernel_rfl) rfl rfl rfl (OpV.build (evps.cons rfl (evps.cons rfl (evps.cons rfl (evps.cons rfl (evps.cons rfl (evps.cons rfl (evps.cons rfl (evps.cons rfl (evps.cons rfl (evps.nil)))))))))) (bd_33_0_1_2_3_4_5_6_7_8 _ _ _ _ _ _ _ _ _)) ?_
    refine WAE.all (rs := [1, 61]) (by kernel_rfl) rfl (AllR.cons rfl rfl rfl rfl ?_ (AllR.cons rfl rfl rfl rfl ?_ AllR.nil))
    ·
     refine OpH.light (OpV.loadBox rfl pt_45 (.head _) rfl) ?_
     refine ⟨[_, _], rfl, ?_⟩
     refine WAE.all (rs := [61]) (by kernel_rfl) rfl (AllR.cons rfl rfl rfl rfl ?_ AllR.nil)
     refine OpH.litF (A := tMode) (xs := [(ModeT.mk (wr ((wr ((shl (wr x8_4) 16) + (shl (wr x8_10) 8))) + (wr x8_17))) (wr x8_23) (wr x8_28) (wr x8_33) (wr x8_38) (wr x8_43) (wr x8_48) (wr x8_53) (wr x8_58))]) tMode_flat (evps.cons rfl (evps.nil)) (bs_45_1_0 _ _ _ _ _ _ _ _ _) rfl rfl (Nat.le_of_ble_eq_true rfl) ?_
     intro b8_61
     refine ⟨[_, _, _], rfl, ?_⟩
     refine WAE.all (rs := [62]) (by kernel_rfl) rfl (AllR.cons rfl rfl rfl rfl ?_ AllR.nil)
     refine OpH.appS (F := [_, _]) (A := tMode) tMode_flat rfl rfl rfl mi_45 rfl (by decide) (fun w hs => (Ow.rd (hs.mem (.head _)))) e8_62 ?_
     intro f8_62 a8_62 c8_62
     refine ⟨[_, _, _], rfl, ?_⟩
     refine WAE.take (i := 63) rfl (by kernel_rfl) (by kernel_rfl) (by kernel_rfl) rfl rfl rfl (OpV.fieldAddr rfl fo_47_1) ?_
     refine WAE.all (rs := [64]) (by kernel_rfl) rfl (AllR.cons0 rfl rfl rfl ?_ AllR.nil)
     refine OpH.storeTo (A := [_]) [_, _, _] rfl rfl rfl ts_45 rfl rfl rfl ?_
     refine ⟨[_, _, _], rfl, ?_⟩
     refine WAE.rebase (H := []) ?_
     refine WAE.done (by kernel_rfl) ?_ _
     refine En.block_norm (En.next (WC.region ?_))
     refine sp (OpV.move rfl) ?_
     refine sp (OpV.addR rfl rfl) ?_
     refine sp (OpV.assign rfl) ?_
     refine WL.nil ?_
     exact En.backP zb0 zh0 (a8_62, x8_62.length, c8_62, f8_62) (Sub.cons rfl (Sub.cons rfl (Sub.cons rfl (Sub.cons rfl (Sub.nil _))))) (fun _ h => ((((h).perm (List.perm_middle (l₁ := [_, _]))).perm (List.perm_middle (l₁ := [_, _]))).perm (List.perm_middle (l₁ := [_, _, _]))).sub (.cons_cons _ (.cons_cons _ (.cons_cons _ (.cons _ (.slnil))))))
    ·
     refine OpH.litF (A := tMode) (xs := [(ModeT.mk (wr ((wr ((shl (wr x8_4) 16) + (shl (wr x8_10) 8))) + (wr x8_17))) (wr x8_23) (wr x8_28) (wr x8_33) (wr x8_38) (wr x8_43) (wr x8_48) (wr x8_53) (wr x8_58))]) tMode_flat (evps.cons rfl (evps.nil)) (bs_45_1_0 _ _ _ _ _ _ _ _ _) rfl rfl (Nat.le_of_ble_eq_true rfl) ?_
     intro b8_61
     refine ⟨[_, _, _], rfl, ?_⟩
     refine WAE.all (rs := [1]) (by kernel_rfl) rfl (AllR.cons rfl rfl rfl rfl ?_ AllR.nil)
     refine OpH.light (OpV.loadBox rfl pt_45 (.tail _ (.head _)) rfl) ?_
     refine ⟨[_, _, _], rfl, ?_⟩
     refine WAE.all (rs := [62]) (by kernel_rfl) rfl (AllR.cons rfl rfl rfl rfl ?_ AllR.nil)
     refine OpH.appS (F := [_, _]) (A := tMode) tMode_flat rfl rfl rfl mi_45 rfl (by decide) (fun w hs => (Ow.rd (hs.mem (.head _)))) e8_62 ?_
     intro f8_62 a8_62 c8_62
     refine ⟨[_, _, _], rfl, ?_⟩
     refine WAE.take (i := 63) rfl (by kernel_rfl) (by kernel_rfl) (by kernel_rfl) rfl rfl rfl (OpV.fieldAddr rfl fo_47_1) ?_
     refine WAE.all (rs := [64]) (by kernel_rfl) rfl (AllR.cons0 rfl rfl rfl ?_ AllR.nil)
     refine OpH.storeTo (A := [_]) [_, _, _] rfl rfl rfl ts_45 rfl rfl rfl ?_
     refine ⟨[_, _, _], rfl, ?_⟩
     refine WAE.rebase (H := []) ?_
     refine WAE.done (by kernel_rfl) ?_ _
     refine En.block_norm (En.next (WC.region ?_))
     refine sp (OpV.move rfl) ?_
     refine sp (OpV.addR rfl rfl) ?_
     refine sp (OpV.assign rfl) ?_
     refine WL.nil ?_
     exact En.backP zb0 zh0 (a8_62, x8_62.length, c8_62, f8_62) (Sub.cons rfl (Sub.cons rfl (Sub.cons rfl (Sub.cons rfl (Sub.nil _))))) (fun _ h => ((((h).perm (List.perm_middle (l₁ := [_, _]))).perm (List.perm_middle (l₁ := [_, _]))).perm (List.perm_middle (l₁ := [_, _, _]))).sub (.cons_cons _ (.cons_cons _ (.cons_cons _ (.cons _ (.slnil))))))
   ·
    intro hc_3
    replace zh0 := ifO_f hc_3 zh0
    refine WC.exit (En.then_exit (En.then_exit ?_))
    have hx := exitP ze0 zh0
    exact En.wk _ _ (Sub.cons rfl (Sub.cons rfl (Sub.cons rfl (Sub.nil _)))) (fun _ h => h) (zK0_0 (x_0, (ax_0, nx_0, cx_0, fx_0)) hx.symm)

end Go.Proofs.Ytmbohhfhhdopiaa
