/- Paces: each call returns what a plain function computes. -/
import Derived.Test.YtbcaoilghmcaeaaWalksB
namespace Go.Proofs.Ytbcaoilghmcaeaa
open Go.RowKit K

set_option maxRecDepth 100000

def shortW (m0 m1 m2 m3 m4 m5 m6 m7 m8 : Int) : Int := IntKind.i64.wrap (m5 + blankLines m0 m1 m2 m3 m4 m5 m6 m7 m8)
def longW (m0 m1 m2 m3 m4 m5 m6 m7 m8 e : Int) : Int := IntKind.i64.wrap (shortW m0 m1 m2 m3 m4 m5 m6 m7 m8 + e)
def timesOk (xs : List Int) : Bool := xs.all fun x => inR x 1 1000
def paceHead (m0 m1 m2 m3 m4 m5 m6 m7 m8 e l : Int) (n : Nat) : Bool := modeOk m0 m1 m2 m3 m4 m5 m6 m7 m8 && inR e 0 255 && inR l 0 (IntKind.i64.wrap (longW m0 m1 m2 m3 m4 m5 m6 m7 m8 e - 1)) && decide ((n : Int) ≤ 1000)
def paceOk (m0 m1 m2 m3 m4 m5 m6 m7 m8 e l : Int) (xs : List Int) : Bool := paceHead m0 m1 m2 m3 m4 m5 m6 m7 m8 e l xs.length && timesOk xs
def shortF (m0 m1 m2 m3 m4 m5 m6 m7 m8 e l : Int) (xs : List Int) : Int := if paceOk m0 m1 m2 m3 m4 m5 m6 m7 m8 e l xs = true then shortW m0 m1 m2 m3 m4 m5 m6 m7 m8 else 0
def longF (m0 m1 m2 m3 m4 m5 m6 m7 m8 e l : Int) (xs : List Int) : Int := if paceOk m0 m1 m2 m3 m4 m5 m6 m7 m8 e l xs = true then longW m0 m1 m2 m3 m4 m5 m6 m7 m8 e else 0
def addW (s x : Int) : Int := IntKind.i64.wrap (s + x)
def paceTime (m0 m1 m2 m3 m4 m5 m6 m7 m8 e l : Int) (xs : List Int) : Int := if paceOk m0 m1 m2 m3 m4 m5 m6 m7 m8 e l xs = true then xs.foldl addW l else 0
theorem gt_le (n : Int) : decide (1000 < n) = !decide (n ≤ 1000) := by
  rw [← decide_not]; exact decide_eq_decide.2 ⟨fun _ => by omega, fun _ => by omega⟩
theorem foldl_take {xs : List Int} {k : Nat} {x : Int} (s : Int) (hx : xs[k]? = some x) : (xs.take (k + 1)).foldl addW s = IntKind.i64.wrap ((xs.take k).foldl addW s + x) := by
  rw [List.take_add_one, hx, List.foldl_append]; rfl
def eqMd (m0 m1 m2 m3 m4 m5 m6 m7 m8 u0 u1 u2 u3 u4 u5 u6 u7 u8 : Int) : Bool := decide (m0 = u0) && decide (m1 = u1) && decide (m2 = u2) && decide (m3 = u3) && decide (m4 = u4) && decide (m5 = u5) && decide (m6 = u6) && decide (m7 = u7) && decide (m8 = u8)
theorem eqMd_self (m0 m1 m2 m3 m4 m5 m6 m7 m8 : Int) : eqMd m0 m1 m2 m3 m4 m5 m6 m7 m8 m0 m1 m2 m3 m4 m5 m6 m7 m8 = true := by simp [eqMd]
def eqPc (m0 m1 m2 m3 m4 m5 m6 m7 m8 e l : Int) (xs : List Int) (u0 u1 u2 u3 u4 u5 u6 u7 u8 e2 l2 : Int) (ys : List Int) : Bool := eqMd m0 m1 m2 m3 m4 m5 m6 m7 m8 u0 u1 u2 u3 u4 u5 u6 u7 u8 && decide (e = e2) && decide (l = l2) && decide (xs = ys)
theorem eqPc_self (m0 m1 m2 m3 m4 m5 m6 m7 m8 e l : Int) (xs : List Int) : eqPc m0 m1 m2 m3 m4 m5 m6 m7 m8 e l xs m0 m1 m2 m3 m4 m5 m6 m7 m8 e l xs = true := by simp [eqPc, eqMd_self]

theorem fo_54_0 : fieldOff Try.prog 54 0 = some 0 := by kernel_rfl
theorem fo_54_1 : fieldOff Try.prog 54 1 = some 9 := by kernel_rfl
theorem fo_54_2 : fieldOff Try.prog 54 2 = some 10 := by kernel_rfl
theorem ag_54 : aggTy Try.prog 54 = some 12 := by kernel_rfl
theorem ca_75 : callable Try.prog 75 = true := by kernel_rfl
theorem fo_54_3 : fieldOff Try.prog 54 3 = some 11 := by kernel_rfl
theorem ca_39 : callable Try.prog 39 = true := by kernel_rfl
theorem ca_41 : callable Try.prog 41 = true := by kernel_rfl
theorem fo_64_3 : fieldOff Try.prog 64 3 = some 11 := by kernel_rfl
theorem zc_54 : zeroCells Try.prog 54 = some [.int .i64 0, .int .i64 0, .int .i64 0, .int .i64 0, .int .i64 0, .int .i64 0, .int .i64 0, .int .i64 0, .int .i64 0, .int .i64 0, .int .i64 0, .slice none 0 0] := by kernel_rfl
theorem fo_64_0 : fieldOff Try.prog 64 0 = some 0 := by kernel_rfl
theorem fo_64_1 : fieldOff Try.prog 64 1 = some 9 := by kernel_rfl
theorem fo_64_2 : fieldOff Try.prog 64 2 = some 10 := by kernel_rfl
theorem ts_54 : tySize Try.prog 54 = some 12 := by kernel_rfl
theorem ca_80 : callable Try.prog 80 = true := by kernel_rfl
theorem ag_64 : aggTy Try.prog 64 = some 12 := by kernel_rfl
theorem ca_40 : callable Try.prog 40 = true := by kernel_rfl
theorem ca_42 : callable Try.prog 42 = true := by kernel_rfl
theorem ca_43 : callable Try.prog 43 = true := by kernel_rfl
theorem ca_44 : callable Try.prog 44 = true := by kernel_rfl
theorem ca_34 : callable Try.prog 34 = true := by kernel_rfl
theorem ca_45 : callable Try.prog 45 = true := by kernel_rfl
theorem ca_36 : callable Try.prog 36 = true := by kernel_rfl
theorem ca_46 : callable Try.prog 46 = true := by kernel_rfl
theorem ca_38 : callable Try.prog 38 = true := by kernel_rfl

theorem i_shortFrame_ (m0 m1 m2 m3 m4 m5 m6 m7 m8 e l : Int) (a : Option Addr) (n c : Nat) (w : World) :
    Calls Try.prog 75 #[.agg #[.int .i64 m0, .int .i64 m1, .int .i64 m2, .int .i64 m3, .int .i64 m4, .int .i64 m5, .int .i64 m6, .int .i64 m7, .int .i64 m8, .int .i64 e, .int .i64 l, .slice a n c]] w fun en w' => en = .returned (.int .i64 (shortW m0 m1 m2 m3 m4 m5 m6 m7 m8)) ∧ Ext w w' := by
  refine enter (vs := [_]) Try.func75 rfl rfl rfl rfl ?_
  refine WC.seq ?_
  refine WC.region ?_
  refine WL.heavy rfl rfl rfl (OpH.box rfl rfl ?_)
  intro b0
  refine Lt.ofWL.step rfl rfl rfl (OpV.assign rfl) ?_
  refine WL.nil ?_
  refine En.next ?_
  refine WC.seq ?_
  refine WC.drawn [(0, ?r1v0), (2, ?r1v2)] (by kernel_rfl) (by kernel_rfl) ?dH1 ?dK1
  case dH1 =>
    intro W hW hk
    refine hW.step rfl rfl rfl (OpV.fieldAddr rfl fo_54_0) ?_
    refine hW.step rfl rfl rfl (OpV.fieldAddr rfl fo_40_5) ?_
    refine hW.step rfl rfl rfl (OpV.loadBox rfl pt_3 (.head _) rfl) ?_
    refine hW.step rfl rfl rfl (OpV.fieldAddr rfl fo_54_0) ?_
    refine hW.step rfl rfl rfl (OpV.loadPart rfl (.head _) ag_40 rfl rfl) ?_
    refine hW.step rfl rfl rfl (OpV.call (evs.cons rfl (evs.nil)) ca_85 (fun w hs => i_BlankLines _ _ _ _ _ _ _ _ _ w)) ?_
    refine hW.step rfl rfl rfl (OpV.addW rfl rfl) ?_
    refine hW.step rfl rfl rfl (OpV.assign rfl) ?_
    refine hk _ ?_
    refine Sub.cons ?_ (Sub.cons ?_ (Sub.nil _))
    all_goals exact rfl
  refine En.next ?_
  refine WC.ret ?_
  refine En.ret1 rfl (Res.tmp rfl) ?_
  intro w' hs
  exact ⟨rfl, hs.below⟩

theorem i_PaceOk (m0 m1 m2 m3 m4 m5 m6 m7 m8 e l : Int) (a : Option Addr) (n c : Nat) (xs : List Int) (w : World) (hr : RdI w a n xs):
    Calls Try.prog 39 #[.agg #[.int .i64 m0, .int .i64 m1, .int .i64 m2, .int .i64 m3, .int .i64 m4, .int .i64 m5, .int .i64 m6, .int .i64 m7, .int .i64 m8, .int .i64 e, .int .i64 l, .slice a n c]] w fun en w' => en = .returned (.bool (paceOk m0 m1 m2 m3 m4 m5 m6 m7 m8 e l xs)) ∧ Ext w w' := by
  have hl := hr.len
  have hb1 := hr.bd
  refine enter (vs := [_]) Try.func39 rfl rfl rfl rfl ?_
  refine WC.seq ?_
  refine WC.region ?_
  refine WL.heavy rfl rfl rfl (OpH.box rfl rfl ?_)
  intro b0
  refine Lt.ofWL.step rfl rfl rfl (OpV.assign rfl) ?_
  refine WL.nil ?_
  refine En.next ?_
  refine WC.seq ?_
  refine WC.seq ?_
  refine WC.drawn [(0, ?r1v0), (1, ?r1v1), (2, ?r1v2), (32, ?r1v32)] (by kernel_rfl) (by kernel_rfl) ?dH1 ?dK1
  case dH1 =>
    intro W hW hk
    refine hW.step rfl rfl rfl (OpV.fieldAddr rfl fo_54_0) ?_
    refine hW.step rfl rfl rfl (OpV.loadPart rfl (.head _) ag_40 rfl rfl) ?_
    refine hW.step rfl rfl rfl (OpV.call (evs.cons rfl (evs.nil)) ca_78 (fun w hs => i_ModeOk _ _ _ _ _ _ _ _ _ w)) ?_
    refine hW.step rfl rfl rfl (OpV.not rfl) ?_
    refine hW.step rfl rfl rfl (OpV.move rfl) ?_
    refine hW.or 9 14 13 (p := ?pz1) (rest := ?qz1) (B := ?Bz1) rfl ?Tz1 ?Fz1 ?az1 ?bz1 ?cz1 ?dz1 ?ez1
    case Tz1 =>
      intro hc2 hkz1
      refine hW.skip rfl rfl rfl ?_
      refine hW.skip rfl rfl rfl ?_
      refine hW.skip rfl rfl rfl ?_
      refine hW.skip rfl rfl rfl ?_
      refine hkz1 _ ?_
      repeat (first | exact Sub.refl _ | refine Sub.skip rfl ?_)
    case Fz1 =>
      intro hc3 hkz1
      refine hW.step rfl rfl rfl (OpV.fieldAddr rfl fo_54_1) ?_
      refine hW.step rfl rfl rfl (OpV.loadBox rfl pt_3 (.head _) rfl) ?_
      refine hW.step rfl rfl rfl (OpV.call (evs.cons rfl (evs.cons rfl (evs.cons rfl (evs.nil)))) ca_56 (fun w hs => i_within _ _ _ w)) ?_
      refine hW.step rfl rfl rfl (OpV.not rfl) ?_
      refine hkz1 _ ?_ ?_
      exact rfl
      repeat (first | exact Sub.refl _ | refine Sub.skip rfl ?_)
    case az1 => exact rfl
    case bz1 => exact rfl
    case cz1 => exact rfl
    case dz1 => exact rfl
    refine hW.step rfl rfl rfl (OpV.move rfl) ?_
    refine hW.or 15 26 25 (p := ?pz4) (rest := ?qz4) (B := ?Bz4) rfl ?Tz4 ?Fz4 ?az4 ?bz4 ?cz4 ?dz4 ?ez4
    case Tz4 =>
      intro hc5 hkz4
      refine hW.skip rfl rfl rfl ?_
      refine hW.skip rfl rfl rfl ?_
      refine hW.skip rfl rfl rfl ?_
      refine hW.skip rfl rfl rfl ?_
      refine hW.skip rfl rfl rfl ?_
      refine hW.skip rfl rfl rfl ?_
      refine hW.skip rfl rfl rfl ?_
      refine hW.skip rfl rfl rfl ?_
      refine hW.skip rfl rfl rfl ?_
      refine hW.skip rfl rfl rfl ?_
      refine hkz4 _ ?_
      repeat (first | exact Sub.refl _ | refine Sub.skip rfl ?_)
    case Fz4 =>
      intro hc6 hkz4
      refine hW.step rfl rfl rfl (OpV.fieldAddr rfl fo_54_2) ?_
      refine hW.step rfl rfl rfl (OpV.loadBox rfl pt_3 (.head _) rfl) ?_
      refine hW.step rfl rfl rfl (OpV.loadAll rfl (.head _) ag_54) ?_
      refine hW.step rfl rfl rfl (OpV.call (evs.cons rfl (evs.nil)) ca_75 (fun w hs => i_shortFrame_ _ _ _ _ _ _ _ _ _ _ _ _ _ _ w)) ?_
      refine hW.step rfl rfl rfl (OpV.fieldAddr rfl fo_54_1) ?_
      refine hW.step rfl rfl rfl (OpV.loadBox rfl pt_3 (.head _) rfl) ?_
      refine hW.step rfl rfl rfl (OpV.addW rfl rfl) ?_
      refine hW.step rfl rfl rfl (OpV.subW rfl rfl) ?_
      refine hW.step rfl rfl rfl (OpV.call (evs.cons rfl (evs.cons rfl (evs.cons rfl (evs.nil)))) ca_56 (fun w hs => i_within _ _ _ w)) ?_
      refine hW.step rfl rfl rfl (OpV.not rfl) ?_
      refine hkz4 _ ?_ ?_
      exact rfl
      repeat (first | exact Sub.refl _ | refine Sub.skip rfl ?_)
    case az4 => exact rfl
    case bz4 => exact rfl
    case cz4 => exact rfl
    case dz4 => exact rfl
    refine hW.step rfl rfl rfl (OpV.move rfl) ?_
    refine hW.or 27 32 31 (p := ?pz7) (rest := ?qz7) (B := ?Bz7) rfl ?Tz7 ?Fz7 ?az7 ?bz7 ?cz7 ?dz7 ?ez7
    case Tz7 =>
      intro hc8 hkz7
      refine hW.skip rfl rfl rfl ?_
      refine hW.skip rfl rfl rfl ?_
      refine hW.skip rfl rfl rfl ?_
      refine hW.skip rfl rfl rfl ?_
      refine hkz7 _ ?_
      repeat (first | exact Sub.refl _ | refine Sub.skip rfl ?_)
    case Fz7 =>
      intro hc9 hkz7
      refine hW.step rfl rfl rfl (OpV.fieldAddr rfl fo_54_3) ?_
      refine hW.step rfl rfl rfl (OpV.loadBox rfl pt_44 (.head _) rfl) ?_
      refine hW.step rfl rfl rfl (OpV.len rfl si_44 rfl) ?_
      refine hW.step rfl rfl rfl (OpV.gtr rfl rfl) ?_
      refine hkz7 _ ?_ ?_
      exact rfl
      repeat (first | exact Sub.refl _ | refine Sub.skip rfl ?_)
    case az7 => exact rfl
    case bz7 => exact rfl
    case cz7 => exact rfl
    case dz7 => exact rfl
    refine hk _ ?_
    refine Sub.cons ?_ (Sub.cons ?_ (Sub.cons ?_ (Sub.cons ?_ (Sub.nil _))))
    all_goals exact rfl
  refine En.next ?_
  refine WC.cond rfl ?_ ?_
  ·
    intro hc10
    have hres : false = paceOk m0 m1 m2 m3 m4 m5 m6 m7 m8 e l xs := by unfold paceOk paceHead; rw [← hl]; revert hc10; rw [gt_le]; unfold longW; generalize modeOk m0 m1 m2 m3 m4 m5 m6 m7 m8 = p1; generalize inR e 0 255 = p2; generalize inR l 0 (IntKind.i64.wrap (IntKind.i64.wrap (shortW m0 m1 m2 m3 m4 m5 m6 m7 m8 + e) - 1)) = p3; generalize decide ((n : Int) ≤ 1000) = p4; generalize timesOk xs = p5; cases p1 <;> cases p2 <;> cases p3 <;> cases p4 <;> cases p5 <;> decide
    refine WC.seq ?_
    refine WC.region ?_
    refine Lt.ofWL.step rfl rfl rfl (OpV.assign rfl) ?_
    refine WL.nil ?_
    refine En.next ?_
    refine WC.ret ?_
    refine En.then_ret ?_
    refine En.ret1 rfl (Res.tmp rfl) ?_
    intro w' hs
    exact ⟨congrArg _ (congrArg _ hres), hs.below⟩
  ·
    intro hc10
    have hhead : paceHead m0 m1 m2 m3 m4 m5 m6 m7 m8 e l n = true := by unfold paceHead; revert hc10; rw [gt_le]; unfold longW; generalize modeOk m0 m1 m2 m3 m4 m5 m6 m7 m8 = p1; generalize inR e 0 255 = p2; generalize inR l 0 (IntKind.i64.wrap (IntKind.i64.wrap (shortW m0 m1 m2 m3 m4 m5 m6 m7 m8 + e) - 1)) = p3; generalize decide ((n : Int) ≤ 1000) = p4; cases p1 <;> cases p2 <;> cases p3 <;> cases p4 <;> decide
    refine WC.skip ?_
    refine En.next ?_
    refine WC.seq ?_
    refine WC.seq ?_
    refine WC.region ?_
    refine Lt.ofWL.step rfl rfl rfl (OpV.fieldAddr rfl fo_54_3) ?_
    refine Lt.ofWL.step rfl rfl rfl (OpV.loadBox rfl pt_44 (.head _) rfl) ?_
    refine Lt.ofWL.step rfl rfl rfl (OpV.len rfl si_44 rfl) ?_
    refine Lt.ofWL.step rfl rfl rfl (OpV.move rfl) ?_
    refine WL.nil ?_
    refine En.next ?_
    refine WC.block ?_
    refine WC.loop (EI := fun k : Nat => [(34, .slice a n c), (35, .int .i64 n), (36, .int .i64 k), (1, .pointer (some ⟨b0, 0, none⟩))]) (FI := fun _ => [Chunk.box b0 54 [.int .i64 m0, .int .i64 m1, .int .i64 m2, .int .i64 m3, .int .i64 m4, .int .i64 m5, .int .i64 m6, .int .i64 m7, .int .i64 m8, .int .i64 e, .int .i64 l, .slice a n c]]) (PI := fun k => k ≤ n ∧ (xs.take k).all (fun x => inR x 1 1000) = true) (m := fun k => n - k) 0 ⟨Nat.zero_le _, rfl⟩ (Sub.cons rfl (Sub.cons rfl (Sub.cons rfl (Sub.cons rfl (Sub.nil _))))) (fun _ h => h) ?_
    intro k hP
    refine WC.seq ?_
    refine WC.region ?_
    refine Lt.ofWL.step rfl rfl rfl (OpV.lss rfl rfl) ?_
    refine WL.nil ?_
    refine En.next ?_
    refine WC.seq ?_
    refine WC.cond rfl ?_ ?_
    ·
      intro hc11
      have hlt := of_decide_eq_true hc11
      obtain ⟨b, o, x, rfl, hx, _, hcell⟩ := hr.get (k := k) (by omega)
      refine WC.skip ?_
      refine En.next ?_
      refine WC.seq ?_
      refine WC.block ?_
      refine WC.seq ?_
      refine WC.region ?_
      refine Lt.ofWL.step rfl rfl rfl (OpV.idx1 rfl rfl se_44 (by omega)) ?_
      refine Lt.ofWL.step rfl rfl rfl (OpV.load1 rfl pt_3 (fun w hs => hs.cell hcell)) ?_
      refine Lt.ofWL.step rfl rfl rfl (OpV.assign rfl) ?_
      refine WL.nil ?_
      refine En.next ?_
      refine WC.seq ?_
      refine WC.region ?_
      refine Lt.ofWL.step rfl rfl rfl (OpV.move rfl) ?_
      refine Lt.ofWL.step rfl rfl rfl (OpV.call (evs.cons rfl (evs.cons rfl (evs.cons rfl (evs.nil)))) ca_56 (fun w hs => i_within _ _ _ w)) ?_
      refine Lt.ofWL.step rfl rfl rfl (OpV.not rfl) ?_
      refine WL.nil ?_
      refine En.next ?_
      refine WC.cond rfl ?_ ?_
      ·
        intro hc12
        have hres : false = paceOk m0 m1 m2 m3 m4 m5 m6 m7 m8 e l xs := by unfold paceOk; rw [show timesOk xs = false from all_not hx (by simpa using hc12), Bool.and_false]
        refine WC.seq ?_
        refine WC.region ?_
        refine Lt.ofWL.step rfl rfl rfl (OpV.assign rfl) ?_
        refine WL.nil ?_
        refine En.next ?_
        refine WC.ret ?_
        refine En.block_ret ?_
        refine En.then_ret ?_
        refine En.then_ret ?_
        refine En.block_ret ?_
        refine En.then_ret ?_
        refine En.ret1 rfl (Res.tmp rfl) ?_
        intro w' hs
        exact ⟨congrArg _ (congrArg _ hres), hs.below⟩
      ·
        intro hc12
        have hpx : inR x 1 1000 = true := by simpa using hc12
        refine WC.skip ?_
        refine En.block_norm ?_
        refine En.next ?_
        refine WC.region ?_
        refine Lt.ofWL.step rfl rfl rfl (OpV.add rfl rfl ⟨by omega, by omega⟩) ?_
        refine Lt.ofWL.step rfl rfl rfl (OpV.move rfl) ?_
        refine WL.nil ?_
        refine En.round (k + 1) (by omega) ⟨by omega, all_take_succ hP.2 hx hpx⟩ (Sub.cons rfl (Sub.cons rfl (Sub.cons rfl (Sub.cons rfl (Sub.nil _))))) (fun _ h => h)
    ·
      intro hc11
      have hge := of_decide_eq_false hc11
      have hk : k = n := by omega
      subst hk
      have hall : timesOk xs = true := by have := hP.2; rw [hl, List.take_length] at this; exact this
      have hres : true = paceOk m0 m1 m2 m3 m4 m5 m6 m7 m8 e l xs := by unfold paceOk; rw [← hl, hhead, hall]; rfl
      refine WC.exit ?_
      refine En.then_exit ?_
      refine En.then_exit ?_
      refine En.block_exit ?_
      refine En.next ?_
      refine WC.seq ?_
      refine WC.region ?_
      refine Lt.ofWL.step rfl rfl rfl (OpV.assign rfl) ?_
      refine WL.nil ?_
      refine En.next ?_
      refine WC.ret ?_
      refine En.ret1 rfl (Res.tmp rfl) ?_
      intro w' hs
      exact ⟨congrArg _ (congrArg _ hres), hs.below⟩

theorem s_PaceOk (m0 m1 m2 m3 m4 m5 m6 m7 m8 e l : Int) (a : Option Addr) (n c : Nat) (xs : List Int) (w : World) (hr : RdI w a n xs):
    Calls Try.prog 41 #[.agg #[.int .i64 m0, .int .i64 m1, .int .i64 m2, .int .i64 m3, .int .i64 m4, .int .i64 m5, .int .i64 m6, .int .i64 m7, .int .i64 m8, .int .i64 e, .int .i64 l, .slice a n c]] w fun en w' => en = .returned (.bool (paceOk m0 m1 m2 m3 m4 m5 m6 m7 m8 e l xs)) ∧ Ext w w' := by
  have hl := hr.len
  have hb1 := hr.bd
  refine enter (vs := [_]) Try.func41 rfl rfl rfl rfl ?_
  refine WC.seq ?_
  refine WC.region ?_
  refine WL.heavy rfl rfl rfl (OpH.box rfl rfl ?_)
  intro b0
  refine Lt.ofWL.step rfl rfl rfl (OpV.assign rfl) ?_
  refine WL.nil ?_
  refine En.next ?_
  refine WC.seq ?_
  refine WC.seq ?_
  refine WC.region ?_
  refine Lt.ofWL.step rfl rfl rfl (OpV.assign rfl) ?_
  refine WL.nil ?_
  refine En.next ?_
  refine WC.block ?_
  refine WC.loop (EI := fun k : Nat => [(1, .pointer (some ⟨b0, 0, none⟩)), (3, .int .i64 k)]) (FI := fun _ => [Chunk.box b0 54 [.int .i64 m0, .int .i64 m1, .int .i64 m2, .int .i64 m3, .int .i64 m4, .int .i64 m5, .int .i64 m6, .int .i64 m7, .int .i64 m8, .int .i64 e, .int .i64 l, .slice a n c]]) (PI := fun k => k ≤ n ∧ (xs.take k).all (fun x => inR x 1 1000) = true) (m := fun k => n - k) 0 ⟨Nat.zero_le _, rfl⟩ (Sub.cons rfl (Sub.cons rfl (Sub.nil _))) (fun _ h => h) ?_
  intro k hP
  refine WC.seq ?_
  refine WC.seq ?_
  refine WC.region ?_
  refine Lt.ofWL.step rfl rfl rfl (OpV.move rfl) ?_
  refine Lt.ofWL.step rfl rfl rfl (OpV.fieldAddr rfl fo_54_3) ?_
  refine Lt.ofWL.step rfl rfl rfl (OpV.loadBox rfl pt_44 (.head _) rfl) ?_
  refine Lt.ofWL.step rfl rfl rfl (OpV.len rfl si_44 rfl) ?_
  refine Lt.ofWL.step rfl rfl rfl (OpV.lss rfl rfl) ?_
  refine WL.nil ?_
  refine En.next ?_
  refine WC.cond rfl ?_ ?_
  ·
    intro hc1
    have hlt := of_decide_eq_true hc1
    obtain ⟨b, o, x, rfl, hx, _, hcell⟩ := hr.get (k := k) (by omega)
    refine WC.skip ?_
    refine En.next ?_
    refine WC.seq ?_
    refine WC.block ?_
    refine WC.seq ?_
    refine WC.region ?_
    refine Lt.ofWL.step rfl rfl rfl (OpV.fieldAddr rfl fo_54_3) ?_
    refine Lt.ofWL.step rfl rfl rfl (OpV.loadBox rfl pt_44 (.head _) rfl) ?_
    refine Lt.ofWL.step rfl rfl rfl (OpV.move rfl) ?_
    refine Lt.ofWL.step rfl rfl rfl (OpV.idx1 rfl rfl se_44 (by omega)) ?_
    refine Lt.ofWL.step rfl rfl rfl (OpV.load1 rfl pt_3 (fun w hs => hs.cell hcell)) ?_
    refine Lt.ofWL.step rfl rfl rfl (OpV.call (evs.cons rfl (evs.cons rfl (evs.cons rfl (evs.nil)))) ca_58 (fun w hs => s_in _ _ _ w)) ?_
    refine Lt.ofWL.step rfl rfl rfl (OpV.not rfl) ?_
    refine WL.nil ?_
    refine En.next ?_
    refine WC.cond rfl ?_ ?_
    ·
      intro hc2
      have hres : false = paceOk m0 m1 m2 m3 m4 m5 m6 m7 m8 e l xs := by unfold paceOk; rw [show timesOk xs = false from all_not hx (by simpa using hc2), Bool.and_false]
      refine WC.seq ?_
      refine WC.region ?_
      refine Lt.ofWL.step rfl rfl rfl (OpV.assign rfl) ?_
      refine WL.nil ?_
      refine En.next ?_
      refine WC.ret ?_
      refine En.block_ret ?_
      refine En.then_ret ?_
      refine En.then_ret ?_
      refine En.block_ret ?_
      refine En.then_ret ?_
      refine En.ret1 rfl (Res.tmp rfl) ?_
      intro w' hs
      exact ⟨congrArg _ (congrArg _ hres), hs.below⟩
    ·
      intro hc2
      have hpx : inR x 1 1000 = true := by simpa using hc2
      refine WC.skip ?_
      refine En.block_norm ?_
      refine En.next ?_
      refine WC.region ?_
      refine Lt.ofWL.step rfl rfl rfl (OpV.move rfl) ?_
      refine Lt.ofWL.step rfl rfl rfl (OpV.add rfl rfl ⟨by omega, by omega⟩) ?_
      refine Lt.ofWL.step rfl rfl rfl (OpV.assign rfl) ?_
      refine WL.nil ?_
      refine En.round (k + 1) (by omega) ⟨by omega, all_take_succ hP.2 hx hpx⟩ (Sub.cons rfl (Sub.cons rfl (Sub.nil _))) (fun _ h => h)
  ·
    intro hc1
    have hge := of_decide_eq_false hc1
    have hk : k = n := by omega
    subst hk
    have hall : timesOk xs = true := by have := hP.2; rw [hl, List.take_length] at this; exact this
    refine WC.exit ?_
    refine En.then_exit ?_
    refine En.then_exit ?_
    refine En.block_exit ?_
    refine En.next ?_
    refine WC.seq ?_
    refine WC.drawn [(1, ?r6v1), (2, ?r6v2), (3, ?r6v3), (4, ?r6v4), (5, ?r6v5), (6, ?r6v6), (7, ?r6v7), (8, ?r6v8)] (by kernel_rfl) (by kernel_rfl) ?dH6 ?dK6
    case dH6 =>
      intro W hW hk
      refine hW.step rfl rfl rfl (OpV.fieldAddr rfl fo_54_3) ?_
      refine hW.step rfl rfl rfl (OpV.loadBox rfl pt_44 (.head _) rfl) ?_
      refine hW.step rfl rfl rfl (OpV.len rfl si_44 rfl) ?_
      refine hW.step rfl rfl rfl (OpV.leq rfl rfl) ?_
      refine hW.step rfl rfl rfl (OpV.move rfl) ?_
      refine hW.and 22 26 25 (p := ?pz3) (rest := ?qz3) (B := ?Bz3) rfl ?Tz3 ?Fz3 ?az3 ?bz3 ?cz3 ?dz3 ?ez3
      case Tz3 =>
        intro hc4 hkz3
        refine hW.step rfl rfl rfl (OpV.fieldAddr rfl fo_54_0) ?_
        refine hW.step rfl rfl rfl (OpV.loadPart rfl (.head _) ag_40 rfl rfl) ?_
        refine hW.step rfl rfl rfl (OpV.call (evs.cons rfl (evs.nil)) ca_60 (fun w hs => s_ModeOk _ _ _ _ _ _ _ _ _ w)) ?_
        refine hkz3 _ ?_ ?_
        exact rfl
        repeat (first | exact Sub.refl _ | refine Sub.skip rfl ?_)
      case Fz3 =>
        intro hc5 hkz3
        refine hW.skip rfl rfl rfl ?_
        refine hW.skip rfl rfl rfl ?_
        refine hW.skip rfl rfl rfl ?_
        refine hkz3 _ ?_
        repeat (first | exact Sub.refl _ | refine Sub.skip rfl ?_)
      case az3 => exact rfl
      case bz3 => exact rfl
      case cz3 => exact rfl
      case dz3 => exact rfl
      refine hW.step rfl rfl rfl (OpV.move rfl) ?_
      refine hW.and 27 31 30 (p := ?pz6) (rest := ?qz6) (B := ?Bz6) rfl ?Tz6 ?Fz6 ?az6 ?bz6 ?cz6 ?dz6 ?ez6
      case Tz6 =>
        intro hc7 hkz6
        refine hW.step rfl rfl rfl (OpV.fieldAddr rfl fo_54_1) ?_
        refine hW.step rfl rfl rfl (OpV.loadBox rfl pt_3 (.head _) rfl) ?_
        refine hW.step rfl rfl rfl (OpV.call (evs.cons rfl (evs.cons rfl (evs.cons rfl (evs.nil)))) ca_58 (fun w hs => s_in _ _ _ w)) ?_
        refine hkz6 _ ?_ ?_
        exact rfl
        repeat (first | exact Sub.refl _ | refine Sub.skip rfl ?_)
      case Fz6 =>
        intro hc8 hkz6
        refine hW.skip rfl rfl rfl ?_
        refine hW.skip rfl rfl rfl ?_
        refine hW.skip rfl rfl rfl ?_
        refine hkz6 _ ?_
        repeat (first | exact Sub.refl _ | refine Sub.skip rfl ?_)
      case az6 => exact rfl
      case bz6 => exact rfl
      case cz6 => exact rfl
      case dz6 => exact rfl
      refine hW.step rfl rfl rfl (OpV.move rfl) ?_
      refine hW.and 32 47 46 (p := ?pz9) (rest := ?qz9) (B := ?Bz9) rfl ?Tz9 ?Fz9 ?az9 ?bz9 ?cz9 ?dz9 ?ez9
      case Tz9 =>
        intro hc10 hkz9
        refine hW.step rfl rfl rfl (OpV.fieldAddr rfl fo_54_2) ?_
        refine hW.step rfl rfl rfl (OpV.loadBox rfl pt_3 (.head _) rfl) ?_
        refine hW.step rfl rfl rfl (OpV.fieldAddr rfl fo_54_0) ?_
        refine hW.step rfl rfl rfl (OpV.fieldAddr rfl fo_40_5) ?_
        refine hW.step rfl rfl rfl (OpV.loadBox rfl pt_3 (.head _) rfl) ?_
        refine hW.step rfl rfl rfl (OpV.fieldAddr rfl fo_54_0) ?_
        refine hW.step rfl rfl rfl (OpV.loadPart rfl (.head _) ag_40 rfl rfl) ?_
        refine hW.step rfl rfl rfl (OpV.call (evs.cons rfl (evs.nil)) ca_79 (fun w hs => s_BlankLines _ _ _ _ _ _ _ _ _ w)) ?_
        refine hW.step rfl rfl rfl (OpV.addW rfl rfl) ?_
        refine hW.step rfl rfl rfl (OpV.fieldAddr rfl fo_54_1) ?_
        refine hW.step rfl rfl rfl (OpV.loadBox rfl pt_3 (.head _) rfl) ?_
        refine hW.step rfl rfl rfl (OpV.addW rfl rfl) ?_
        refine hW.step rfl rfl rfl (OpV.subW rfl rfl) ?_
        refine hW.step rfl rfl rfl (OpV.call (evs.cons rfl (evs.cons rfl (evs.cons rfl (evs.nil)))) ca_58 (fun w hs => s_in _ _ _ w)) ?_
        refine hkz9 _ ?_ ?_
        exact rfl
        repeat (first | exact Sub.refl _ | refine Sub.skip rfl ?_)
      case Fz9 =>
        intro hc11 hkz9
        refine hW.skip rfl rfl rfl ?_
        refine hW.skip rfl rfl rfl ?_
        refine hW.skip rfl rfl rfl ?_
        refine hW.skip rfl rfl rfl ?_
        refine hW.skip rfl rfl rfl ?_
        refine hW.skip rfl rfl rfl ?_
        refine hW.skip rfl rfl rfl ?_
        refine hW.skip rfl rfl rfl ?_
        refine hW.skip rfl rfl rfl ?_
        refine hW.skip rfl rfl rfl ?_
        refine hW.skip rfl rfl rfl ?_
        refine hW.skip rfl rfl rfl ?_
        refine hW.skip rfl rfl rfl ?_
        refine hW.skip rfl rfl rfl ?_
        refine hkz9 _ ?_
        repeat (first | exact Sub.refl _ | refine Sub.skip rfl ?_)
      case az9 => exact rfl
      case bz9 => exact rfl
      case cz9 => exact rfl
      case dz9 => exact rfl
      refine hW.step rfl rfl rfl (OpV.assign rfl) ?_
      refine hk _ ?_
      refine Sub.cons ?_ (Sub.cons ?_ (Sub.cons ?_ (Sub.cons ?_ (Sub.cons ?_ (Sub.cons ?_ (Sub.cons ?_ (Sub.cons ?_ (Sub.nil _))))))))
      all_goals exact rfl
    have hres : (((decide ((k : Int) ≤ 1000) && modeOk m0 m1 m2 m3 m4 m5 m6 m7 m8) && inR e 0 255) && inR l 0 (IntKind.i64.wrap (IntKind.i64.wrap (IntKind.i64.wrap (m5 + blankLines m0 m1 m2 m3 m4 m5 m6 m7 m8) + e) - 1))) = paceOk m0 m1 m2 m3 m4 m5 m6 m7 m8 e l xs := by unfold paceOk paceHead; rw [← hl, hall]; show (_ && _ && _ && inR l 0 (IntKind.i64.wrap (longW m0 m1 m2 m3 m4 m5 m6 m7 m8 e - 1))) = _; generalize modeOk m0 m1 m2 m3 m4 m5 m6 m7 m8 = p1; generalize inR e 0 255 = p2; generalize inR l 0 (IntKind.i64.wrap (longW m0 m1 m2 m3 m4 m5 m6 m7 m8 e - 1)) = p3; generalize decide ((k : Int) ≤ 1000) = p4; cases p1 <;> cases p2 <;> cases p3 <;> cases p4 <;> rfl
    refine En.next ?_
    refine WC.ret ?_
    refine En.ret1 rfl (Res.tmp rfl) ?_
    intro w' hs
    exact ⟨congrArg _ (congrArg _ hres), hs.below⟩

theorem i_ShortFrame (m0 m1 m2 m3 m4 m5 m6 m7 m8 e l : Int) (a : Option Addr) (n c : Nat) (xs : List Int) (w : World) (hr : RdI w a n xs):
    Calls Try.prog 36 #[.agg #[.int .i64 m0, .int .i64 m1, .int .i64 m2, .int .i64 m3, .int .i64 m4, .int .i64 m5, .int .i64 m6, .int .i64 m7, .int .i64 m8, .int .i64 e, .int .i64 l, .slice a n c]] w fun en w' => en = .returned (.int .i64 (shortF m0 m1 m2 m3 m4 m5 m6 m7 m8 e l xs)) ∧ Ext w w' := by
  refine enter (vs := [_]) Try.func36 rfl rfl rfl rfl ?_
  refine WC.seq ?_
  refine WC.region ?_
  refine WL.heavy rfl rfl rfl (OpH.box rfl rfl ?_)
  intro b0
  refine Lt.ofWL.step rfl rfl rfl (OpV.assign rfl) ?_
  refine WL.nil ?_
  refine En.next ?_
  refine WC.seq ?_
  refine WC.seq ?_
  refine WC.region ?_
  refine Lt.ofWL.step rfl rfl rfl (OpV.loadAll rfl (.head _) ag_54) ?_
  refine Lt.ofWL.step rfl rfl rfl (OpV.call (evs.cons rfl (evs.nil)) ca_39 (fun w hs => i_PaceOk _ _ _ _ _ _ _ _ _ _ _ _ _ _ _ w (hr.ext hs.below))) ?_
  refine Lt.ofWL.step rfl rfl rfl (OpV.not rfl) ?_
  refine WL.nil ?_
  refine En.next ?_
  refine WC.cond rfl ?_ ?_
  ·
    intro hc1
    refine WC.seq ?_
    refine WC.region ?_
    refine Lt.ofWL.step rfl rfl rfl (OpV.assign rfl) ?_
    refine WL.nil ?_
    refine En.next ?_
    refine WC.ret ?_
    refine En.then_ret ?_
    refine En.ret1 rfl (Res.tmp rfl) ?_
    intro w' hs
    refine ⟨congrArg _ (congrArg _ ?_), hs.below⟩
    simp at hc1
    simp [shortF, hc1]
  ·
    intro hc1
    have hok : paceOk m0 m1 m2 m3 m4 m5 m6 m7 m8 e l xs = true := by simpa using hc1
    refine WC.skip ?_
    refine En.next ?_
    refine WC.seq ?_
    refine WC.region ?_
    refine Lt.ofWL.step rfl rfl rfl (OpV.loadAll rfl (.head _) ag_54) ?_
    refine Lt.ofWL.step rfl rfl rfl (OpV.call (evs.cons rfl (evs.nil)) ca_75 (fun w hs => i_shortFrame_ _ _ _ _ _ _ _ _ _ _ _ _ _ _ w)) ?_
    refine Lt.ofWL.step rfl rfl rfl (OpV.assign rfl) ?_
    refine WL.nil ?_
    refine En.next ?_
    refine WC.ret ?_
    refine En.ret1 rfl (Res.tmp rfl) ?_
    intro w' hs
    refine ⟨congrArg _ (congrArg _ ?_), hs.below⟩
    unfold shortF
    exact (if_pos hok).symm

theorem s_ShortFrame (m0 m1 m2 m3 m4 m5 m6 m7 m8 e l : Int) (a : Option Addr) (n c : Nat) (xs : List Int) (w : World) (hr : RdI w a n xs):
    Calls Try.prog 45 #[.agg #[.int .i64 m0, .int .i64 m1, .int .i64 m2, .int .i64 m3, .int .i64 m4, .int .i64 m5, .int .i64 m6, .int .i64 m7, .int .i64 m8, .int .i64 e, .int .i64 l, .slice a n c]] w fun en w' => en = .returned (.int .i64 (shortF m0 m1 m2 m3 m4 m5 m6 m7 m8 e l xs)) ∧ Ext w w' := by
  refine enter (vs := [_]) Try.func45 rfl rfl rfl rfl ?_
  refine WC.seq ?_
  refine WC.region ?_
  refine WL.heavy rfl rfl rfl (OpH.box rfl rfl ?_)
  intro b0
  refine Lt.ofWL.step rfl rfl rfl (OpV.assign rfl) ?_
  refine WL.nil ?_
  refine En.next ?_
  refine WC.seq ?_
  refine WC.seq ?_
  refine WC.region ?_
  refine Lt.ofWL.step rfl rfl rfl (OpV.loadAll rfl (.head _) ag_54) ?_
  refine Lt.ofWL.step rfl rfl rfl (OpV.call (evs.cons rfl (evs.nil)) ca_41 (fun w hs => s_PaceOk _ _ _ _ _ _ _ _ _ _ _ _ _ _ _ w (hr.ext hs.below))) ?_
  refine Lt.ofWL.step rfl rfl rfl (OpV.not rfl) ?_
  refine WL.nil ?_
  refine En.next ?_
  refine WC.cond rfl ?_ ?_
  ·
    intro hc1
    refine WC.seq ?_
    refine WC.region ?_
    refine Lt.ofWL.step rfl rfl rfl (OpV.assign rfl) ?_
    refine WL.nil ?_
    refine En.next ?_
    refine WC.ret ?_
    refine En.then_ret ?_
    refine En.ret1 rfl (Res.tmp rfl) ?_
    intro w' hs
    refine ⟨congrArg _ (congrArg _ ?_), hs.below⟩
    simp at hc1
    simp [shortF, hc1]
  ·
    intro hc1
    have hok : paceOk m0 m1 m2 m3 m4 m5 m6 m7 m8 e l xs = true := by simpa using hc1
    refine WC.skip ?_
    refine En.next ?_
    refine WC.seq ?_
    refine WC.drawn [(0, ?r3v0), (1, ?r3v1), (2, ?r3v2), (3, ?r3v3), (4, ?r3v4), (5, ?r3v5)] (by kernel_rfl) (by kernel_rfl) ?dH3 ?dK3
    case dH3 =>
      intro W hW hk
      refine hW.step rfl rfl rfl (OpV.fieldAddr rfl fo_54_0) ?_
      refine hW.step rfl rfl rfl (OpV.fieldAddr rfl fo_40_5) ?_
      refine hW.step rfl rfl rfl (OpV.loadBox rfl pt_3 (.head _) rfl) ?_
      refine hW.step rfl rfl rfl (OpV.fieldAddr rfl fo_54_0) ?_
      refine hW.step rfl rfl rfl (OpV.loadPart rfl (.head _) ag_40 rfl rfl) ?_
      refine hW.step rfl rfl rfl (OpV.call (evs.cons rfl (evs.nil)) ca_79 (fun w hs => s_BlankLines _ _ _ _ _ _ _ _ _ w)) ?_
      refine hW.step rfl rfl rfl (OpV.addW rfl rfl) ?_
      refine hW.step rfl rfl rfl (OpV.assign rfl) ?_
      refine hk _ ?_
      refine Sub.cons ?_ (Sub.cons ?_ (Sub.cons ?_ (Sub.cons ?_ (Sub.cons ?_ (Sub.cons ?_ (Sub.nil _))))))
      all_goals exact rfl
    refine En.next ?_
    refine WC.ret ?_
    refine En.ret1 rfl (Res.tmp rfl) ?_
    intro w' hs
    refine ⟨congrArg _ (congrArg _ ?_), hs.below⟩
    unfold shortF
    exact (if_pos hok).symm

theorem i_LongFrame (m0 m1 m2 m3 m4 m5 m6 m7 m8 e l : Int) (a : Option Addr) (n c : Nat) (xs : List Int) (w : World) (hr : RdI w a n xs):
    Calls Try.prog 34 #[.agg #[.int .i64 m0, .int .i64 m1, .int .i64 m2, .int .i64 m3, .int .i64 m4, .int .i64 m5, .int .i64 m6, .int .i64 m7, .int .i64 m8, .int .i64 e, .int .i64 l, .slice a n c]] w fun en w' => en = .returned (.int .i64 (longF m0 m1 m2 m3 m4 m5 m6 m7 m8 e l xs)) ∧ Ext w w' := by
  refine enter (vs := [_]) Try.func34 rfl rfl rfl rfl ?_
  refine WC.seq ?_
  refine WC.region ?_
  refine WL.heavy rfl rfl rfl (OpH.box rfl rfl ?_)
  intro b0
  refine Lt.ofWL.step rfl rfl rfl (OpV.assign rfl) ?_
  refine WL.nil ?_
  refine En.next ?_
  refine WC.seq ?_
  refine WC.seq ?_
  refine WC.region ?_
  refine Lt.ofWL.step rfl rfl rfl (OpV.loadAll rfl (.head _) ag_54) ?_
  refine Lt.ofWL.step rfl rfl rfl (OpV.call (evs.cons rfl (evs.nil)) ca_39 (fun w hs => i_PaceOk _ _ _ _ _ _ _ _ _ _ _ _ _ _ _ w (hr.ext hs.below))) ?_
  refine Lt.ofWL.step rfl rfl rfl (OpV.not rfl) ?_
  refine WL.nil ?_
  refine En.next ?_
  refine WC.cond rfl ?_ ?_
  ·
    intro hc1
    refine WC.seq ?_
    refine WC.region ?_
    refine Lt.ofWL.step rfl rfl rfl (OpV.assign rfl) ?_
    refine WL.nil ?_
    refine En.next ?_
    refine WC.ret ?_
    refine En.then_ret ?_
    refine En.ret1 rfl (Res.tmp rfl) ?_
    intro w' hs
    refine ⟨congrArg _ (congrArg _ ?_), hs.below⟩
    simp at hc1
    simp [longF, hc1]
  ·
    intro hc1
    have hok : paceOk m0 m1 m2 m3 m4 m5 m6 m7 m8 e l xs = true := by simpa using hc1
    refine WC.skip ?_
    refine En.next ?_
    refine WC.seq ?_
    refine WC.drawn [(0, ?r3v0), (1, ?r3v1), (2, ?r3v2), (3, ?r3v3), (4, ?r3v4), (5, ?r3v5)] (by kernel_rfl) (by kernel_rfl) ?dH3 ?dK3
    case dH3 =>
      intro W hW hk
      refine hW.step rfl rfl rfl (OpV.loadAll rfl (.head _) ag_54) ?_
      refine hW.step rfl rfl rfl (OpV.call (evs.cons rfl (evs.nil)) ca_75 (fun w hs => i_shortFrame_ _ _ _ _ _ _ _ _ _ _ _ _ _ _ w)) ?_
      refine hW.step rfl rfl rfl (OpV.fieldAddr rfl fo_54_1) ?_
      refine hW.step rfl rfl rfl (OpV.loadBox rfl pt_3 (.head _) rfl) ?_
      refine hW.step rfl rfl rfl (OpV.addW rfl rfl) ?_
      refine hW.step rfl rfl rfl (OpV.assign rfl) ?_
      refine hk _ ?_
      refine Sub.cons ?_ (Sub.cons ?_ (Sub.cons ?_ (Sub.cons ?_ (Sub.cons ?_ (Sub.cons ?_ (Sub.nil _))))))
      all_goals exact rfl
    refine En.next ?_
    refine WC.ret ?_
    refine En.ret1 rfl (Res.tmp rfl) ?_
    intro w' hs
    refine ⟨congrArg _ (congrArg _ ?_), hs.below⟩
    unfold longF
    exact (if_pos hok).symm

theorem s_LongFrame (m0 m1 m2 m3 m4 m5 m6 m7 m8 e l : Int) (a : Option Addr) (n c : Nat) (xs : List Int) (w : World) (hr : RdI w a n xs):
    Calls Try.prog 44 #[.agg #[.int .i64 m0, .int .i64 m1, .int .i64 m2, .int .i64 m3, .int .i64 m4, .int .i64 m5, .int .i64 m6, .int .i64 m7, .int .i64 m8, .int .i64 e, .int .i64 l, .slice a n c]] w fun en w' => en = .returned (.int .i64 (longF m0 m1 m2 m3 m4 m5 m6 m7 m8 e l xs)) ∧ Ext w w' := by
  refine enter (vs := [_]) Try.func44 rfl rfl rfl rfl ?_
  refine WC.seq ?_
  refine WC.region ?_
  refine WL.heavy rfl rfl rfl (OpH.box rfl rfl ?_)
  intro b0
  refine Lt.ofWL.step rfl rfl rfl (OpV.assign rfl) ?_
  refine WL.nil ?_
  refine En.next ?_
  refine WC.seq ?_
  refine WC.seq ?_
  refine WC.region ?_
  refine Lt.ofWL.step rfl rfl rfl (OpV.loadAll rfl (.head _) ag_54) ?_
  refine Lt.ofWL.step rfl rfl rfl (OpV.call (evs.cons rfl (evs.nil)) ca_41 (fun w hs => s_PaceOk _ _ _ _ _ _ _ _ _ _ _ _ _ _ _ w (hr.ext hs.below))) ?_
  refine Lt.ofWL.step rfl rfl rfl (OpV.not rfl) ?_
  refine WL.nil ?_
  refine En.next ?_
  refine WC.cond rfl ?_ ?_
  ·
    intro hc1
    refine WC.seq ?_
    refine WC.region ?_
    refine Lt.ofWL.step rfl rfl rfl (OpV.assign rfl) ?_
    refine WL.nil ?_
    refine En.next ?_
    refine WC.ret ?_
    refine En.then_ret ?_
    refine En.ret1 rfl (Res.tmp rfl) ?_
    intro w' hs
    refine ⟨congrArg _ (congrArg _ ?_), hs.below⟩
    simp at hc1
    simp [longF, hc1]
  ·
    intro hc1
    have hok : paceOk m0 m1 m2 m3 m4 m5 m6 m7 m8 e l xs = true := by simpa using hc1
    refine WC.skip ?_
    refine En.next ?_
    refine WC.seq ?_
    refine WC.drawn [(0, ?r3v0), (1, ?r3v1), (2, ?r3v2), (3, ?r3v3), (4, ?r3v4), (5, ?r3v5)] (by kernel_rfl) (by kernel_rfl) ?dH3 ?dK3
    case dH3 =>
      intro W hW hk
      refine hW.step rfl rfl rfl (OpV.fieldAddr rfl fo_54_0) ?_
      refine hW.step rfl rfl rfl (OpV.fieldAddr rfl fo_40_5) ?_
      refine hW.step rfl rfl rfl (OpV.loadBox rfl pt_3 (.head _) rfl) ?_
      refine hW.step rfl rfl rfl (OpV.fieldAddr rfl fo_54_0) ?_
      refine hW.step rfl rfl rfl (OpV.loadPart rfl (.head _) ag_40 rfl rfl) ?_
      refine hW.step rfl rfl rfl (OpV.call (evs.cons rfl (evs.nil)) ca_79 (fun w hs => s_BlankLines _ _ _ _ _ _ _ _ _ w)) ?_
      refine hW.step rfl rfl rfl (OpV.addW rfl rfl) ?_
      refine hW.step rfl rfl rfl (OpV.fieldAddr rfl fo_54_1) ?_
      refine hW.step rfl rfl rfl (OpV.loadBox rfl pt_3 (.head _) rfl) ?_
      refine hW.step rfl rfl rfl (OpV.addW rfl rfl) ?_
      refine hW.step rfl rfl rfl (OpV.assign rfl) ?_
      refine hk _ ?_
      refine Sub.cons ?_ (Sub.cons ?_ (Sub.cons ?_ (Sub.cons ?_ (Sub.cons ?_ (Sub.cons ?_ (Sub.nil _))))))
      all_goals exact rfl
    refine En.next ?_
    refine WC.ret ?_
    refine En.ret1 rfl (Res.tmp rfl) ?_
    intro w' hs
    refine ⟨congrArg _ (congrArg _ ?_), hs.below⟩
    unfold longF
    exact (if_pos hok).symm

theorem i_PaceTime (m0 m1 m2 m3 m4 m5 m6 m7 m8 e l : Int) (a : Option Addr) (n c : Nat) (xs : List Int) (w : World) (hr : RdI w a n xs):
    Calls Try.prog 38 #[.agg #[.int .i64 m0, .int .i64 m1, .int .i64 m2, .int .i64 m3, .int .i64 m4, .int .i64 m5, .int .i64 m6, .int .i64 m7, .int .i64 m8, .int .i64 e, .int .i64 l, .slice a n c]] w fun en w' => en = .returned (.int .i64 (paceTime m0 m1 m2 m3 m4 m5 m6 m7 m8 e l xs)) ∧ Ext w w' := by
  have hl := hr.len
  have hb1 := hr.bd
  refine enter (vs := [_]) Try.func38 rfl rfl rfl rfl ?_
  refine WC.seq ?_
  refine WC.region ?_
  refine WL.heavy rfl rfl rfl (OpH.box rfl rfl ?_)
  intro b0
  refine Lt.ofWL.step rfl rfl rfl (OpV.assign rfl) ?_
  refine WL.nil ?_
  refine En.next ?_
  refine WC.seq ?_
  refine WC.seq ?_
  refine WC.region ?_
  refine Lt.ofWL.step rfl rfl rfl (OpV.loadAll rfl (.head _) ag_54) ?_
  refine Lt.ofWL.step rfl rfl rfl (OpV.call (evs.cons rfl (evs.nil)) ca_39 (fun w hs => i_PaceOk _ _ _ _ _ _ _ _ _ _ _ _ _ _ _ w (hr.ext hs.below))) ?_
  refine Lt.ofWL.step rfl rfl rfl (OpV.not rfl) ?_
  refine WL.nil ?_
  refine En.next ?_
  refine WC.cond rfl ?_ ?_
  ·
    intro hc1
    refine WC.seq ?_
    refine WC.region ?_
    refine Lt.ofWL.step rfl rfl rfl (OpV.assign rfl) ?_
    refine WL.nil ?_
    refine En.next ?_
    refine WC.ret ?_
    refine En.then_ret ?_
    refine En.ret1 rfl (Res.tmp rfl) ?_
    intro w' hs
    refine ⟨congrArg _ (congrArg _ ?_), hs.below⟩
    simp at hc1
    simp [paceTime, hc1]
  ·
    intro hc1
    have hok : paceOk m0 m1 m2 m3 m4 m5 m6 m7 m8 e l xs = true := by simpa using hc1
    refine WC.skip ?_
    refine En.next ?_
    refine WC.seq ?_
    refine WC.region ?_
    refine Lt.ofWL.step rfl rfl rfl (OpV.fieldAddr rfl fo_54_2) ?_
    refine Lt.ofWL.step rfl rfl rfl (OpV.loadBox rfl pt_3 (.head _) rfl) ?_
    refine Lt.ofWL.step rfl rfl rfl (OpV.assign rfl) ?_
    refine WL.nil ?_
    refine En.next ?_
    refine WC.seq ?_
    refine WC.seq ?_
    refine WC.region ?_
    refine Lt.ofWL.step rfl rfl rfl (OpV.fieldAddr rfl fo_54_3) ?_
    refine Lt.ofWL.step rfl rfl rfl (OpV.loadBox rfl pt_44 (.head _) rfl) ?_
    refine Lt.ofWL.step rfl rfl rfl (OpV.len rfl si_44 rfl) ?_
    refine Lt.ofWL.step rfl rfl rfl (OpV.move rfl) ?_
    refine WL.nil ?_
    refine En.next ?_
    refine WC.block ?_
    refine WC.loop (EI := fun k : Nat => [(12, .slice a n c), (13, .int .i64 n), (14, .int .i64 k), (3, .int .i64 ((xs.take k).foldl addW l)), (1, .pointer (some ⟨b0, 0, none⟩))]) (FI := fun _ => [Chunk.box b0 54 [.int .i64 m0, .int .i64 m1, .int .i64 m2, .int .i64 m3, .int .i64 m4, .int .i64 m5, .int .i64 m6, .int .i64 m7, .int .i64 m8, .int .i64 e, .int .i64 l, .slice a n c]]) (PI := fun k => k ≤ n) (m := fun k => n - k) 0 (Nat.zero_le _) (Sub.cons rfl (Sub.cons rfl (Sub.cons rfl (Sub.cons rfl (Sub.cons rfl (Sub.nil _)))))) (fun _ h => h) ?_
    intro k hP
    refine WC.seq ?_
    refine WC.region ?_
    refine Lt.ofWL.step rfl rfl rfl (OpV.lss rfl rfl) ?_
    refine WL.nil ?_
    refine En.next ?_
    refine WC.seq ?_
    refine WC.cond rfl ?_ ?_
    ·
      intro hc2
      have hlt := of_decide_eq_true hc2
      obtain ⟨b, o, x, rfl, hx, _, hcell⟩ := hr.get (k := k) (by omega)
      refine WC.skip ?_
      refine En.next ?_
      refine WC.seq ?_
      refine WC.block ?_
      refine WC.seq ?_
      refine WC.region ?_
      refine Lt.ofWL.step rfl rfl rfl (OpV.idx1 rfl rfl se_44 (by omega)) ?_
      refine Lt.ofWL.step rfl rfl rfl (OpV.load1 rfl pt_3 (fun w hs => hs.cell hcell)) ?_
      refine Lt.ofWL.step rfl rfl rfl (OpV.assign rfl) ?_
      refine WL.nil ?_
      refine En.next ?_
      refine WC.region ?_
      refine Lt.ofWL.step rfl rfl rfl (OpV.move rfl) ?_
      refine Lt.ofWL.step rfl rfl rfl (OpV.move rfl) ?_
      refine Lt.ofWL.step rfl rfl rfl (OpV.addW rfl rfl) ?_
      refine Lt.ofWL.step rfl rfl rfl (OpV.assign rfl) ?_
      refine WL.nil ?_
      refine En.block_norm ?_
      refine En.next ?_
      refine WC.region ?_
      refine Lt.ofWL.step rfl rfl rfl (OpV.add rfl rfl ⟨by omega, by omega⟩) ?_
      refine Lt.ofWL.step rfl rfl rfl (OpV.move rfl) ?_
      refine WL.nil ?_
      refine En.round (k + 1) (by omega) (by omega) (Sub.cons rfl (Sub.cons rfl (Sub.cons rfl (Sub.cons ?_ (Sub.cons rfl (Sub.nil _)))))) (fun _ h => h)
      rw [foldl_take l hx]; rfl
    ·
      intro hc2
      have hge := of_decide_eq_false hc2
      have hk : k = n := by omega
      subst hk
      refine WC.exit ?_
      refine En.then_exit ?_
      refine En.then_exit ?_
      refine En.block_exit ?_
      refine En.next ?_
      refine WC.seq ?_
      refine WC.region ?_
      refine Lt.ofWL.step rfl rfl rfl (OpV.move rfl) ?_
      refine Lt.ofWL.step rfl rfl rfl (OpV.assign rfl) ?_
      refine WL.nil ?_
      refine En.next ?_
      refine WC.ret ?_
      refine En.ret1 rfl (Res.tmp rfl) ?_
      intro w' hs
      refine ⟨congrArg _ (congrArg _ ?_), hs.below⟩
      unfold paceTime
      rw [if_pos hok, hl, List.take_length]

theorem s_PaceTime (m0 m1 m2 m3 m4 m5 m6 m7 m8 e l : Int) (a : Option Addr) (n c : Nat) (xs : List Int) (w : World) (hr : RdI w a n xs):
    Calls Try.prog 46 #[.agg #[.int .i64 m0, .int .i64 m1, .int .i64 m2, .int .i64 m3, .int .i64 m4, .int .i64 m5, .int .i64 m6, .int .i64 m7, .int .i64 m8, .int .i64 e, .int .i64 l, .slice a n c]] w fun en w' => en = .returned (.int .i64 (paceTime m0 m1 m2 m3 m4 m5 m6 m7 m8 e l xs)) ∧ Ext w w' := by
  have hl := hr.len
  have hb1 := hr.bd
  refine enter (vs := [_]) Try.func46 rfl rfl rfl rfl ?_
  refine WC.seq ?_
  refine WC.region ?_
  refine WL.heavy rfl rfl rfl (OpH.box rfl rfl ?_)
  intro b0
  refine Lt.ofWL.step rfl rfl rfl (OpV.assign rfl) ?_
  refine WL.nil ?_
  refine En.next ?_
  refine WC.seq ?_
  refine WC.seq ?_
  refine WC.region ?_
  refine Lt.ofWL.step rfl rfl rfl (OpV.loadAll rfl (.head _) ag_54) ?_
  refine Lt.ofWL.step rfl rfl rfl (OpV.call (evs.cons rfl (evs.nil)) ca_41 (fun w hs => s_PaceOk _ _ _ _ _ _ _ _ _ _ _ _ _ _ _ w (hr.ext hs.below))) ?_
  refine Lt.ofWL.step rfl rfl rfl (OpV.not rfl) ?_
  refine WL.nil ?_
  refine En.next ?_
  refine WC.cond rfl ?_ ?_
  ·
    intro hc1
    refine WC.seq ?_
    refine WC.region ?_
    refine Lt.ofWL.step rfl rfl rfl (OpV.assign rfl) ?_
    refine WL.nil ?_
    refine En.next ?_
    refine WC.ret ?_
    refine En.then_ret ?_
    refine En.ret1 rfl (Res.tmp rfl) ?_
    intro w' hs
    refine ⟨congrArg _ (congrArg _ ?_), hs.below⟩
    simp at hc1
    simp [paceTime, hc1]
  ·
    intro hc1
    have hok : paceOk m0 m1 m2 m3 m4 m5 m6 m7 m8 e l xs = true := by simpa using hc1
    refine WC.skip ?_
    refine En.next ?_
    refine WC.seq ?_
    refine WC.region ?_
    refine Lt.ofWL.step rfl rfl rfl (OpV.fieldAddr rfl fo_54_2) ?_
    refine Lt.ofWL.step rfl rfl rfl (OpV.loadBox rfl pt_3 (.head _) rfl) ?_
    refine Lt.ofWL.step rfl rfl rfl (OpV.assign rfl) ?_
    refine WL.nil ?_
    refine En.next ?_
    refine WC.seq ?_
    refine WC.seq ?_
    refine WC.region ?_
    refine Lt.ofWL.step rfl rfl rfl (OpV.assign rfl) ?_
    refine WL.nil ?_
    refine En.next ?_
    refine WC.block ?_
    refine WC.loop (EI := fun k : Nat => [(4, .int .i64 k), (3, .int .i64 ((xs.take k).foldl addW l)), (1, .pointer (some ⟨b0, 0, none⟩))]) (FI := fun _ => [Chunk.box b0 54 [.int .i64 m0, .int .i64 m1, .int .i64 m2, .int .i64 m3, .int .i64 m4, .int .i64 m5, .int .i64 m6, .int .i64 m7, .int .i64 m8, .int .i64 e, .int .i64 l, .slice a n c]]) (PI := fun k => k ≤ n) (m := fun k => n - k) 0 (Nat.zero_le _) (Sub.cons rfl (Sub.cons rfl (Sub.cons rfl (Sub.nil _)))) (fun _ h => h) ?_
    intro k hP
    refine WC.seq ?_
    refine WC.seq ?_
    refine WC.region ?_
    refine Lt.ofWL.step rfl rfl rfl (OpV.move rfl) ?_
    refine Lt.ofWL.step rfl rfl rfl (OpV.fieldAddr rfl fo_54_3) ?_
    refine Lt.ofWL.step rfl rfl rfl (OpV.loadBox rfl pt_44 (.head _) rfl) ?_
    refine Lt.ofWL.step rfl rfl rfl (OpV.len rfl si_44 rfl) ?_
    refine Lt.ofWL.step rfl rfl rfl (OpV.lss rfl rfl) ?_
    refine WL.nil ?_
    refine En.next ?_
    refine WC.cond rfl ?_ ?_
    ·
      intro hc2
      have hlt := of_decide_eq_true hc2
      obtain ⟨b, o, x, rfl, hx, _, hcell⟩ := hr.get (k := k) (by omega)
      refine WC.skip ?_
      refine En.next ?_
      refine WC.seq ?_
      refine WC.block ?_
      refine WC.region ?_
      refine Lt.ofWL.step rfl rfl rfl (OpV.move rfl) ?_
      refine Lt.ofWL.step rfl rfl rfl (OpV.fieldAddr rfl fo_54_3) ?_
      refine Lt.ofWL.step rfl rfl rfl (OpV.loadBox rfl pt_44 (.head _) rfl) ?_
      refine Lt.ofWL.step rfl rfl rfl (OpV.move rfl) ?_
      refine Lt.ofWL.step rfl rfl rfl (OpV.idx1 rfl rfl se_44 (by omega)) ?_
      refine Lt.ofWL.step rfl rfl rfl (OpV.load1 rfl pt_3 (fun w hs => hs.cell hcell)) ?_
      refine Lt.ofWL.step rfl rfl rfl (OpV.addW rfl rfl) ?_
      refine Lt.ofWL.step rfl rfl rfl (OpV.assign rfl) ?_
      refine WL.nil ?_
      refine En.block_norm ?_
      refine En.next ?_
      refine WC.region ?_
      refine Lt.ofWL.step rfl rfl rfl (OpV.move rfl) ?_
      refine Lt.ofWL.step rfl rfl rfl (OpV.add rfl rfl ⟨by omega, by omega⟩) ?_
      refine Lt.ofWL.step rfl rfl rfl (OpV.assign rfl) ?_
      refine WL.nil ?_
      refine En.round (k + 1) (by omega) (by omega) (Sub.cons rfl (Sub.cons ?_ (Sub.cons rfl (Sub.nil _)))) (fun _ h => h)
      rw [foldl_take l hx]; rfl
    ·
      intro hc2
      have hge := of_decide_eq_false hc2
      have hk : k = n := by omega
      subst hk
      refine WC.exit ?_
      refine En.then_exit ?_
      refine En.then_exit ?_
      refine En.block_exit ?_
      refine En.next ?_
      refine WC.seq ?_
      refine WC.region ?_
      refine Lt.ofWL.step rfl rfl rfl (OpV.move rfl) ?_
      refine Lt.ofWL.step rfl rfl rfl (OpV.assign rfl) ?_
      refine WL.nil ?_
      refine En.next ?_
      refine WC.ret ?_
      refine En.ret1 rfl (Res.tmp rfl) ?_
      intro w' hs
      refine ⟨congrArg _ (congrArg _ ?_), hs.below⟩
      unfold paceTime
      rw [if_pos hok, hl, List.take_length]

theorem l_szPace (m0 m1 m2 m3 m4 m5 m6 m7 m8 e l : Int) (a : Option Addr) (n c : Nat) (m : Int) (w : World) (hm : 0 ≤ m ∧ m ≤ 1048576) (hn : n ≤ 9223372036854775807):
    Calls Try.prog 40 #[.agg #[.int .i64 m0, .int .i64 m1, .int .i64 m2, .int .i64 m3, .int .i64 m4, .int .i64 m5, .int .i64 m6, .int .i64 m7, .int .i64 m8, .int .i64 e, .int .i64 l, .slice a n c], .int .i64 m] w fun en w' => en = .returned (.int .i64 (szs m n)) ∧ Ext w w' := by
  refine enter (vs := [_, _]) Try.func40 rfl rfl rfl rfl ?_
  refine WC.seq ?_
  refine WC.region ?_
  refine WL.heavy rfl rfl rfl (OpH.box rfl rfl ?_)
  intro b0
  refine Lt.ofWL.step rfl rfl rfl (OpV.assign rfl) ?_
  refine WL.nil ?_
  refine En.next ?_
  refine WC.seq ?_
  refine WC.region ?_
  refine Lt.ofWL.step rfl rfl rfl (OpV.fieldAddr rfl fo_64_3) ?_
  refine Lt.ofWL.step rfl rfl rfl (OpV.loadBox rfl pt_44 (.head _) rfl) ?_
  refine Lt.ofWL.step rfl rfl rfl (OpV.move rfl) ?_
  refine Lt.ofWL.step rfl rfl rfl (OpV.call (evs.cons rfl (evs.cons rfl (evs.nil))) ca_65 (fun w hs => l_szIntS _ _ _ _ w ⟨by omega, by omega⟩ (by omega))) ?_
  refine Lt.ofWL.step rfl rfl rfl (OpV.assign rfl) ?_
  refine WL.nil ?_
  refine En.next ?_
  refine WC.seq ?_
  refine WC.seq ?_
  refine WC.region ?_
  refine Lt.ofWL.step rfl rfl rfl (OpV.move rfl) ?_
  refine Lt.ofWL.step rfl rfl rfl (OpV.lss rfl rfl) ?_
  refine WL.nil ?_
  refine En.next ?_
  refine WC.cond rfl ?_ ?_
  ·
    intro hc1
    refine WC.seq ?_
    refine WC.region ?_
    refine Lt.ofWL.step rfl rfl rfl (OpV.assign rfl) ?_
    refine WL.nil ?_
    refine En.next ?_
    refine WC.ret ?_
    refine En.then_ret ?_
    refine En.ret1 rfl (Res.tmp rfl) ?_
    intro w' hs
    refine ⟨congrArg _ (congrArg _ ?_), hs.below⟩
    have khc1 := of_decide_eq_true hc1
    unfold szs at *
    (repeat' split) <;> omega
  ·
    intro hc1
    refine WC.skip ?_
    refine En.next ?_
    refine WC.seq ?_
    refine WC.region ?_
    refine Lt.ofWL.step rfl rfl rfl (OpV.move rfl) ?_
    refine Lt.ofWL.step rfl rfl rfl (OpV.assign rfl) ?_
    refine WL.nil ?_
    refine En.next ?_
    refine WC.ret ?_
    refine En.ret1 rfl (Res.tmp rfl) ?_
    intro w' hs
    refine ⟨congrArg _ (congrArg _ ?_), hs.below⟩
    have khc1 := of_decide_eq_false hc1
    unfold szs at *
    (repeat' split) <;> omega

theorem l_toPace (m0 m1 m2 m3 m4 m5 m6 m7 m8 e l : Int) (a : Option Addr) (n c : Nat) (xs : List Int) (w : World) (hr : RdI w a n xs) (hn : n ≤ 1048576):
    Calls Try.prog 42 #[.agg #[.int .i64 m0, .int .i64 m1, .int .i64 m2, .int .i64 m3, .int .i64 m4, .int .i64 m5, .int .i64 m6, .int .i64 m7, .int .i64 m8, .int .i64 e, .int .i64 l, .slice a n c]] w fun en w' => ∃ rv G, en = .returned rv ∧ (∃ (a1 : Option Addr) (c1 : Nat), rv = .agg #[.int .i64 m0, .int .i64 m1, .int .i64 m2, .int .i64 m3, .int .i64 m4, .int .i64 m5, .int .i64 m6, .int .i64 m7, .int .i64 m8, .int .i64 e, .int .i64 l, .slice a1 n c1] ∧ G = [Chunk.row 3 1 a1 n c1 (xs.map (Value.int .i64))]) ∧ St w G w' := by
  refine enter (vs := [_]) Try.func42 rfl rfl rfl rfl ?_
  refine WC.seq ?_
  refine WC.region ?_
  refine WL.heavy rfl rfl rfl (OpH.box rfl rfl ?_)
  intro b0
  refine WL.heavy rfl rfl rfl (OpH.alloc zc_54 ?_)
  intro b1
  refine WL.nil ?_
  refine En.next ?_
  refine WC.seq ?_
  refine WC.region ?_
  refine WL.heavy rfl rfl rfl (OpH.alloc zc_54 ?_)
  intro b2
  refine WL.nil ?_
  refine En.next ?_
  refine WC.seq ?_
  refine WC.region ?_
  refine Lt.ofWL.step rfl rfl rfl (OpV.fieldAddr rfl fo_64_0) ?_
  refine Lt.ofWL.step rfl rfl rfl (OpV.loadPart rfl (.tail _ (.tail _ (.head _))) ag_35 rfl rfl) ?_
  refine Lt.ofWL.step rfl rfl rfl (OpV.call (evs.cons rfl (evs.nil)) ca_25 (fun w hs => l_toMode _ _ _ _ _ _ _ _ _ w)) ?_
  refine Lt.ofWL.step rfl rfl rfl (OpV.fieldAddr rfl fo_54_0) ?_
  refine WL.heavy0 rfl rfl (OpH.store (A := []) rfl rfl rfl ts_40 rfl rfl ?_)
  refine WL.nil ?_
  refine En.next ?_
  refine WC.seq ?_
  refine WC.region ?_
  refine Lt.ofWL.step rfl rfl rfl (OpV.fieldAddr rfl fo_64_1) ?_
  refine Lt.ofWL.step rfl rfl rfl (OpV.loadBox rfl pt_3 (.tail _ (.tail _ (.head _))) rfl) ?_
  refine Lt.ofWL.step rfl rfl rfl (OpV.fieldAddr rfl fo_54_1) ?_
  refine WL.heavy0 rfl rfl (OpH.store (A := []) rfl rfl rfl ts_3 rfl rfl ?_)
  refine WL.nil ?_
  refine En.next ?_
  refine WC.seq ?_
  refine WC.region ?_
  refine Lt.ofWL.step rfl rfl rfl (OpV.fieldAddr rfl fo_64_2) ?_
  refine Lt.ofWL.step rfl rfl rfl (OpV.loadBox rfl pt_3 (.tail _ (.tail _ (.head _))) rfl) ?_
  refine Lt.ofWL.step rfl rfl rfl (OpV.fieldAddr rfl fo_54_2) ?_
  refine WL.heavy0 rfl rfl (OpH.store (A := []) rfl rfl rfl ts_3 rfl rfl ?_)
  refine WL.nil ?_
  refine En.next ?_
  refine WC.seq ?_
  refine WC.region ?_
  refine Lt.ofWL.step rfl rfl rfl (OpV.fieldAddr rfl fo_64_3) ?_
  refine Lt.ofWL.step rfl rfl rfl (OpV.loadBox rfl pt_44 (.tail _ (.tail _ (.head _))) rfl) ?_
  refine WL.heavy rfl rfl rfl (OpH.callR (evs.cons rfl (evs.nil)) ca_67 (fun w hs => l_toIntS _ _ _ _ w (hr.ext hs.below) (by omega)) ?_)
  rintro _ _ ⟨a11, c11, rfl, rfl⟩
  refine Lt.ofWL.step rfl rfl rfl (OpV.fieldAddr rfl fo_54_3) ?_
  refine WL.heavy0 rfl rfl (OpH.store (A := [_]) rfl rfl rfl ts_44 rfl rfl ?_)
  refine WL.nil ?_
  refine En.next ?_
  refine WC.seq ?_
  refine WC.region ?_
  refine Lt.ofWL.step rfl rfl rfl (OpV.loadAll rfl (.tail _ (.head _)) ag_54) ?_
  refine WL.heavy0 rfl rfl (OpH.store (A := [_, _]) rfl rfl rfl ts_54 rfl rfl ?_)
  refine WL.nil ?_
  refine En.next ?_
  refine WC.ret ?_
  refine En.ret1 rfl (Res.cell rfl (.tail _ (.tail _ (.head _))) ag_54) ?_
  intro w' hs
  exact ⟨_, _, rfl, ⟨_, _, rfl, rfl⟩, hs.sub (.cons_cons _ (.cons _ (.cons _ (.cons _ (.slnil)))))⟩

theorem l_eqMode (m0 m1 m2 m3 m4 m5 m6 m7 m8 u0 u1 u2 u3 u4 u5 u6 u7 u8 : Int) (w : World) :
    Calls Try.prog 80 #[.agg #[.int .i64 m0, .int .i64 m1, .int .i64 m2, .int .i64 m3, .int .i64 m4, .int .i64 m5, .int .i64 m6, .int .i64 m7, .int .i64 m8], .agg #[.int .i64 u0, .int .i64 u1, .int .i64 u2, .int .i64 u3, .int .i64 u4, .int .i64 u5, .int .i64 u6, .int .i64 u7, .int .i64 u8]] w fun en w' => en = .returned (.bool (eqMd m0 m1 m2 m3 m4 m5 m6 m7 m8 u0 u1 u2 u3 u4 u5 u6 u7 u8)) ∧ Ext w w' := by
  refine enter (vs := [_, _]) Try.func80 rfl rfl rfl rfl ?_
  refine WC.seq ?_
  refine WC.region ?_
  refine WL.heavy rfl rfl rfl (OpH.box rfl rfl ?_)
  intro b0
  refine WL.heavy rfl rfl rfl (OpH.box rfl rfl ?_)
  intro b1
  refine Lt.ofWL.step rfl rfl rfl (OpV.assign rfl) ?_
  refine WL.nil ?_
  refine En.next ?_
  refine WC.seq ?_
  refine WC.seq ?_
  refine WC.region ?_
  refine Lt.ofWL.step rfl rfl rfl (OpV.fieldAddr rfl fo_40_0) ?_
  refine Lt.ofWL.step rfl rfl rfl (OpV.loadBox rfl pt_3 (.tail _ (.head _)) rfl) ?_
  refine Lt.ofWL.step rfl rfl rfl (OpV.fieldAddr rfl fo_40_0) ?_
  refine Lt.ofWL.step rfl rfl rfl (OpV.loadBox rfl pt_3 (.head _) rfl) ?_
  refine Lt.ofWL.step rfl rfl rfl (OpV.neq rfl rfl) ?_
  refine WL.nil ?_
  refine En.next ?_
  refine WC.cond rfl ?_ ?_
  ·
    intro hc1
    refine WC.seq ?_
    refine WC.region ?_
    refine Lt.ofWL.step rfl rfl rfl (OpV.assign rfl) ?_
    refine WL.nil ?_
    refine En.next ?_
    refine WC.ret ?_
    refine En.then_ret ?_
    refine En.ret1 rfl (Res.tmp rfl) ?_
    intro w' hs
    refine ⟨congrArg _ (congrArg _ ?_), hs.below⟩
    simp at hc1
    simp [eqMd, *]
  ·
    intro hc1
    refine WC.skip ?_
    refine En.next ?_
    refine WC.seq ?_
    refine WC.seq ?_
    refine WC.region ?_
    refine Lt.ofWL.step rfl rfl rfl (OpV.fieldAddr rfl fo_40_1) ?_
    refine Lt.ofWL.step rfl rfl rfl (OpV.loadBox rfl pt_3 (.tail _ (.head _)) rfl) ?_
    refine Lt.ofWL.step rfl rfl rfl (OpV.fieldAddr rfl fo_40_1) ?_
    refine Lt.ofWL.step rfl rfl rfl (OpV.loadBox rfl pt_3 (.head _) rfl) ?_
    refine Lt.ofWL.step rfl rfl rfl (OpV.neq rfl rfl) ?_
    refine WL.nil ?_
    refine En.next ?_
    refine WC.cond rfl ?_ ?_
    ·
      intro hc2
      refine WC.seq ?_
      refine WC.region ?_
      refine Lt.ofWL.step rfl rfl rfl (OpV.assign rfl) ?_
      refine WL.nil ?_
      refine En.next ?_
      refine WC.ret ?_
      refine En.then_ret ?_
      refine En.ret1 rfl (Res.tmp rfl) ?_
      intro w' hs
      refine ⟨congrArg _ (congrArg _ ?_), hs.below⟩
      simp at hc1 hc2
      simp [eqMd, *]
    ·
      intro hc2
      refine WC.skip ?_
      refine En.next ?_
      refine WC.seq ?_
      refine WC.seq ?_
      refine WC.region ?_
      refine Lt.ofWL.step rfl rfl rfl (OpV.fieldAddr rfl fo_40_2) ?_
      refine Lt.ofWL.step rfl rfl rfl (OpV.loadBox rfl pt_3 (.tail _ (.head _)) rfl) ?_
      refine Lt.ofWL.step rfl rfl rfl (OpV.fieldAddr rfl fo_40_2) ?_
      refine Lt.ofWL.step rfl rfl rfl (OpV.loadBox rfl pt_3 (.head _) rfl) ?_
      refine Lt.ofWL.step rfl rfl rfl (OpV.neq rfl rfl) ?_
      refine WL.nil ?_
      refine En.next ?_
      refine WC.cond rfl ?_ ?_
      ·
        intro hc3
        refine WC.seq ?_
        refine WC.region ?_
        refine Lt.ofWL.step rfl rfl rfl (OpV.assign rfl) ?_
        refine WL.nil ?_
        refine En.next ?_
        refine WC.ret ?_
        refine En.then_ret ?_
        refine En.ret1 rfl (Res.tmp rfl) ?_
        intro w' hs
        refine ⟨congrArg _ (congrArg _ ?_), hs.below⟩
        simp at hc1 hc2 hc3
        simp [eqMd, *]
      ·
        intro hc3
        refine WC.skip ?_
        refine En.next ?_
        refine WC.seq ?_
        refine WC.seq ?_
        refine WC.region ?_
        refine Lt.ofWL.step rfl rfl rfl (OpV.fieldAddr rfl fo_40_3) ?_
        refine Lt.ofWL.step rfl rfl rfl (OpV.loadBox rfl pt_3 (.tail _ (.head _)) rfl) ?_
        refine Lt.ofWL.step rfl rfl rfl (OpV.fieldAddr rfl fo_40_3) ?_
        refine Lt.ofWL.step rfl rfl rfl (OpV.loadBox rfl pt_3 (.head _) rfl) ?_
        refine Lt.ofWL.step rfl rfl rfl (OpV.neq rfl rfl) ?_
        refine WL.nil ?_
        refine En.next ?_
        refine WC.cond rfl ?_ ?_
        ·
          intro hc4
          refine WC.seq ?_
          refine WC.region ?_
          refine Lt.ofWL.step rfl rfl rfl (OpV.assign rfl) ?_
          refine WL.nil ?_
          refine En.next ?_
          refine WC.ret ?_
          refine En.then_ret ?_
          refine En.ret1 rfl (Res.tmp rfl) ?_
          intro w' hs
          refine ⟨congrArg _ (congrArg _ ?_), hs.below⟩
          simp at hc1 hc2 hc3 hc4
          simp [eqMd, *]
        ·
          intro hc4
          refine WC.skip ?_
          refine En.next ?_
          refine WC.seq ?_
          refine WC.seq ?_
          refine WC.region ?_
          refine Lt.ofWL.step rfl rfl rfl (OpV.fieldAddr rfl fo_40_4) ?_
          refine Lt.ofWL.step rfl rfl rfl (OpV.loadBox rfl pt_3 (.tail _ (.head _)) rfl) ?_
          refine Lt.ofWL.step rfl rfl rfl (OpV.fieldAddr rfl fo_40_4) ?_
          refine Lt.ofWL.step rfl rfl rfl (OpV.loadBox rfl pt_3 (.head _) rfl) ?_
          refine Lt.ofWL.step rfl rfl rfl (OpV.neq rfl rfl) ?_
          refine WL.nil ?_
          refine En.next ?_
          refine WC.cond rfl ?_ ?_
          ·
            intro hc5
            refine WC.seq ?_
            refine WC.region ?_
            refine Lt.ofWL.step rfl rfl rfl (OpV.assign rfl) ?_
            refine WL.nil ?_
            refine En.next ?_
            refine WC.ret ?_
            refine En.then_ret ?_
            refine En.ret1 rfl (Res.tmp rfl) ?_
            intro w' hs
            refine ⟨congrArg _ (congrArg _ ?_), hs.below⟩
            simp at hc1 hc2 hc3 hc4 hc5
            simp [eqMd, *]
          ·
            intro hc5
            refine WC.skip ?_
            refine En.next ?_
            refine WC.seq ?_
            refine WC.seq ?_
            refine WC.region ?_
            refine Lt.ofWL.step rfl rfl rfl (OpV.fieldAddr rfl fo_40_5) ?_
            refine Lt.ofWL.step rfl rfl rfl (OpV.loadBox rfl pt_3 (.tail _ (.head _)) rfl) ?_
            refine Lt.ofWL.step rfl rfl rfl (OpV.fieldAddr rfl fo_40_5) ?_
            refine Lt.ofWL.step rfl rfl rfl (OpV.loadBox rfl pt_3 (.head _) rfl) ?_
            refine Lt.ofWL.step rfl rfl rfl (OpV.neq rfl rfl) ?_
            refine WL.nil ?_
            refine En.next ?_
            refine WC.cond rfl ?_ ?_
            ·
              intro hc6
              refine WC.seq ?_
              refine WC.region ?_
              refine Lt.ofWL.step rfl rfl rfl (OpV.assign rfl) ?_
              refine WL.nil ?_
              refine En.next ?_
              refine WC.ret ?_
              refine En.then_ret ?_
              refine En.ret1 rfl (Res.tmp rfl) ?_
              intro w' hs
              refine ⟨congrArg _ (congrArg _ ?_), hs.below⟩
              simp at hc1 hc2 hc3 hc4 hc5 hc6
              simp [eqMd, *]
            ·
              intro hc6
              refine WC.skip ?_
              refine En.next ?_
              refine WC.seq ?_
              refine WC.seq ?_
              refine WC.region ?_
              refine Lt.ofWL.step rfl rfl rfl (OpV.fieldAddr rfl fo_40_6) ?_
              refine Lt.ofWL.step rfl rfl rfl (OpV.loadBox rfl pt_3 (.tail _ (.head _)) rfl) ?_
              refine Lt.ofWL.step rfl rfl rfl (OpV.fieldAddr rfl fo_40_6) ?_
              refine Lt.ofWL.step rfl rfl rfl (OpV.loadBox rfl pt_3 (.head _) rfl) ?_
              refine Lt.ofWL.step rfl rfl rfl (OpV.neq rfl rfl) ?_
              refine WL.nil ?_
              refine En.next ?_
              refine WC.cond rfl ?_ ?_
              ·
                intro hc7
                refine WC.seq ?_
                refine WC.region ?_
                refine Lt.ofWL.step rfl rfl rfl (OpV.assign rfl) ?_
                refine WL.nil ?_
                refine En.next ?_
                refine WC.ret ?_
                refine En.then_ret ?_
                refine En.ret1 rfl (Res.tmp rfl) ?_
                intro w' hs
                refine ⟨congrArg _ (congrArg _ ?_), hs.below⟩
                simp at hc1 hc2 hc3 hc4 hc5 hc6 hc7
                simp [eqMd, *]
              ·
                intro hc7
                refine WC.skip ?_
                refine En.next ?_
                refine WC.seq ?_
                refine WC.seq ?_
                refine WC.region ?_
                refine Lt.ofWL.step rfl rfl rfl (OpV.fieldAddr rfl fo_40_7) ?_
                refine Lt.ofWL.step rfl rfl rfl (OpV.loadBox rfl pt_3 (.tail _ (.head _)) rfl) ?_
                refine Lt.ofWL.step rfl rfl rfl (OpV.fieldAddr rfl fo_40_7) ?_
                refine Lt.ofWL.step rfl rfl rfl (OpV.loadBox rfl pt_3 (.head _) rfl) ?_
                refine Lt.ofWL.step rfl rfl rfl (OpV.neq rfl rfl) ?_
                refine WL.nil ?_
                refine En.next ?_
                refine WC.cond rfl ?_ ?_
                ·
                  intro hc8
                  refine WC.seq ?_
                  refine WC.region ?_
                  refine Lt.ofWL.step rfl rfl rfl (OpV.assign rfl) ?_
                  refine WL.nil ?_
                  refine En.next ?_
                  refine WC.ret ?_
                  refine En.then_ret ?_
                  refine En.ret1 rfl (Res.tmp rfl) ?_
                  intro w' hs
                  refine ⟨congrArg _ (congrArg _ ?_), hs.below⟩
                  simp at hc1 hc2 hc3 hc4 hc5 hc6 hc7 hc8
                  simp [eqMd, *]
                ·
                  intro hc8
                  refine WC.skip ?_
                  refine En.next ?_
                  refine WC.seq ?_
                  refine WC.seq ?_
                  refine WC.region ?_
                  refine Lt.ofWL.step rfl rfl rfl (OpV.fieldAddr rfl fo_40_8) ?_
                  refine Lt.ofWL.step rfl rfl rfl (OpV.loadBox rfl pt_3 (.tail _ (.head _)) rfl) ?_
                  refine Lt.ofWL.step rfl rfl rfl (OpV.fieldAddr rfl fo_40_8) ?_
                  refine Lt.ofWL.step rfl rfl rfl (OpV.loadBox rfl pt_3 (.head _) rfl) ?_
                  refine Lt.ofWL.step rfl rfl rfl (OpV.neq rfl rfl) ?_
                  refine WL.nil ?_
                  refine En.next ?_
                  refine WC.cond rfl ?_ ?_
                  ·
                    intro hc9
                    refine WC.seq ?_
                    refine WC.region ?_
                    refine Lt.ofWL.step rfl rfl rfl (OpV.assign rfl) ?_
                    refine WL.nil ?_
                    refine En.next ?_
                    refine WC.ret ?_
                    refine En.then_ret ?_
                    refine En.ret1 rfl (Res.tmp rfl) ?_
                    intro w' hs
                    refine ⟨congrArg _ (congrArg _ ?_), hs.below⟩
                    simp at hc1 hc2 hc3 hc4 hc5 hc6 hc7 hc8 hc9
                    simp [eqMd, *]
                  ·
                    intro hc9
                    refine WC.skip ?_
                    refine En.next ?_
                    refine WC.seq ?_
                    refine WC.region ?_
                    refine Lt.ofWL.step rfl rfl rfl (OpV.assign rfl) ?_
                    refine WL.nil ?_
                    refine En.next ?_
                    refine WC.ret ?_
                    refine En.ret1 rfl (Res.tmp rfl) ?_
                    intro w' hs
                    refine ⟨congrArg _ (congrArg _ ?_), hs.below⟩
                    simp at hc1 hc2 hc3 hc4 hc5 hc6 hc7 hc8 hc9
                    simp [eqMd, *]

theorem l_eqPace (m0 m1 m2 m3 m4 m5 m6 m7 m8 e l : Int) (a : Option Addr) (n c : Nat) (xs : List Int) (u0 u1 u2 u3 u4 u5 u6 u7 u8 e2 l2 : Int) (a2 : Option Addr) (n2 c2 : Nat) (ys : List Int) (w : World) (hr : RdI w a n xs) (hq : RdI w a2 n2 ys):
    Calls Try.prog 43 #[.agg #[.int .i64 m0, .int .i64 m1, .int .i64 m2, .int .i64 m3, .int .i64 m4, .int .i64 m5, .int .i64 m6, .int .i64 m7, .int .i64 m8, .int .i64 e, .int .i64 l, .slice a n c], .agg #[.int .i64 u0, .int .i64 u1, .int .i64 u2, .int .i64 u3, .int .i64 u4, .int .i64 u5, .int .i64 u6, .int .i64 u7, .int .i64 u8, .int .i64 e2, .int .i64 l2, .slice a2 n2 c2]] w fun en w' => en = .returned (.bool (eqPc m0 m1 m2 m3 m4 m5 m6 m7 m8 e l xs u0 u1 u2 u3 u4 u5 u6 u7 u8 e2 l2 ys)) ∧ Ext w w' := by
  refine enter (vs := [_, _]) Try.func43 rfl rfl rfl rfl ?_
  refine WC.seq ?_
  refine WC.region ?_
  refine WL.heavy rfl rfl rfl (OpH.box rfl rfl ?_)
  intro b0
  refine WL.heavy rfl rfl rfl (OpH.box rfl rfl ?_)
  intro b1
  refine Lt.ofWL.step rfl rfl rfl (OpV.assign rfl) ?_
  refine WL.nil ?_
  refine En.next ?_
  refine WC.seq ?_
  refine WC.seq ?_
  refine WC.region ?_
  refine Lt.ofWL.step rfl rfl rfl (OpV.fieldAddr rfl fo_54_0) ?_
  refine Lt.ofWL.step rfl rfl rfl (OpV.loadPart rfl (.tail _ (.head _)) ag_40 rfl rfl) ?_
  refine Lt.ofWL.step rfl rfl rfl (OpV.fieldAddr rfl fo_54_0) ?_
  refine Lt.ofWL.step rfl rfl rfl (OpV.loadPart rfl (.head _) ag_40 rfl rfl) ?_
  refine Lt.ofWL.step rfl rfl rfl (OpV.call (evs.cons rfl (evs.cons rfl (evs.nil))) ca_80 (fun w hs => l_eqMode _ _ _ _ _ _ _ _ _ _ _ _ _ _ _ _ _ _ w)) ?_
  refine Lt.ofWL.step rfl rfl rfl (OpV.not rfl) ?_
  refine WL.nil ?_
  refine En.next ?_
  refine WC.cond rfl ?_ ?_
  ·
    intro hc1
    refine WC.seq ?_
    refine WC.region ?_
    refine Lt.ofWL.step rfl rfl rfl (OpV.assign rfl) ?_
    refine WL.nil ?_
    refine En.next ?_
    refine WC.ret ?_
    refine En.then_ret ?_
    refine En.ret1 rfl (Res.tmp rfl) ?_
    intro w' hs
    refine ⟨congrArg _ (congrArg _ ?_), hs.below⟩
    simp at hc1
    simp [eqPc, *]
  ·
    intro hc1
    refine WC.skip ?_
    refine En.next ?_
    refine WC.seq ?_
    refine WC.seq ?_
    refine WC.region ?_
    refine Lt.ofWL.step rfl rfl rfl (OpV.fieldAddr rfl fo_54_1) ?_
    refine Lt.ofWL.step rfl rfl rfl (OpV.loadBox rfl pt_3 (.tail _ (.head _)) rfl) ?_
    refine Lt.ofWL.step rfl rfl rfl (OpV.fieldAddr rfl fo_54_1) ?_
    refine Lt.ofWL.step rfl rfl rfl (OpV.loadBox rfl pt_3 (.head _) rfl) ?_
    refine Lt.ofWL.step rfl rfl rfl (OpV.neq rfl rfl) ?_
    refine WL.nil ?_
    refine En.next ?_
    refine WC.cond rfl ?_ ?_
    ·
      intro hc2
      refine WC.seq ?_
      refine WC.region ?_
      refine Lt.ofWL.step rfl rfl rfl (OpV.assign rfl) ?_
      refine WL.nil ?_
      refine En.next ?_
      refine WC.ret ?_
      refine En.then_ret ?_
      refine En.ret1 rfl (Res.tmp rfl) ?_
      intro w' hs
      refine ⟨congrArg _ (congrArg _ ?_), hs.below⟩
      simp at hc1 hc2
      simp [eqPc, *]
    ·
      intro hc2
      refine WC.skip ?_
      refine En.next ?_
      refine WC.seq ?_
      refine WC.seq ?_
      refine WC.region ?_
      refine Lt.ofWL.step rfl rfl rfl (OpV.fieldAddr rfl fo_54_2) ?_
      refine Lt.ofWL.step rfl rfl rfl (OpV.loadBox rfl pt_3 (.tail _ (.head _)) rfl) ?_
      refine Lt.ofWL.step rfl rfl rfl (OpV.fieldAddr rfl fo_54_2) ?_
      refine Lt.ofWL.step rfl rfl rfl (OpV.loadBox rfl pt_3 (.head _) rfl) ?_
      refine Lt.ofWL.step rfl rfl rfl (OpV.neq rfl rfl) ?_
      refine WL.nil ?_
      refine En.next ?_
      refine WC.cond rfl ?_ ?_
      ·
        intro hc3
        refine WC.seq ?_
        refine WC.region ?_
        refine Lt.ofWL.step rfl rfl rfl (OpV.assign rfl) ?_
        refine WL.nil ?_
        refine En.next ?_
        refine WC.ret ?_
        refine En.then_ret ?_
        refine En.ret1 rfl (Res.tmp rfl) ?_
        intro w' hs
        refine ⟨congrArg _ (congrArg _ ?_), hs.below⟩
        simp at hc1 hc2 hc3
        simp [eqPc, *]
      ·
        intro hc3
        refine WC.skip ?_
        refine En.next ?_
        refine WC.seq ?_
        refine WC.seq ?_
        refine WC.region ?_
        refine Lt.ofWL.step rfl rfl rfl (OpV.fieldAddr rfl fo_54_3) ?_
        refine Lt.ofWL.step rfl rfl rfl (OpV.loadBox rfl pt_44 (.tail _ (.head _)) rfl) ?_
        refine Lt.ofWL.step rfl rfl rfl (OpV.fieldAddr rfl fo_54_3) ?_
        refine Lt.ofWL.step rfl rfl rfl (OpV.loadBox rfl pt_44 (.head _) rfl) ?_
        refine Lt.ofWL.step rfl rfl rfl (OpV.call (evs.cons rfl (evs.cons rfl (evs.nil))) ca_70 (fun w hs => l_eqIntS _ _ _ _ _ _ _ _ w (hr.ext hs.below) (hq.ext hs.below))) ?_
        refine Lt.ofWL.step rfl rfl rfl (OpV.not rfl) ?_
        refine WL.nil ?_
        refine En.next ?_
        refine WC.cond rfl ?_ ?_
        ·
          intro hc4
          refine WC.seq ?_
          refine WC.region ?_
          refine Lt.ofWL.step rfl rfl rfl (OpV.assign rfl) ?_
          refine WL.nil ?_
          refine En.next ?_
          refine WC.ret ?_
          refine En.then_ret ?_
          refine En.ret1 rfl (Res.tmp rfl) ?_
          intro w' hs
          refine ⟨congrArg _ (congrArg _ ?_), hs.below⟩
          simp at hc1 hc2 hc3 hc4
          simp [eqPc, *]
        ·
          intro hc4
          refine WC.skip ?_
          refine En.next ?_
          refine WC.seq ?_
          refine WC.region ?_
          refine Lt.ofWL.step rfl rfl rfl (OpV.assign rfl) ?_
          refine WL.nil ?_
          refine En.next ?_
          refine WC.ret ?_
          refine En.ret1 rfl (Res.tmp rfl) ?_
          intro w' hs
          refine ⟨congrArg _ (congrArg _ ?_), hs.below⟩
          simp at hc1 hc2 hc3 hc4
          simp [eqPc, *]

theorem w_PaceOk (m0 m1 m2 m3 m4 m5 m6 m7 m8 e l : Int) (a : Option Addr) (n c : Nat) (xs : List Int) (w : World) (hr : RdI w a n xs):
    Calls Try.prog 9 #[.agg #[.int .i64 m0, .int .i64 m1, .int .i64 m2, .int .i64 m3, .int .i64 m4, .int .i64 m5, .int .i64 m6, .int .i64 m7, .int .i64 m8, .int .i64 e, .int .i64 l, .slice a n c]] w fun en w' => en = .returned (.bool true) ∧ Ext w w' := by
  have hbd := hr.bd
  refine enter (vs := [_]) Try.func9 rfl rfl rfl rfl ?_
  refine WC.seq ?_
  refine WC.region ?_
  refine WL.heavy rfl rfl rfl (OpH.box rfl rfl ?_)
  intro b0
  refine Lt.ofWL.step rfl rfl rfl (OpV.assign rfl) ?_
  refine WL.nil ?_
  refine En.next ?_
  refine WC.seq ?_
  refine WC.region ?_
  refine Lt.ofWL.step rfl rfl rfl (OpV.assign rfl) ?_
  refine WL.nil ?_
  refine En.next ?_
  refine WC.seq ?_
  refine WC.region ?_
  refine Lt.ofWL.step rfl rfl rfl (OpV.loadAll rfl (.head _) ag_64) ?_
  refine Lt.ofWL.step rfl rfl rfl (OpV.move rfl) ?_
  refine Lt.ofWL.step rfl rfl rfl (OpV.call (evs.cons rfl (evs.cons rfl (evs.nil))) ca_40 (fun w hs => l_szPace _ _ _ _ _ _ _ _ _ _ _ _ _ _ _ w ⟨by omega, by omega⟩ (by omega))) ?_
  refine Lt.ofWL.step rfl rfl rfl (OpV.assign rfl) ?_
  refine WL.nil ?_
  refine En.next ?_
  refine WC.seq ?_
  refine WC.seq ?_
  refine WC.region ?_
  refine Lt.ofWL.step rfl rfl rfl (OpV.move rfl) ?_
  refine Lt.ofWL.step rfl rfl rfl (OpV.lss rfl rfl) ?_
  refine WL.nil ?_
  refine En.next ?_
  refine WC.cond rfl ?_ ?_
  ·
    intro hc1
    refine WC.seq ?_
    refine WC.region ?_
    refine Lt.ofWL.step rfl rfl rfl (OpV.assign rfl) ?_
    refine WL.nil ?_
    refine En.next ?_
    refine WC.ret ?_
    refine En.then_ret ?_
    refine En.ret1 rfl (Res.tmp rfl) ?_
    intro w' hs
    first
      | exact ⟨rfl, hs.below⟩
      | (exfalso; simp at hc1; done)
      | (exfalso; simp [eqPc_self] at hc1)
  ·
    intro hc1
    have hn := szs_le (of_decide_eq_false hc1)
    refine WC.skip ?_
    refine En.next ?_
    refine WC.seq ?_
    refine WC.region ?_
    refine Lt.ofWL.step rfl rfl rfl (OpV.loadAll rfl (.head _) ag_64) ?_
    refine WL.heavy rfl rfl rfl (OpH.callR (evs.cons rfl (evs.nil)) ca_42 (fun w hs => l_toPace _ _ _ _ _ _ _ _ _ _ _ _ _ _ _ w (hr.ext hs.below) (by omega)) ?_)
    rintro _ _ ⟨a12, c12, rfl, rfl⟩
    refine Lt.ofWL.step rfl rfl rfl (OpV.call (evs.cons rfl (evs.nil)) ca_41 (fun w hs => s_PaceOk _ _ _ _ _ _ _ _ _ _ _ _ _ _ _ w (RdI.row (hs.mem (.head _)) hr.rng))) ?_
    refine Lt.ofWL.step rfl rfl rfl (OpV.assign rfl) ?_
    refine WL.nil ?_
    refine En.next ?_
    refine WC.seq ?_
    refine WC.region ?_
    refine Lt.ofWL.step rfl rfl rfl (OpV.loadAll rfl (.tail _ (.head _)) ag_64) ?_
    refine WL.heavy rfl rfl rfl (OpH.callR (evs.cons rfl (evs.nil)) ca_42 (fun w hs => l_toPace _ _ _ _ _ _ _ _ _ _ _ _ _ _ _ w (hr.ext hs.below) (by omega)) ?_)
    rintro _ _ ⟨a13, c13, rfl, rfl⟩
    refine WL.heavy rfl rfl rfl (OpH.alloc zc_54 ?_)
    intro b3
    refine WL.heavy0 rfl rfl (OpH.store (A := []) rfl rfl rfl ts_54 rfl rfl ?_)
    refine WL.nil ?_
    refine En.next ?_
    refine WC.seq ?_
    refine WC.region ?_
    refine Lt.ofWL.step rfl rfl rfl (OpV.loadAll rfl (.head _) ag_54) ?_
    refine Lt.ofWL.step rfl rfl rfl (OpV.call (evs.cons rfl (evs.nil)) ca_39 (fun w hs => i_PaceOk _ _ _ _ _ _ _ _ _ _ _ _ _ _ _ w (RdI.row (hs.mem (.tail _ (.head _))) hr.rng))) ?_
    refine Lt.ofWL.step rfl rfl rfl (OpV.assign rfl) ?_
    refine WL.nil ?_
    refine En.next ?_
    refine WC.seq ?_
    refine WC.seq ?_
    refine WC.region ?_
    refine Lt.ofWL.step rfl rfl rfl (OpV.move rfl) ?_
    refine Lt.ofWL.step rfl rfl rfl (OpV.move rfl) ?_
    refine Lt.ofWL.step rfl rfl rfl (OpV.bneq rfl rfl ub_4) ?_
    refine WL.nil ?_
    refine En.next ?_
    refine WC.cond rfl ?_ ?_
    ·
      intro hc4
      refine WC.seq ?_
      refine WC.region ?_
      refine Lt.ofWL.step rfl rfl rfl (OpV.assign rfl) ?_
      refine WL.nil ?_
      refine En.next ?_
      refine WC.ret ?_
      refine En.then_ret ?_
      refine En.ret1 rfl (Res.tmp rfl) ?_
      intro w' hs
      first
        | exact ⟨rfl, hs.below⟩
        | (exfalso; simp at hc4; done)
        | (exfalso; simp [eqPc_self] at hc4)
    ·
      intro hc4
      refine WC.skip ?_
      refine En.next ?_
      refine WC.seq ?_
      refine WC.seq ?_
      refine WC.drawnH [] ([_, _, _, _]) (fun _ h => h) (by kernel_rfl) ?_
      refine WAE.take (i := 0) rfl (by kernel_rfl) (by kernel_rfl) (by kernel_rfl) rfl rfl rfl (OpV.loadAll rfl (.head _) ag_54) ?_
      refine WAE.take (i := 1) rfl (by kernel_rfl) (by kernel_rfl) (by kernel_rfl) rfl rfl rfl (OpV.loadAll rfl (.tail _ (.tail _ (.tail _ (.head _)))) ag_64) ?_
      refine WAE.all (rs := [2]) (by kernel_rfl) rfl (AllR.cons rfl rfl rfl rfl ?_ AllR.nil)
      refine OpH.callR (evs.cons rfl (evs.nil)) ca_42 (fun w hs => l_toPace _ _ _ _ _ _ _ _ _ _ _ _ _ _ _ w (hr.ext hs.below) (by omega)) ?_
      rintro _ _ ⟨a15, c15, rfl, rfl⟩
      refine ⟨[_], rfl, ?_⟩
      refine WAE.rebase (H := []) ?_
      refine WAE.take (i := 3) rfl (by kernel_rfl) (by kernel_rfl) (by kernel_rfl) rfl rfl rfl (OpV.call (evs.cons rfl (evs.cons rfl (evs.nil))) ca_43 (fun w hs => l_eqPace _ _ _ _ _ _ _ _ _ _ _ _ _ _ _ _ _ _ _ _ _ _ _ _ _ _ _ _ _ _ w (RdI.row (hs.mem (.tail _ (.tail _ (.head _)))) hr.rng) (RdI.row (hs.mem (.head _)) hr.rng))) ?_
      refine WAE.take (i := 4) rfl (by kernel_rfl) (by kernel_rfl) (by kernel_rfl) rfl rfl rfl (OpV.not rfl) ?_
      refine WAE.done (by kernel_rfl) ?_ _
      refine En.next ?_
      refine WC.cond rfl ?_ ?_
      ·
        intro hc6
        refine WC.seq ?_
        refine WC.region ?_
        refine Lt.ofWL.step rfl rfl rfl (OpV.assign rfl) ?_
        refine WL.nil ?_
        refine En.next ?_
        refine WC.ret ?_
        refine En.then_ret ?_
        refine En.ret1 rfl (Res.tmp rfl) ?_
        intro w' hs
        first
          | exact ⟨rfl, hs.below⟩
          | (exfalso; simp at hc6; done)
          | (exfalso; simp [eqPc_self] at hc6)
      ·
        intro hc6
        refine WC.skip ?_
        refine En.next ?_
        refine WC.seq ?_
        refine WC.region ?_
        refine Lt.ofWL.step rfl rfl rfl (OpV.assign rfl) ?_
        refine WL.nil ?_
        refine En.next ?_
        refine WC.ret ?_
        refine En.ret1 rfl (Res.tmp rfl) ?_
        intro w' hs
        first
          | exact ⟨rfl, hs.below⟩
          | (exfalso; simp at hc6; done)
          | (exfalso; simp [eqPc_self] at hc6)

theorem w_LongFrame (m0 m1 m2 m3 m4 m5 m6 m7 m8 e l : Int) (a : Option Addr) (n c : Nat) (xs : List Int) (w : World) (hr : RdI w a n xs):
    Calls Try.prog 10 #[.agg #[.int .i64 m0, .int .i64 m1, .int .i64 m2, .int .i64 m3, .int .i64 m4, .int .i64 m5, .int .i64 m6, .int .i64 m7, .int .i64 m8, .int .i64 e, .int .i64 l, .slice a n c]] w fun en w' => en = .returned (.bool true) ∧ Ext w w' := by
  have hbd := hr.bd
  refine enter (vs := [_]) Try.func10 rfl rfl rfl rfl ?_
  refine WC.seq ?_
  refine WC.region ?_
  refine WL.heavy rfl rfl rfl (OpH.box rfl rfl ?_)
  intro b0
  refine Lt.ofWL.step rfl rfl rfl (OpV.assign rfl) ?_
  refine WL.nil ?_
  refine En.next ?_
  refine WC.seq ?_
  refine WC.region ?_
  refine Lt.ofWL.step rfl rfl rfl (OpV.assign rfl) ?_
  refine WL.nil ?_
  refine En.next ?_
  refine WC.seq ?_
  refine WC.region ?_
  refine Lt.ofWL.step rfl rfl rfl (OpV.loadAll rfl (.head _) ag_64) ?_
  refine Lt.ofWL.step rfl rfl rfl (OpV.move rfl) ?_
  refine Lt.ofWL.step rfl rfl rfl (OpV.call (evs.cons rfl (evs.cons rfl (evs.nil))) ca_40 (fun w hs => l_szPace _ _ _ _ _ _ _ _ _ _ _ _ _ _ _ w ⟨by omega, by omega⟩ (by omega))) ?_
  refine Lt.ofWL.step rfl rfl rfl (OpV.assign rfl) ?_
  refine WL.nil ?_
  refine En.next ?_
  refine WC.seq ?_
  refine WC.seq ?_
  refine WC.region ?_
  refine Lt.ofWL.step rfl rfl rfl (OpV.move rfl) ?_
  refine Lt.ofWL.step rfl rfl rfl (OpV.lss rfl rfl) ?_
  refine WL.nil ?_
  refine En.next ?_
  refine WC.cond rfl ?_ ?_
  ·
    intro hc1
    refine WC.seq ?_
    refine WC.region ?_
    refine Lt.ofWL.step rfl rfl rfl (OpV.assign rfl) ?_
    refine WL.nil ?_
    refine En.next ?_
    refine WC.ret ?_
    refine En.then_ret ?_
    refine En.ret1 rfl (Res.tmp rfl) ?_
    intro w' hs
    first
      | exact ⟨rfl, hs.below⟩
      | (exfalso; simp at hc1; done)
      | (exfalso; simp [eqPc_self] at hc1)
  ·
    intro hc1
    have hn := szs_le (of_decide_eq_false hc1)
    refine WC.skip ?_
    refine En.next ?_
    refine WC.seq ?_
    refine WC.region ?_
    refine Lt.ofWL.step rfl rfl rfl (OpV.loadAll rfl (.head _) ag_64) ?_
    refine WL.heavy rfl rfl rfl (OpH.callR (evs.cons rfl (evs.nil)) ca_42 (fun w hs => l_toPace _ _ _ _ _ _ _ _ _ _ _ _ _ _ _ w (hr.ext hs.below) (by omega)) ?_)
    rintro _ _ ⟨a12, c12, rfl, rfl⟩
    refine Lt.ofWL.step rfl rfl rfl (OpV.call (evs.cons rfl (evs.nil)) ca_44 (fun w hs => s_LongFrame _ _ _ _ _ _ _ _ _ _ _ _ _ _ _ w (RdI.row (hs.mem (.head _)) hr.rng))) ?_
    refine Lt.ofWL.step rfl rfl rfl (OpV.assign rfl) ?_
    refine WL.nil ?_
    refine En.next ?_
    refine WC.seq ?_
    refine WC.region ?_
    refine Lt.ofWL.step rfl rfl rfl (OpV.loadAll rfl (.tail _ (.head _)) ag_64) ?_
    refine WL.heavy rfl rfl rfl (OpH.callR (evs.cons rfl (evs.nil)) ca_42 (fun w hs => l_toPace _ _ _ _ _ _ _ _ _ _ _ _ _ _ _ w (hr.ext hs.below) (by omega)) ?_)
    rintro _ _ ⟨a13, c13, rfl, rfl⟩
    refine WL.heavy rfl rfl rfl (OpH.alloc zc_54 ?_)
    intro b3
    refine WL.heavy0 rfl rfl (OpH.store (A := []) rfl rfl rfl ts_54 rfl rfl ?_)
    refine WL.nil ?_
    refine En.next ?_
    refine WC.seq ?_
    refine WC.region ?_
    refine Lt.ofWL.step rfl rfl rfl (OpV.loadAll rfl (.head _) ag_54) ?_
    refine Lt.ofWL.step rfl rfl rfl (OpV.call (evs.cons rfl (evs.nil)) ca_34 (fun w hs => i_LongFrame _ _ _ _ _ _ _ _ _ _ _ _ _ _ _ w (RdI.row (hs.mem (.tail _ (.head _))) hr.rng))) ?_
    refine Lt.ofWL.step rfl rfl rfl (OpV.assign rfl) ?_
    refine WL.nil ?_
    refine En.next ?_
    refine WC.seq ?_
    refine WC.seq ?_
    refine WC.region ?_
    refine Lt.ofWL.step rfl rfl rfl (OpV.move rfl) ?_
    refine Lt.ofWL.step rfl rfl rfl (OpV.move rfl) ?_
    refine Lt.ofWL.step rfl rfl rfl (OpV.neq rfl rfl) ?_
    refine WL.nil ?_
    refine En.next ?_
    refine WC.cond rfl ?_ ?_
    ·
      intro hc4
      refine WC.seq ?_
      refine WC.region ?_
      refine Lt.ofWL.step rfl rfl rfl (OpV.assign rfl) ?_
      refine WL.nil ?_
      refine En.next ?_
      refine WC.ret ?_
      refine En.then_ret ?_
      refine En.ret1 rfl (Res.tmp rfl) ?_
      intro w' hs
      first
        | exact ⟨rfl, hs.below⟩
        | (exfalso; simp at hc4; done)
        | (exfalso; simp [eqPc_self] at hc4)
    ·
      intro hc4
      refine WC.skip ?_
      refine En.next ?_
      refine WC.seq ?_
      refine WC.seq ?_
      refine WC.drawnH [] ([_, _, _, _]) (fun _ h => h) (by kernel_rfl) ?_
      refine WAE.take (i := 0) rfl (by kernel_rfl) (by kernel_rfl) (by kernel_rfl) rfl rfl rfl (OpV.loadAll rfl (.head _) ag_54) ?_
      refine WAE.take (i := 1) rfl (by kernel_rfl) (by kernel_rfl) (by kernel_rfl) rfl rfl rfl (OpV.loadAll rfl (.tail _ (.tail _ (.tail _ (.head _)))) ag_64) ?_
      refine WAE.all (rs := [2]) (by kernel_rfl) rfl (AllR.cons rfl rfl rfl rfl ?_ AllR.nil)
      refine OpH.callR (evs.cons rfl (evs.nil)) ca_42 (fun w hs => l_toPace _ _ _ _ _ _ _ _ _ _ _ _ _ _ _ w (hr.ext hs.below) (by omega)) ?_
      rintro _ _ ⟨a15, c15, rfl, rfl⟩
      refine ⟨[_], rfl, ?_⟩
      refine WAE.rebase (H := []) ?_
      refine WAE.take (i := 3) rfl (by kernel_rfl) (by kernel_rfl) (by kernel_rfl) rfl rfl rfl (OpV.call (evs.cons rfl (evs.cons rfl (evs.nil))) ca_43 (fun w hs => l_eqPace _ _ _ _ _ _ _ _ _ _ _ _ _ _ _ _ _ _ _ _ _ _ _ _ _ _ _ _ _ _ w (RdI.row (hs.mem (.tail _ (.tail _ (.head _)))) hr.rng) (RdI.row (hs.mem (.head _)) hr.rng))) ?_
      refine WAE.take (i := 4) rfl (by kernel_rfl) (by kernel_rfl) (by kernel_rfl) rfl rfl rfl (OpV.not rfl) ?_
      refine WAE.done (by kernel_rfl) ?_ _
      refine En.next ?_
      refine WC.cond rfl ?_ ?_
      ·
        intro hc6
        refine WC.seq ?_
        refine WC.region ?_
        refine Lt.ofWL.step rfl rfl rfl (OpV.assign rfl) ?_
        refine WL.nil ?_
        refine En.next ?_
        refine WC.ret ?_
        refine En.then_ret ?_
        refine En.ret1 rfl (Res.tmp rfl) ?_
        intro w' hs
        first
          | exact ⟨rfl, hs.below⟩
          | (exfalso; simp at hc6; done)
          | (exfalso; simp [eqPc_self] at hc6)
      ·
        intro hc6
        refine WC.skip ?_
        refine En.next ?_
        refine WC.seq ?_
        refine WC.region ?_
        refine Lt.ofWL.step rfl rfl rfl (OpV.assign rfl) ?_
        refine WL.nil ?_
        refine En.next ?_
        refine WC.ret ?_
        refine En.ret1 rfl (Res.tmp rfl) ?_
        intro w' hs
        first
          | exact ⟨rfl, hs.below⟩
          | (exfalso; simp at hc6; done)
          | (exfalso; simp [eqPc_self] at hc6)

theorem w_ShortFrame (m0 m1 m2 m3 m4 m5 m6 m7 m8 e l : Int) (a : Option Addr) (n c : Nat) (xs : List Int) (w : World) (hr : RdI w a n xs):
    Calls Try.prog 11 #[.agg #[.int .i64 m0, .int .i64 m1, .int .i64 m2, .int .i64 m3, .int .i64 m4, .int .i64 m5, .int .i64 m6, .int .i64 m7, .int .i64 m8, .int .i64 e, .int .i64 l, .slice a n c]] w fun en w' => en = .returned (.bool true) ∧ Ext w w' := by
  have hbd := hr.bd
  refine enter (vs := [_]) Try.func11 rfl rfl rfl rfl ?_
  refine WC.seq ?_
  refine WC.region ?_
  refine WL.heavy rfl rfl rfl (OpH.box rfl rfl ?_)
  intro b0
  refine Lt.ofWL.step rfl rfl rfl (OpV.assign rfl) ?_
  refine WL.nil ?_
  refine En.next ?_
  refine WC.seq ?_
  refine WC.region ?_
  refine Lt.ofWL.step rfl rfl rfl (OpV.assign rfl) ?_
  refine WL.nil ?_
  refine En.next ?_
  refine WC.seq ?_
  refine WC.region ?_
  refine Lt.ofWL.step rfl rfl rfl (OpV.loadAll rfl (.head _) ag_64) ?_
  refine Lt.ofWL.step rfl rfl rfl (OpV.move rfl) ?_
  refine Lt.ofWL.step rfl rfl rfl (OpV.call (evs.cons rfl (evs.cons rfl (evs.nil))) ca_40 (fun w hs => l_szPace _ _ _ _ _ _ _ _ _ _ _ _ _ _ _ w ⟨by omega, by omega⟩ (by omega))) ?_
  refine Lt.ofWL.step rfl rfl rfl (OpV.assign rfl) ?_
  refine WL.nil ?_
  refine En.next ?_
  refine WC.seq ?_
  refine WC.seq ?_
  refine WC.region ?_
  refine Lt.ofWL.step rfl rfl rfl (OpV.move rfl) ?_
  refine Lt.ofWL.step rfl rfl rfl (OpV.lss rfl rfl) ?_
  refine WL.nil ?_
  refine En.next ?_
  refine WC.cond rfl ?_ ?_
  ·
    intro hc1
    refine WC.seq ?_
    refine WC.region ?_
    refine Lt.ofWL.step rfl rfl rfl (OpV.assign rfl) ?_
    refine WL.nil ?_
    refine En.next ?_
    refine WC.ret ?_
    refine En.then_ret ?_
    refine En.ret1 rfl (Res.tmp rfl) ?_
    intro w' hs
    first
      | exact ⟨rfl, hs.below⟩
      | (exfalso; simp at hc1; done)
      | (exfalso; simp [eqPc_self] at hc1)
  ·
    intro hc1
    have hn := szs_le (of_decide_eq_false hc1)
    refine WC.skip ?_
    refine En.next ?_
    refine WC.seq ?_
    refine WC.region ?_
    refine Lt.ofWL.step rfl rfl rfl (OpV.loadAll rfl (.head _) ag_64) ?_
    refine WL.heavy rfl rfl rfl (OpH.callR (evs.cons rfl (evs.nil)) ca_42 (fun w hs => l_toPace _ _ _ _ _ _ _ _ _ _ _ _ _ _ _ w (hr.ext hs.below) (by omega)) ?_)
    rintro _ _ ⟨a12, c12, rfl, rfl⟩
    refine Lt.ofWL.step rfl rfl rfl (OpV.call (evs.cons rfl (evs.nil)) ca_45 (fun w hs => s_ShortFrame _ _ _ _ _ _ _ _ _ _ _ _ _ _ _ w (RdI.row (hs.mem (.head _)) hr.rng))) ?_
    refine Lt.ofWL.step rfl rfl rfl (OpV.assign rfl) ?_
    refine WL.nil ?_
    refine En.next ?_
    refine WC.seq ?_
    refine WC.region ?_
    refine Lt.ofWL.step rfl rfl rfl (OpV.loadAll rfl (.tail _ (.head _)) ag_64) ?_
    refine WL.heavy rfl rfl rfl (OpH.callR (evs.cons rfl (evs.nil)) ca_42 (fun w hs => l_toPace _ _ _ _ _ _ _ _ _ _ _ _ _ _ _ w (hr.ext hs.below) (by omega)) ?_)
    rintro _ _ ⟨a13, c13, rfl, rfl⟩
    refine WL.heavy rfl rfl rfl (OpH.alloc zc_54 ?_)
    intro b3
    refine WL.heavy0 rfl rfl (OpH.store (A := []) rfl rfl rfl ts_54 rfl rfl ?_)
    refine WL.nil ?_
    refine En.next ?_
    refine WC.seq ?_
    refine WC.region ?_
    refine Lt.ofWL.step rfl rfl rfl (OpV.loadAll rfl (.head _) ag_54) ?_
    refine Lt.ofWL.step rfl rfl rfl (OpV.call (evs.cons rfl (evs.nil)) ca_36 (fun w hs => i_ShortFrame _ _ _ _ _ _ _ _ _ _ _ _ _ _ _ w (RdI.row (hs.mem (.tail _ (.head _))) hr.rng))) ?_
    refine Lt.ofWL.step rfl rfl rfl (OpV.assign rfl) ?_
    refine WL.nil ?_
    refine En.next ?_
    refine WC.seq ?_
    refine WC.seq ?_
    refine WC.region ?_
    refine Lt.ofWL.step rfl rfl rfl (OpV.move rfl) ?_
    refine Lt.ofWL.step rfl rfl rfl (OpV.move rfl) ?_
    refine Lt.ofWL.step rfl rfl rfl (OpV.neq rfl rfl) ?_
    refine WL.nil ?_
    refine En.next ?_
    refine WC.cond rfl ?_ ?_
    ·
      intro hc4
      refine WC.seq ?_
      refine WC.region ?_
      refine Lt.ofWL.step rfl rfl rfl (OpV.assign rfl) ?_
      refine WL.nil ?_
      refine En.next ?_
      refine WC.ret ?_
      refine En.then_ret ?_
      refine En.ret1 rfl (Res.tmp rfl) ?_
      intro w' hs
      first
        | exact ⟨rfl, hs.below⟩
        | (exfalso; simp at hc4; done)
        | (exfalso; simp [eqPc_self] at hc4)
    ·
      intro hc4
      refine WC.skip ?_
      refine En.next ?_
      refine WC.seq ?_
      refine WC.seq ?_
      refine WC.drawnH [] ([_, _, _, _]) (fun _ h => h) (by kernel_rfl) ?_
      refine WAE.take (i := 0) rfl (by kernel_rfl) (by kernel_rfl) (by kernel_rfl) rfl rfl rfl (OpV.loadAll rfl (.head _) ag_54) ?_
      refine WAE.take (i := 1) rfl (by kernel_rfl) (by kernel_rfl) (by kernel_rfl) rfl rfl rfl (OpV.loadAll rfl (.tail _ (.tail _ (.tail _ (.head _)))) ag_64) ?_
      refine WAE.all (rs := [2]) (by kernel_rfl) rfl (AllR.cons rfl rfl rfl rfl ?_ AllR.nil)
      refine OpH.callR (evs.cons rfl (evs.nil)) ca_42 (fun w hs => l_toPace _ _ _ _ _ _ _ _ _ _ _ _ _ _ _ w (hr.ext hs.below) (by omega)) ?_
      rintro _ _ ⟨a15, c15, rfl, rfl⟩
      refine ⟨[_], rfl, ?_⟩
      refine WAE.rebase (H := []) ?_
      refine WAE.take (i := 3) rfl (by kernel_rfl) (by kernel_rfl) (by kernel_rfl) rfl rfl rfl (OpV.call (evs.cons rfl (evs.cons rfl (evs.nil))) ca_43 (fun w hs => l_eqPace _ _ _ _ _ _ _ _ _ _ _ _ _ _ _ _ _ _ _ _ _ _ _ _ _ _ _ _ _ _ w (RdI.row (hs.mem (.tail _ (.tail _ (.head _)))) hr.rng) (RdI.row (hs.mem (.head _)) hr.rng))) ?_
      refine WAE.take (i := 4) rfl (by kernel_rfl) (by kernel_rfl) (by kernel_rfl) rfl rfl rfl (OpV.not rfl) ?_
      refine WAE.done (by kernel_rfl) ?_ _
      refine En.next ?_
      refine WC.cond rfl ?_ ?_
      ·
        intro hc6
        refine WC.seq ?_
        refine WC.region ?_
        refine Lt.ofWL.step rfl rfl rfl (OpV.assign rfl) ?_
        refine WL.nil ?_
        refine En.next ?_
        refine WC.ret ?_
        refine En.then_ret ?_
        refine En.ret1 rfl (Res.tmp rfl) ?_
        intro w' hs
        first
          | exact ⟨rfl, hs.below⟩
          | (exfalso; simp at hc6; done)
          | (exfalso; simp [eqPc_self] at hc6)
      ·
        intro hc6
        refine WC.skip ?_
        refine En.next ?_
        refine WC.seq ?_
        refine WC.region ?_
        refine Lt.ofWL.step rfl rfl rfl (OpV.assign rfl) ?_
        refine WL.nil ?_
        refine En.next ?_
        refine WC.ret ?_
        refine En.ret1 rfl (Res.tmp rfl) ?_
        intro w' hs
        first
          | exact ⟨rfl, hs.below⟩
          | (exfalso; simp at hc6; done)
          | (exfalso; simp [eqPc_self] at hc6)

theorem w_PaceTime (m0 m1 m2 m3 m4 m5 m6 m7 m8 e l : Int) (a : Option Addr) (n c : Nat) (xs : List Int) (w : World) (hr : RdI w a n xs):
    Calls Try.prog 12 #[.agg #[.int .i64 m0, .int .i64 m1, .int .i64 m2, .int .i64 m3, .int .i64 m4, .int .i64 m5, .int .i64 m6, .int .i64 m7, .int .i64 m8, .int .i64 e, .int .i64 l, .slice a n c]] w fun en w' => en = .returned (.bool true) ∧ Ext w w' := by
  have hbd := hr.bd
  refine enter (vs := [_]) Try.func12 rfl rfl rfl rfl ?_
  refine WC.seq ?_
  refine WC.region ?_
  refine WL.heavy rfl rfl rfl (OpH.box rfl rfl ?_)
  intro b0
  refine Lt.ofWL.step rfl rfl rfl (OpV.assign rfl) ?_
  refine WL.nil ?_
  refine En.next ?_
  refine WC.seq ?_
  refine WC.region ?_
  refine Lt.ofWL.step rfl rfl rfl (OpV.assign rfl) ?_
  refine WL.nil ?_
  refine En.next ?_
  refine WC.seq ?_
  refine WC.region ?_
  refine Lt.ofWL.step rfl rfl rfl (OpV.loadAll rfl (.head _) ag_64) ?_
  refine Lt.ofWL.step rfl rfl rfl (OpV.move rfl) ?_
  refine Lt.ofWL.step rfl rfl rfl (OpV.call (evs.cons rfl (evs.cons rfl (evs.nil))) ca_40 (fun w hs => l_szPace _ _ _ _ _ _ _ _ _ _ _ _ _ _ _ w ⟨by omega, by omega⟩ (by omega))) ?_
  refine Lt.ofWL.step rfl rfl rfl (OpV.assign rfl) ?_
  refine WL.nil ?_
  refine En.next ?_
  refine WC.seq ?_
  refine WC.seq ?_
  refine WC.region ?_
  refine Lt.ofWL.step rfl rfl rfl (OpV.move rfl) ?_
  refine Lt.ofWL.step rfl rfl rfl (OpV.lss rfl rfl) ?_
  refine WL.nil ?_
  refine En.next ?_
  refine WC.cond rfl ?_ ?_
  ·
    intro hc1
    refine WC.seq ?_
    refine WC.region ?_
    refine Lt.ofWL.step rfl rfl rfl (OpV.assign rfl) ?_
    refine WL.nil ?_
    refine En.next ?_
    refine WC.ret ?_
    refine En.then_ret ?_
    refine En.ret1 rfl (Res.tmp rfl) ?_
    intro w' hs
    first
      | exact ⟨rfl, hs.below⟩
      | (exfalso; simp at hc1; done)
      | (exfalso; simp [eqPc_self] at hc1)
  ·
    intro hc1
    have hn := szs_le (of_decide_eq_false hc1)
    refine WC.skip ?_
    refine En.next ?_
    refine WC.seq ?_
    refine WC.region ?_
    refine Lt.ofWL.step rfl rfl rfl (OpV.loadAll rfl (.head _) ag_64) ?_
    refine WL.heavy rfl rfl rfl (OpH.callR (evs.cons rfl (evs.nil)) ca_42 (fun w hs => l_toPace _ _ _ _ _ _ _ _ _ _ _ _ _ _ _ w (hr.ext hs.below) (by omega)) ?_)
    rintro _ _ ⟨a12, c12, rfl, rfl⟩
    refine Lt.ofWL.step rfl rfl rfl (OpV.call (evs.cons rfl (evs.nil)) ca_46 (fun w hs => s_PaceTime _ _ _ _ _ _ _ _ _ _ _ _ _ _ _ w (RdI.row (hs.mem (.head _)) hr.rng))) ?_
    refine Lt.ofWL.step rfl rfl rfl (OpV.assign rfl) ?_
    refine WL.nil ?_
    refine En.next ?_
    refine WC.seq ?_
    refine WC.region ?_
    refine Lt.ofWL.step rfl rfl rfl (OpV.loadAll rfl (.tail _ (.head _)) ag_64) ?_
    refine WL.heavy rfl rfl rfl (OpH.callR (evs.cons rfl (evs.nil)) ca_42 (fun w hs => l_toPace _ _ _ _ _ _ _ _ _ _ _ _ _ _ _ w (hr.ext hs.below) (by omega)) ?_)
    rintro _ _ ⟨a13, c13, rfl, rfl⟩
    refine WL.heavy rfl rfl rfl (OpH.alloc zc_54 ?_)
    intro b3
    refine WL.heavy0 rfl rfl (OpH.store (A := []) rfl rfl rfl ts_54 rfl rfl ?_)
    refine WL.nil ?_
    refine En.next ?_
    refine WC.seq ?_
    refine WC.region ?_
    refine Lt.ofWL.step rfl rfl rfl (OpV.loadAll rfl (.head _) ag_54) ?_
    refine Lt.ofWL.step rfl rfl rfl (OpV.call (evs.cons rfl (evs.nil)) ca_38 (fun w hs => i_PaceTime _ _ _ _ _ _ _ _ _ _ _ _ _ _ _ w (RdI.row (hs.mem (.tail _ (.head _))) hr.rng))) ?_
    refine Lt.ofWL.step rfl rfl rfl (OpV.assign rfl) ?_
    refine WL.nil ?_
    refine En.next ?_
    refine WC.seq ?_
    refine WC.seq ?_
    refine WC.region ?_
    refine Lt.ofWL.step rfl rfl rfl (OpV.move rfl) ?_
    refine Lt.ofWL.step rfl rfl rfl (OpV.move rfl) ?_
    refine Lt.ofWL.step rfl rfl rfl (OpV.neq rfl rfl) ?_
    refine WL.nil ?_
    refine En.next ?_
    refine WC.cond rfl ?_ ?_
    ·
      intro hc4
      refine WC.seq ?_
      refine WC.region ?_
      refine Lt.ofWL.step rfl rfl rfl (OpV.assign rfl) ?_
      refine WL.nil ?_
      refine En.next ?_
      refine WC.ret ?_
      refine En.then_ret ?_
      refine En.ret1 rfl (Res.tmp rfl) ?_
      intro w' hs
      first
        | exact ⟨rfl, hs.below⟩
        | (exfalso; simp at hc4; done)
        | (exfalso; simp [eqPc_self] at hc4)
    ·
      intro hc4
      refine WC.skip ?_
      refine En.next ?_
      refine WC.seq ?_
      refine WC.seq ?_
      refine WC.drawnH [] ([_, _, _, _]) (fun _ h => h) (by kernel_rfl) ?_
      refine WAE.take (i := 0) rfl (by kernel_rfl) (by kernel_rfl) (by kernel_rfl) rfl rfl rfl (OpV.loadAll rfl (.head _) ag_54) ?_
      refine WAE.take (i := 1) rfl (by kernel_rfl) (by kernel_rfl) (by kernel_rfl) rfl rfl rfl (OpV.loadAll rfl (.tail _ (.tail _ (.tail _ (.head _)))) ag_64) ?_
      refine WAE.all (rs := [2]) (by kernel_rfl) rfl (AllR.cons rfl rfl rfl rfl ?_ AllR.nil)
      refine OpH.callR (evs.cons rfl (evs.nil)) ca_42 (fun w hs => l_toPace _ _ _ _ _ _ _ _ _ _ _ _ _ _ _ w (hr.ext hs.below) (by omega)) ?_
      rintro _ _ ⟨a15, c15, rfl, rfl⟩
      refine ⟨[_], rfl, ?_⟩
      refine WAE.rebase (H := []) ?_
      refine WAE.take (i := 3) rfl (by kernel_rfl) (by kernel_rfl) (by kernel_rfl) rfl rfl rfl (OpV.call (evs.cons rfl (evs.cons rfl (evs.nil))) ca_43 (fun w hs => l_eqPace _ _ _ _ _ _ _ _ _ _ _ _ _ _ _ _ _ _ _ _ _ _ _ _ _ _ _ _ _ _ w (RdI.row (hs.mem (.tail _ (.tail _ (.head _)))) hr.rng) (RdI.row (hs.mem (.head _)) hr.rng))) ?_
      refine WAE.take (i := 4) rfl (by kernel_rfl) (by kernel_rfl) (by kernel_rfl) rfl rfl rfl (OpV.not rfl) ?_
      refine WAE.done (by kernel_rfl) ?_ _
      refine En.next ?_
      refine WC.cond rfl ?_ ?_
      ·
        intro hc6
        refine WC.seq ?_
        refine WC.region ?_
        refine Lt.ofWL.step rfl rfl rfl (OpV.assign rfl) ?_
        refine WL.nil ?_
        refine En.next ?_
        refine WC.ret ?_
        refine En.then_ret ?_
        refine En.ret1 rfl (Res.tmp rfl) ?_
        intro w' hs
        first
          | exact ⟨rfl, hs.below⟩
          | (exfalso; simp at hc6; done)
          | (exfalso; simp [eqPc_self] at hc6)
      ·
        intro hc6
        refine WC.skip ?_
        refine En.next ?_
        refine WC.seq ?_
        refine WC.region ?_
        refine Lt.ofWL.step rfl rfl rfl (OpV.assign rfl) ?_
        refine WL.nil ?_
        refine En.next ?_
        refine WC.ret ?_
        refine En.ret1 rfl (Res.tmp rfl) ?_
        intro w' hs
        first
          | exact ⟨rfl, hs.below⟩
          | (exfalso; simp at hc6; done)
          | (exfalso; simp [eqPc_self] at hc6)

end Go.Proofs.Ytbcaoilghmcaeaa
