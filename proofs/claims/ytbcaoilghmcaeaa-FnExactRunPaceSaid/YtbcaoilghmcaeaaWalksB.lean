/- More functions of this seat: each call returns what a plain function computes. -/
import Derived.Test.YtbcaoilghmcaeaaWalks
namespace Go.Proofs.Ytbcaoilghmcaeaa
open Go.RowKit K

set_option maxRecDepth 100000

/-- What is left of a budget of cells, once a slice is taken from it; -1: too little. -/
def szs (m : Int) (n : Nat) : Int := if m - n < 0 then -1 else m - n
theorem szs_le {m : Int} {n : Nat} (h : ¬ szs m n < 0) : (n : Int) ≤ m := by unfold szs at h; split at h <;> omega
def dotsOk (xs : List Int) : Bool := xs.all fun x => inR x 0 262143
theorem all_take_succ {α : Type} {p : α → Bool} {xs : List α} {k : Nat} {x : α} (h : (xs.take k).all p = true) (hx : xs[k]? = some x) (hp : p x = true) : (xs.take (k + 1)).all p = true := by
  rw [List.take_add_one, hx, List.all_append, h]; simp [hp]
theorem all_not {α : Type} {p : α → Bool} {xs : List α} {k : Nat} {x : α} (hx : xs[k]? = some x) (hp : p x = false) : xs.all p = false := by
  rw [List.all_eq_false]; exact ⟨x, List.mem_of_getElem? hx, by simp [hp]⟩
theorem take_succ_eq {α : Type} {xs ys : List α} {k : Nat} {x : α} (h : xs.take k = ys.take k) (hx : xs[k]? = some x) (hy : ys[k]? = some x) : xs.take (k + 1) = ys.take (k + 1) := by
  rw [List.take_add_one, List.take_add_one, h, hx, hy]
theorem ne_of_at {α : Type} {xs ys : List α} {k : Nat} {x y : α} (hx : xs[k]? = some x) (hy : ys[k]? = some y) (h : x ≠ y) : xs ≠ ys := fun e => by subst e; rw [hx] at hy; exact h (Option.some.inj hy)
def pkOk (k v q : Int) (xs : List Int) : Bool := !(decide (pktLen k xs.length < 0)) && inR v 0 255 && inR q 0 15 && dotsOk xs
def eqPk (k v q : Int) (xs : List Int) (k2 v2 q2 : Int) (ys : List Int) : Bool := decide (k = k2) && decide (v = v2) && decide (q = q2) && decide (xs = ys)
theorem eqPk_self (k v q : Int) (xs : List Int) : eqPk k v q xs k v q xs = true := by simp [eqPk]

theorem not_lt_dec (x : Int) : (!decide (x < 0)) = decide (0 ≤ x) := by
  rw [← decide_not]; exact decide_eq_decide.2 ⟨fun _ => by omega, fun _ => by omega⟩

theorem si_44 : (sliceElem Try.prog 44).isSome = true := by kernel_rfl
theorem fo_46_3 : fieldOff Try.prog 46 3 = some 3 := by kernel_rfl
theorem pt_44 : plainTy Try.prog 44 = true := by kernel_rfl
theorem ca_65 : callable Try.prog 65 = true := by kernel_rfl
theorem mi_44 : makeInfo Try.prog 44 = some (3, 8, [.int .i64 0]) := by kernel_rfl
theorem se_44 : sliceElem Try.prog 44 = some 1 := by kernel_rfl
theorem ca_86 : callable Try.prog 86 = true := by kernel_rfl
theorem fo_49_0 : fieldOff Try.prog 49 0 = some 0 := by kernel_rfl
theorem fo_49_3 : fieldOff Try.prog 49 3 = some 3 := by kernel_rfl
theorem ca_66 : callable Try.prog 66 = true := by kernel_rfl
theorem fo_49_1 : fieldOff Try.prog 49 1 = some 1 := by kernel_rfl
theorem fo_49_2 : fieldOff Try.prog 49 2 = some 2 := by kernel_rfl
theorem ca_68 : callable Try.prog 68 = true := by kernel_rfl
theorem ca_69 : callable Try.prog 69 = true := by kernel_rfl
theorem zc_49 : zeroCells Try.prog 49 = some [.int .i64 0, .int .i64 0, .int .i64 0, .slice none 0 0] := by kernel_rfl
theorem fo_46_0 : fieldOff Try.prog 46 0 = some 0 := by kernel_rfl
theorem fo_46_1 : fieldOff Try.prog 46 1 = some 1 := by kernel_rfl
theorem fo_46_2 : fieldOff Try.prog 46 2 = some 2 := by kernel_rfl
theorem ca_67 : callable Try.prog 67 = true := by kernel_rfl
theorem ts_44 : tySize Try.prog 44 = some 1 := by kernel_rfl
theorem ag_49 : aggTy Try.prog 49 = some 4 := by kernel_rfl
theorem ts_49 : tySize Try.prog 49 = some 4 := by kernel_rfl
theorem ca_70 : callable Try.prog 70 = true := by kernel_rfl
theorem ag_46 : aggTy Try.prog 46 = some 4 := by kernel_rfl
theorem ca_28 : callable Try.prog 28 = true := by kernel_rfl
theorem ca_30 : callable Try.prog 30 = true := by kernel_rfl
theorem ca_29 : callable Try.prog 29 = true := by kernel_rfl
theorem ca_31 : callable Try.prog 31 = true := by kernel_rfl
theorem ca_32 : callable Try.prog 32 = true := by kernel_rfl

theorem l_szIntS (a : Option Addr) (n c : Nat) (m : Int) (w : World) (hm : 0 ≤ m ∧ m ≤ 1048576) (hn : n ≤ 9223372036854775807):
    Calls Try.prog 65 #[.slice a n c, .int .i64 m] w fun en w' => en = .returned (.int .i64 (szs m n)) ∧ Ext w w' := by
  refine enter (vs := [_, _]) Try.func65 rfl rfl rfl rfl ?_
  refine WC.seq ?_
  refine WC.region ?_
  refine Lt.ofWL.step rfl rfl rfl (OpV.assign rfl) ?_
  refine WL.nil ?_
  refine En.next ?_
  refine WC.seq ?_
  refine WC.region ?_
  refine Lt.ofWL.step rfl rfl rfl (OpV.move rfl) ?_
  refine Lt.ofWL.step rfl rfl rfl (OpV.move rfl) ?_
  refine Lt.ofWL.step rfl rfl rfl (OpV.len rfl si_44 rfl) ?_
  refine Lt.ofWL.step rfl rfl rfl (OpV.sub rfl rfl ⟨by omega, by omega⟩) ?_
  refine Lt.ofWL.step rfl rfl rfl (OpV.assign rfl) ?_
  refine WL.nil ?_
  refine En.next ?_
  refine WC.seq ?_
  refine WC.seq ?_
  refine WC.region ?_
  refine Lt.ofWL.step rfl rfl rfl (OpV.move rfl) ?_
  refine Lt.ofWL.step rfl rfl rfl (OpV.lss rfl rfl) ?_
  refine WL.nil ?_
  refine En.next ?_
  refine WC.cond rfl ?_ ?_
  ·
    intro hc1
    refine WC.seq ?_
    refine WC.region ?_
    refine Lt.ofWL.step rfl rfl rfl (OpV.assign rfl) ?_
    refine WL.nil ?_
    refine En.next ?_
    refine WC.ret ?_
    refine En.then_ret ?_
    refine En.ret1 rfl (Res.tmp rfl) ?_
    intro w' hs
    refine ⟨congrArg _ (congrArg _ ?_), hs.below⟩
    have khc1 := of_decide_eq_true hc1
    unfold szs at *
    (repeat' split) <;> omega
  ·
    intro hc1
    refine WC.skip ?_
    refine En.next ?_
    refine WC.seq ?_
    refine WC.region ?_
    refine Lt.ofWL.step rfl rfl rfl (OpV.move rfl) ?_
    refine Lt.ofWL.step rfl rfl rfl (OpV.assign rfl) ?_
    refine WL.nil ?_
    refine En.next ?_
    refine WC.ret ?_
    refine En.ret1 rfl (Res.tmp rfl) ?_
    intro w' hs
    refine ⟨congrArg _ (congrArg _ ?_), hs.below⟩
    have khc1 := of_decide_eq_false hc1
    unfold szs at *
    (repeat' split) <;> omega

theorem l_szLinePacket (k v q : Int) (a : Option Addr) (n c : Nat) (m : Int) (w : World) (hm : 0 ≤ m ∧ m ≤ 1048576) (hn : n ≤ 9223372036854775807):
    Calls Try.prog 28 #[.agg #[.int .i64 k, .int .i64 v, .int .i64 q, .slice a n c], .int .i64 m] w fun en w' => en = .returned (.int .i64 (szs m n)) ∧ Ext w w' := by
  refine enter (vs := [_, _]) Try.func28 rfl rfl rfl rfl ?_
  refine WC.seq ?_
  refine WC.region ?_
  refine WL.heavy rfl rfl rfl (OpH.box rfl rfl ?_)
  intro b0
  refine Lt.ofWL.step rfl rfl rfl (OpV.assign rfl) ?_
  refine WL.nil ?_
  refine En.next ?_
  refine WC.seq ?_
  refine WC.region ?_
  refine Lt.ofWL.step rfl rfl rfl (OpV.fieldAddr rfl fo_46_3) ?_
  refine Lt.ofWL.step rfl rfl rfl (OpV.loadBox rfl pt_44 (.head _) rfl) ?_
  refine Lt.ofWL.step rfl rfl rfl (OpV.move rfl) ?_
  refine Lt.ofWL.step rfl rfl rfl (OpV.call (evs.cons rfl (evs.cons rfl (evs.nil))) ca_65 (fun w hs => l_szIntS _ _ _ _ w ⟨by omega, by omega⟩ (by omega))) ?_
  refine Lt.ofWL.step rfl rfl rfl (OpV.assign rfl) ?_
  refine WL.nil ?_
  refine En.next ?_
  refine WC.seq ?_
  refine WC.seq ?_
  refine WC.region ?_
  refine Lt.ofWL.step rfl rfl rfl (OpV.move rfl) ?_
  refine Lt.ofWL.step rfl rfl rfl (OpV.lss rfl rfl) ?_
  refine WL.nil ?_
  refine En.next ?_
  refine WC.cond rfl ?_ ?_
  ·
    intro hc1
    refine WC.seq ?_
    refine WC.region ?_
    refine Lt.ofWL.step rfl rfl rfl (OpV.assign rfl) ?_
    refine WL.nil ?_
    refine En.next ?_
    refine WC.ret ?_
    refine En.then_ret ?_
    refine En.ret1 rfl (Res.tmp rfl) ?_
    intro w' hs
    refine ⟨congrArg _ (congrArg _ ?_), hs.below⟩
    have khc1 := of_decide_eq_true hc1
    unfold szs at *
    (repeat' split) <;> omega
  ·
    intro hc1
    refine WC.skip ?_
    refine En.next ?_
    refine WC.seq ?_
    refine WC.region ?_
    refine Lt.ofWL.step rfl rfl rfl (OpV.move rfl) ?_
    refine Lt.ofWL.step rfl rfl rfl (OpV.assign rfl) ?_
    refine WL.nil ?_
    refine En.next ?_
    refine WC.ret ?_
    refine En.ret1 rfl (Res.tmp rfl) ?_
    intro w' hs
    refine ⟨congrArg _ (congrArg _ ?_), hs.below⟩
    have khc1 := of_decide_eq_false hc1
    unfold szs at *
    (repeat' split) <;> omega

theorem l_toIntS (a : Option Addr) (n c : Nat) (xs : List Int) (w : World) (hr : RdI w a n xs) (hn : n ≤ 1048576):
    Calls Try.prog 67 #[.slice a n c] w fun en w' => ∃ rv G, en = .returned rv ∧ (∃ (a1 : Option Addr) (c1 : Nat), rv = .slice a1 n c1 ∧ G = [Chunk.row 3 1 a1 n c1 (xs.map (Value.int .i64))]) ∧ St w G w' := by
  have hl := hr.len
  refine enter (vs := [_]) Try.func67 rfl rfl rfl rfl ?_
  refine WC.seq ?_
  refine WC.region ?_
  refine Lt.ofWL.step rfl rfl rfl (OpV.assign rfl) ?_
  refine WL.nil ?_
  refine En.next ?_
  refine WC.seq ?_
  refine WC.region ?_
  refine Lt.ofWL.step rfl rfl rfl (OpV.move rfl) ?_
  refine Lt.ofWL.step rfl rfl rfl (OpV.len rfl si_44 rfl) ?_
  refine WL.heavy rfl rfl rfl (OpH.make rfl rfl mi_44 (Nat.le_refl _) (by omega) (by omega) ?_)
  intro b0
  refine Lt.ofWL.step rfl rfl rfl (OpV.assign rfl) ?_
  refine WL.nil ?_
  refine En.next ?_
  refine WC.seq ?_
  refine WC.seq ?_
  refine WC.region ?_
  refine Lt.ofWL.step rfl rfl rfl (OpV.assign rfl) ?_
  refine WL.nil ?_
  refine En.next ?_
  refine WC.block ?_
  refine WC.loop (EI := fun k : Nat => [(0, .slice a n c), (3, .slice (some ⟨b0, 0, .none⟩) n n), (4, .int .i64 k)]) (FI := fun k => [Chunk.row 3 1 (some ⟨b0, 0, .none⟩) n n (fill (Value.int .i64) ((.int .i64 0)) xs k)]) (PI := fun k => k ≤ n) (m := fun k => n - k) 0 (Nat.zero_le _) (Sub.cons rfl (Sub.cons rfl (Sub.cons rfl (Sub.nil _)))) (fun _ h => St.box_row (A := []) (sp := []) (by have e : ∀ l : List Value, l ++ [] = l := List.append_nil; rw [fill_zero, e, ← hl]; exact h) (by rw [fill_length _ _ _ _ (Nat.zero_le _)]; omega) (by rw [List.append_nil, fill_length _ _ _ _ (Nat.zero_le _)]; omega) (Nat.le_refl _) (by unfold maxLen; omega)) ?_
  intro k hP
  refine WC.seq ?_
  refine WC.seq ?_
  refine WC.region ?_
  refine Lt.ofWL.step rfl rfl rfl (OpV.move rfl) ?_
  refine Lt.ofWL.step rfl rfl rfl (OpV.move rfl) ?_
  refine Lt.ofWL.step rfl rfl rfl (OpV.len rfl si_44 rfl) ?_
  refine Lt.ofWL.step rfl rfl rfl (OpV.lss rfl rfl) ?_
  refine WL.nil ?_
  refine En.next ?_
  refine WC.cond rfl ?_ ?_
  ·
    intro hc1
    have hlt := of_decide_eq_true hc1
    obtain ⟨b, o, x, rfl, hx, _, hcell⟩ := hr.get (k := k) (by omega)
    refine WC.skip ?_
    refine En.next ?_
    refine WC.seq ?_
    refine WC.block ?_
    refine WC.region ?_
    refine Lt.ofWL.step rfl rfl rfl (OpV.move rfl) ?_
    refine Lt.ofWL.step rfl rfl rfl (OpV.move rfl) ?_
    refine Lt.ofWL.step rfl rfl rfl (OpV.move rfl) ?_
    refine Lt.ofWL.step rfl rfl rfl (OpV.move rfl) ?_
    refine Lt.ofWL.step rfl rfl rfl (OpV.idx1 rfl rfl se_44 (by omega)) ?_
    refine Lt.ofWL.step rfl rfl rfl (OpV.load1 rfl pt_3 (fun w hs => hs.cell hcell)) ?_
    refine Lt.ofWL.step rfl rfl rfl (OpV.idx1 rfl rfl se_44 (by omega)) ?_
    refine WL.heavy0 rfl rfl (OpH.storeRow (A := []) rfl rfl rfl ts_3 (by omega) rfl ?_)
    refine WL.nil ?_
    refine En.block_norm ?_
    refine En.next ?_
    refine WC.region ?_
    refine Lt.ofWL.step rfl rfl rfl (OpV.move rfl) ?_
    refine Lt.ofWL.step rfl rfl rfl (OpV.add rfl rfl ⟨by omega, by omega⟩) ?_
    refine Lt.ofWL.step rfl rfl rfl (OpV.assign rfl) ?_
    refine WL.nil ?_
    rw [Nat.zero_add, fill_set (Value.int .i64) ((.int .i64 0)) xs k hx]
    refine En.round (k + 1) (by omega) (by omega) (Sub.cons rfl (Sub.cons rfl (Sub.cons rfl (Sub.nil _)))) (fun _ h => h)
  ·
    intro hc1
    have hge := of_decide_eq_false hc1
    have hk : k = n := by omega
    subst hk
    rw [hl, fill_all]
    refine WC.exit ?_
    refine En.then_exit ?_
    refine En.then_exit ?_
    refine En.block_exit ?_
    refine En.next ?_
    refine WC.seq ?_
    refine WC.region ?_
    refine Lt.ofWL.step rfl rfl rfl (OpV.move rfl) ?_
    refine Lt.ofWL.step rfl rfl rfl (OpV.assign rfl) ?_
    refine WL.nil ?_
    refine En.next ?_
    refine WC.ret ?_
    refine En.ret1 rfl (Res.tmp rfl) ?_
    intro w' hs
    exact ⟨_, _, rfl, ⟨_, _, rfl, rfl⟩, hs⟩

theorem l_eqIntS (a : Option Addr) (n c : Nat) (xs : List Int) (a2 : Option Addr) (n2 c2 : Nat) (ys : List Int) (w : World) (hr : RdI w a n xs) (hq : RdI w a2 n2 ys):
    Calls Try.prog 70 #[.slice a n c, .slice a2 n2 c2] w fun en w' => en = .returned (.bool (decide (xs = ys))) ∧ Ext w w' := by
  have hl := hr.len
  have hl2 := hq.len
  have hb1 := hr.bd
  refine enter (vs := [_, _]) Try.func70 rfl rfl rfl rfl ?_
  refine WC.seq ?_
  refine WC.region ?_
  refine Lt.ofWL.step rfl rfl rfl (OpV.assign rfl) ?_
  refine WL.nil ?_
  refine En.next ?_
  refine WC.seq ?_
  refine WC.seq ?_
  refine WC.region ?_
  refine Lt.ofWL.step rfl rfl rfl (OpV.move rfl) ?_
  refine Lt.ofWL.step rfl rfl rfl (OpV.len rfl si_44 rfl) ?_
  refine Lt.ofWL.step rfl rfl rfl (OpV.move rfl) ?_
  refine Lt.ofWL.step rfl rfl rfl (OpV.len rfl si_44 rfl) ?_
  refine Lt.ofWL.step rfl rfl rfl (OpV.neq rfl rfl) ?_
  refine WL.nil ?_
  refine En.next ?_
  refine WC.cond rfl ?_ ?_
  ·
    intro hc1
    have hne : xs ≠ ys := fun e => by subst e; simp at hc1; omega
    refine WC.seq ?_
    refine WC.region ?_
    refine Lt.ofWL.step rfl rfl rfl (OpV.assign rfl) ?_
    refine WL.nil ?_
    refine En.next ?_
    refine WC.ret ?_
    refine En.then_ret ?_
    refine En.ret1 rfl (Res.tmp rfl) ?_
    intro w' hs
    refine ⟨congrArg _ (congrArg _ ?_), hs.below⟩
    exact (decide_eq_false hne).symm
  ·
    intro hc1
    have hnn : n = n2 := by simp at hc1; omega
    refine WC.skip ?_
    refine En.next ?_
    refine WC.seq ?_
    refine WC.seq ?_
    refine WC.region ?_
    refine Lt.ofWL.step rfl rfl rfl (OpV.assign rfl) ?_
    refine WL.nil ?_
    refine En.next ?_
    refine WC.block ?_
    refine WC.loop (EI := fun k : Nat => [(0, .slice a n c), (1, .slice a2 n2 c2), (5, .int .i64 k)]) (FI := fun _ => []) (PI := fun k => k ≤ n ∧ xs.take k = ys.take k) (m := fun k => n - k) 0 ⟨Nat.zero_le _, rfl⟩ (Sub.cons rfl (Sub.cons rfl (Sub.cons rfl (Sub.nil _)))) (fun _ h => h) ?_
    intro k hP
    refine WC.seq ?_
    refine WC.seq ?_
    refine WC.region ?_
    refine Lt.ofWL.step rfl rfl rfl (OpV.move rfl) ?_
    refine Lt.ofWL.step rfl rfl rfl (OpV.move rfl) ?_
    refine Lt.ofWL.step rfl rfl rfl (OpV.len rfl si_44 rfl) ?_
    refine Lt.ofWL.step rfl rfl rfl (OpV.lss rfl rfl) ?_
    refine WL.nil ?_
    refine En.next ?_
    refine WC.cond rfl ?_ ?_
    ·
      intro hc2
      have hlt := of_decide_eq_true hc2
      obtain ⟨b, o, x, rfl, hx, _, hcell⟩ := hr.get (k := k) (by omega)
      obtain ⟨b2, o2, y, rfl, hy, _, hcell2⟩ := hq.get (k := k) (by omega)
      refine WC.skip ?_
      refine En.next ?_
      refine WC.seq ?_
      refine WC.block ?_
      refine WC.seq ?_
      refine WC.drawn [(0, ?r6v0), (1, ?r6v1), (5, ?r6v5), (11, ?r6v11), (12, ?r6v12), (13, ?r6v13), (14, ?r6v14), (25, ?r6v25)] (by kernel_rfl) (by kernel_rfl) ?dH6 ?dK6
      case dH6 =>
        intro W hW hk
        refine hW.step rfl rfl rfl (OpV.move rfl) ?_
        refine hW.step rfl rfl rfl (OpV.move rfl) ?_
        refine hW.step rfl rfl rfl (OpV.idx1 rfl rfl se_44 (by omega)) ?_
        refine hW.step rfl rfl rfl (OpV.load1 rfl pt_3 (fun w hs => hs.cell hcell)) ?_
        refine hW.step rfl rfl rfl (OpV.move rfl) ?_
        refine hW.step rfl rfl rfl (OpV.move rfl) ?_
        refine hW.step rfl rfl rfl (OpV.idx1 rfl rfl se_44 (by omega)) ?_
        refine hW.step rfl rfl rfl (OpV.load1 rfl pt_3 (fun w hs => hs.cell hcell2)) ?_
        refine hW.step rfl rfl rfl (OpV.neq rfl rfl) ?_
        refine hk _ ?_
        refine Sub.cons ?_ (Sub.cons ?_ (Sub.cons ?_ (Sub.cons ?_ (Sub.cons ?_ (Sub.cons ?_ (Sub.cons ?_ (Sub.cons ?_ (Sub.nil _))))))))
        all_goals exact rfl
      refine En.next ?_
      refine WC.cond rfl ?_ ?_
      ·
        intro hc3
        have hne : xs ≠ ys := ne_of_at hx hy (by simpa using hc3)
        refine WC.seq ?_
        refine WC.region ?_
        refine Lt.ofWL.step rfl rfl rfl (OpV.assign rfl) ?_
        refine WL.nil ?_
        refine En.next ?_
        refine WC.ret ?_
        refine En.block_ret ?_
        refine En.then_ret ?_
        refine En.then_ret ?_
        refine En.block_ret ?_
        refine En.then_ret ?_
        refine En.ret1 rfl (Res.tmp rfl) ?_
        intro w' hs
        refine ⟨congrArg _ (congrArg _ ?_), hs.below⟩
        exact (decide_eq_false hne).symm
      ·
        intro hc3
        have hxy : x = y := by simpa using hc3
        subst hxy
        refine WC.skip ?_
        refine En.block_norm ?_
        refine En.next ?_
        refine WC.region ?_
        refine Lt.ofWL.step rfl rfl rfl (OpV.move rfl) ?_
        refine Lt.ofWL.step rfl rfl rfl (OpV.add rfl rfl ⟨by omega, by omega⟩) ?_
        refine Lt.ofWL.step rfl rfl rfl (OpV.assign rfl) ?_
        refine WL.nil ?_
        refine En.round (k + 1) (by omega) ⟨by omega, take_succ_eq hP.2 hx hy⟩ (Sub.cons rfl (Sub.cons rfl (Sub.cons rfl (Sub.nil _)))) (fun _ h => h)
    ·
      intro hc2
      have hge := of_decide_eq_false hc2
      have hk : k = n := by omega
      have hnn2 := hnn
      subst hk
      have heq : xs = ys := by rw [hl, List.take_length] at hP; rw [← hl, hnn, hl2, List.take_length] at hP; exact hP.2
      refine WC.exit ?_
      refine En.then_exit ?_
      refine En.then_exit ?_
      refine En.block_exit ?_
      refine En.next ?_
      refine WC.seq ?_
      refine WC.region ?_
      refine Lt.ofWL.step rfl rfl rfl (OpV.assign rfl) ?_
      refine WL.nil ?_
      refine En.next ?_
      refine WC.ret ?_
      refine En.ret1 rfl (Res.tmp rfl) ?_
      intro w' hs
      refine ⟨congrArg _ (congrArg _ ?_), hs.below⟩
      exact (decide_eq_true heq).symm

theorem i_isDot (n : Int) (w : World) :
    Calls Try.prog 86 #[.int .i64 n] w fun en w' => en = .returned (.bool (inR n 0 262143)) ∧ Ext w w' := by
  refine enter (vs := [_]) Try.func86 rfl rfl rfl rfl ?_
  refine WC.seq ?_
  refine WC.region ?_
  refine Lt.ofWL.step rfl rfl rfl (OpV.assign rfl) ?_
  refine WL.nil ?_
  refine En.next ?_
  refine WC.seq ?_
  refine WC.region ?_
  refine Lt.ofWL.step rfl rfl rfl (OpV.move rfl) ?_
  refine Lt.ofWL.step rfl rfl rfl (OpV.call (evs.cons rfl (evs.cons rfl (evs.cons rfl (evs.nil)))) ca_56 (fun w hs => i_within _ _ _ w)) ?_
  refine Lt.ofWL.step rfl rfl rfl (OpV.assign rfl) ?_
  refine WL.nil ?_
  refine En.next ?_
  refine WC.ret ?_
  refine En.ret1 rfl (Res.tmp rfl) ?_
  intro w' hs
  exact ⟨rfl, hs.below⟩

theorem i_areDots (a : Option Addr) (n c : Nat) (xs : List Int) (w : World) (hr : RdI w a n xs):
    Calls Try.prog 68 #[.slice a n c] w fun en w' => en = .returned (.bool (dotsOk xs)) ∧ Ext w w' := by
  have hl := hr.len
  have hb1 := hr.bd
  refine enter (vs := [_]) Try.func68 rfl rfl rfl rfl ?_
  refine WC.seq ?_
  refine WC.region ?_
  refine Lt.ofWL.step rfl rfl rfl (OpV.assign rfl) ?_
  refine WL.nil ?_
  refine En.next ?_
  refine WC.seq ?_
  refine WC.seq ?_
  refine WC.region ?_
  refine Lt.ofWL.step rfl rfl rfl (OpV.move rfl) ?_
  refine Lt.ofWL.step rfl rfl rfl (OpV.len rfl si_44 rfl) ?_
  refine Lt.ofWL.step rfl rfl rfl (OpV.move rfl) ?_
  refine WL.nil ?_
  refine En.next ?_
  refine WC.block ?_
  refine WC.loop (EI := fun k : Nat => [(5, .slice a n c), (6, .int .i64 n), (7, .int .i64 k)]) (FI := fun _ => []) (PI := fun k => k ≤ n ∧ (xs.take k).all (fun x => inR x 0 262143) = true) (m := fun k => n - k) 0 ⟨Nat.zero_le _, rfl⟩ (Sub.cons rfl (Sub.cons rfl (Sub.cons rfl (Sub.nil _)))) (fun _ h => h) ?_
  intro k hP
  refine WC.seq ?_
  refine WC.region ?_
  refine Lt.ofWL.step rfl rfl rfl (OpV.lss rfl rfl) ?_
  refine WL.nil ?_
  refine En.next ?_
  refine WC.seq ?_
  refine WC.cond rfl ?_ ?_
  ·
    intro hc1
    have hlt := of_decide_eq_true hc1
    obtain ⟨b, o, x, rfl, hx, _, hcell⟩ := hr.get (k := k) (by omega)
    refine WC.skip ?_
    refine En.next ?_
    refine WC.seq ?_
    refine WC.block ?_
    refine WC.seq ?_
    refine WC.region ?_
    refine Lt.ofWL.step rfl rfl rfl (OpV.idx1 rfl rfl se_44 (by omega)) ?_
    refine Lt.ofWL.step rfl rfl rfl (OpV.load1 rfl pt_3 (fun w hs => hs.cell hcell)) ?_
    refine Lt.ofWL.step rfl rfl rfl (OpV.assign rfl) ?_
    refine WL.nil ?_
    refine En.next ?_
    refine WC.seq ?_
    refine WC.region ?_
    refine Lt.ofWL.step rfl rfl rfl (OpV.move rfl) ?_
    refine Lt.ofWL.step rfl rfl rfl (OpV.call (evs.cons rfl (evs.nil)) ca_86 (fun w hs => i_isDot _ w)) ?_
    refine Lt.ofWL.step rfl rfl rfl (OpV.not rfl) ?_
    refine WL.nil ?_
    refine En.next ?_
    refine WC.cond rfl ?_ ?_
    ·
      intro hc2
      have hall : dotsOk xs = false := all_not hx (by simpa using hc2)
      refine WC.seq ?_
      refine WC.region ?_
      refine Lt.ofWL.step rfl rfl rfl (OpV.assign rfl) ?_
      refine WL.nil ?_
      refine En.next ?_
      refine WC.ret ?_
      refine En.block_ret ?_
      refine En.then_ret ?_
      refine En.then_ret ?_
      refine En.block_ret ?_
      refine En.then_ret ?_
      refine En.ret1 rfl (Res.tmp rfl) ?_
      intro w' hs
      rw [hall]
      exact ⟨rfl, hs.below⟩
    ·
      intro hc2
      have hpx : inR x 0 262143 = true := by simpa using hc2
      refine WC.skip ?_
      refine En.block_norm ?_
      refine En.next ?_
      refine WC.region ?_
      refine Lt.ofWL.step rfl rfl rfl (OpV.add rfl rfl ⟨by omega, by omega⟩) ?_
      refine Lt.ofWL.step rfl rfl rfl (OpV.move rfl) ?_
      refine WL.nil ?_
      refine En.round (k + 1) (by omega) ⟨by omega, all_take_succ hP.2 hx hpx⟩ (Sub.cons rfl (Sub.cons rfl (Sub.cons rfl (Sub.nil _)))) (fun _ h => h)
  ·
    intro hc1
    have hge := of_decide_eq_false hc1
    have hk : k = n := by omega
    subst hk
    have hall : dotsOk xs = true := by have := hP.2; rw [hl, List.take_length] at this; exact this
    refine WC.exit ?_
    refine En.then_exit ?_
    refine En.then_exit ?_
    refine En.block_exit ?_
    refine En.next ?_
    refine WC.seq ?_
    refine WC.region ?_
    refine Lt.ofWL.step rfl rfl rfl (OpV.assign rfl) ?_
    refine WL.nil ?_
    refine En.next ?_
    refine WC.ret ?_
    refine En.ret1 rfl (Res.tmp rfl) ?_
    intro w' hs
    rw [hall]
    exact ⟨rfl, hs.below⟩

theorem s_PacketOk (k v q : Int) (a : Option Addr) (n c : Nat) (xs : List Int) (w : World) (hr : RdI w a n xs):
    Calls Try.prog 29 #[.agg #[.int .i64 k, .int .i64 v, .int .i64 q, .slice a n c]] w fun en w' => en = .returned (.bool (pkOk k v q xs)) ∧ Ext w w' := by
  have hl := hr.len
  have hb1 := hr.bd
  refine enter (vs := [_]) Try.func29 rfl rfl rfl rfl ?_
  refine WC.seq ?_
  refine WC.region ?_
  refine WL.heavy rfl rfl rfl (OpH.box rfl rfl ?_)
  intro b0
  refine Lt.ofWL.step rfl rfl rfl (OpV.assign rfl) ?_
  refine WL.nil ?_
  refine En.next ?_
  refine WC.seq ?_
  refine WC.seq ?_
  refine WC.region ?_
  refine Lt.ofWL.step rfl rfl rfl (OpV.fieldAddr rfl fo_49_0) ?_
  refine Lt.ofWL.step rfl rfl rfl (OpV.loadBox rfl pt_3 (.head _) rfl) ?_
  refine Lt.ofWL.step rfl rfl rfl (OpV.fieldAddr rfl fo_49_3) ?_
  refine Lt.ofWL.step rfl rfl rfl (OpV.loadBox rfl pt_44 (.head _) rfl) ?_
  refine Lt.ofWL.step rfl rfl rfl (OpV.len rfl si_44 rfl) ?_
  refine Lt.ofWL.step rfl rfl rfl (OpV.call (evs.cons rfl (evs.cons rfl (evs.nil))) ca_66 (fun w hs => s_PacketLength _ _ w)) ?_
  refine Lt.ofWL.step rfl rfl rfl (OpV.lss rfl rfl) ?_
  refine Lt.ofWL.step rfl rfl rfl (OpV.move rfl) ?_
  refine Lt.ofWL.or 11 16 15 (p := ?pz1) (rest := ?qz1) (B := ?Bz1) rfl ?Tz1 ?Fz1 ?az1 ?bz1 ?cz1 ?dz1 ?ez1
  case Tz1 =>
    intro hc2 hkz1
    refine Lt.ofWL.skip rfl rfl rfl ?_
    refine Lt.ofWL.skip rfl rfl rfl ?_
    refine Lt.ofWL.skip rfl rfl rfl ?_
    refine Lt.ofWL.skip rfl rfl rfl ?_
    refine hkz1 _ ?_
    repeat (first | exact Sub.refl _ | refine Sub.skip rfl ?_)
  case Fz1 =>
    intro hc3 hkz1
    refine Lt.ofWL.step rfl rfl rfl (OpV.fieldAddr rfl fo_49_1) ?_
    refine Lt.ofWL.step rfl rfl rfl (OpV.loadBox rfl pt_3 (.head _) rfl) ?_
    refine Lt.ofWL.step rfl rfl rfl (OpV.call (evs.cons rfl (evs.cons rfl (evs.cons rfl (evs.nil)))) ca_58 (fun w hs => s_in _ _ _ w)) ?_
    refine Lt.ofWL.step rfl rfl rfl (OpV.not rfl) ?_
    refine hkz1 _ ?_ ?_
    exact rfl
    repeat (first | exact Sub.refl _ | refine Sub.skip rfl ?_)
  case az1 => exact rfl
  case bz1 => exact rfl
  case cz1 => exact rfl
  case dz1 => exact rfl
  refine Lt.ofWL.step rfl rfl rfl (OpV.move rfl) ?_
  refine Lt.ofWL.or 17 22 21 (p := ?pz4) (rest := ?qz4) (B := ?Bz4) rfl ?Tz4 ?Fz4 ?az4 ?bz4 ?cz4 ?dz4 ?ez4
  case Tz4 =>
    intro hc5 hkz4
    refine Lt.ofWL.skip rfl rfl rfl ?_
    refine Lt.ofWL.skip rfl rfl rfl ?_
    refine Lt.ofWL.skip rfl rfl rfl ?_
    refine Lt.ofWL.skip rfl rfl rfl ?_
    refine hkz4 _ ?_
    repeat (first | exact Sub.refl _ | refine Sub.skip rfl ?_)
  case Fz4 =>
    intro hc6 hkz4
    refine Lt.ofWL.step rfl rfl rfl (OpV.fieldAddr rfl fo_49_2) ?_
    refine Lt.ofWL.step rfl rfl rfl (OpV.loadBox rfl pt_3 (.head _) rfl) ?_
    refine Lt.ofWL.step rfl rfl rfl (OpV.call (evs.cons rfl (evs.cons rfl (evs.cons rfl (evs.nil)))) ca_58 (fun w hs => s_in _ _ _ w)) ?_
    refine Lt.ofWL.step rfl rfl rfl (OpV.not rfl) ?_
    refine hkz4 _ ?_ ?_
    exact rfl
    repeat (first | exact Sub.refl _ | refine Sub.skip rfl ?_)
  case az4 => exact rfl
  case bz4 => exact rfl
  case cz4 => exact rfl
  case dz4 => exact rfl
  refine WL.nil ?_
  refine En.next ?_
  refine WC.cond rfl ?_ ?_
  ·
    intro hc7
    have hres : false = pkOk k v q xs := by unfold pkOk; rw [← hl]; revert hc7; generalize decide (pktLen k n < 0) = p1; generalize inR v 0 255 = p2; generalize inR q 0 15 = p3; generalize dotsOk xs = p4; cases p1 <;> cases p2 <;> cases p3 <;> cases p4 <;> decide
    refine WC.seq ?_
    refine WC.region ?_
    refine Lt.ofWL.step rfl rfl rfl (OpV.assign rfl) ?_
    refine WL.nil ?_
    refine En.next ?_
    refine WC.ret ?_
    refine En.then_ret ?_
    refine En.ret1 rfl (Res.tmp rfl) ?_
    intro w' hs
    exact ⟨congrArg _ (congrArg _ hres), hs.below⟩
  ·
    intro hc7
    have hhead : ∀ p4 : Bool, (!(decide (pktLen k n < 0)) && inR v 0 255 && inR q 0 15 && p4) = p4 := by revert hc7; generalize decide (pktLen k n < 0) = p1; generalize inR v 0 255 = p2; generalize inR q 0 15 = p3; cases p1 <;> cases p2 <;> cases p3 <;> decide
    refine WC.skip ?_
    refine En.next ?_
    refine WC.seq ?_
    refine WC.seq ?_
    refine WC.region ?_
    refine Lt.ofWL.step rfl rfl rfl (OpV.assign rfl) ?_
    refine WL.nil ?_
    refine En.next ?_
    refine WC.block ?_
    refine WC.loop (EI := fun j : Nat => [(1, .pointer (some ⟨b0, 0, none⟩)), (3, .int .i64 j)]) (FI := fun _ => [Chunk.box b0 49 [.int .i64 k, .int .i64 v, .int .i64 q, .slice a n c]]) (PI := fun j => j ≤ n ∧ (xs.take j).all (fun x => inR x 0 262143) = true) (m := fun j => n - j) 0 ⟨Nat.zero_le _, rfl⟩ (Sub.cons rfl (Sub.cons rfl (Sub.nil _))) (fun _ h => h) ?_
    intro j hP
    refine WC.seq ?_
    refine WC.seq ?_
    refine WC.region ?_
    refine Lt.ofWL.step rfl rfl rfl (OpV.move rfl) ?_
    refine Lt.ofWL.step rfl rfl rfl (OpV.fieldAddr rfl fo_49_3) ?_
    refine Lt.ofWL.step rfl rfl rfl (OpV.loadBox rfl pt_44 (.head _) rfl) ?_
    refine Lt.ofWL.step rfl rfl rfl (OpV.len rfl si_44 rfl) ?_
    refine Lt.ofWL.step rfl rfl rfl (OpV.lss rfl rfl) ?_
    refine WL.nil ?_
    refine En.next ?_
    refine WC.cond rfl ?_ ?_
    ·
      intro hc8
      have hlt := of_decide_eq_true hc8
      obtain ⟨b, o, x, rfl, hx, _, hcell⟩ := hr.get (k := j) (by omega)
      refine WC.skip ?_
      refine En.next ?_
      refine WC.seq ?_
      refine WC.block ?_
      refine WC.seq ?_
      refine WC.region ?_
      refine Lt.ofWL.step rfl rfl rfl (OpV.fieldAddr rfl fo_49_3) ?_
      refine Lt.ofWL.step rfl rfl rfl (OpV.loadBox rfl pt_44 (.head _) rfl) ?_
      refine Lt.ofWL.step rfl rfl rfl (OpV.move rfl) ?_
      refine Lt.ofWL.step rfl rfl rfl (OpV.idx1 rfl rfl se_44 (by omega)) ?_
      refine Lt.ofWL.step rfl rfl rfl (OpV.load1 rfl pt_3 (fun w hs => hs.cell hcell)) ?_
      refine Lt.ofWL.step rfl rfl rfl (OpV.call (evs.cons rfl (evs.cons rfl (evs.cons rfl (evs.nil)))) ca_58 (fun w hs => s_in _ _ _ w)) ?_
      refine Lt.ofWL.step rfl rfl rfl (OpV.not rfl) ?_
      refine WL.nil ?_
      refine En.next ?_
      refine WC.cond rfl ?_ ?_
      ·
        intro hc9
        have hres : false = pkOk k v q xs := by unfold pkOk; rw [← hl, hhead]; exact (all_not hx (by simpa using hc9)).symm
        refine WC.seq ?_
        refine WC.region ?_
        refine Lt.ofWL.step rfl rfl rfl (OpV.assign rfl) ?_
        refine WL.nil ?_
        refine En.next ?_
        refine WC.ret ?_
        refine En.block_ret ?_
        refine En.then_ret ?_
        refine En.then_ret ?_
        refine En.block_ret ?_
        refine En.then_ret ?_
        refine En.ret1 rfl (Res.tmp rfl) ?_
        intro w' hs
        exact ⟨congrArg _ (congrArg _ hres), hs.below⟩
      ·
        intro hc9
        have hpx : inR x 0 262143 = true := by simpa using hc9
        refine WC.skip ?_
        refine En.block_norm ?_
        refine En.next ?_
        refine WC.region ?_
        refine Lt.ofWL.step rfl rfl rfl (OpV.move rfl) ?_
        refine Lt.ofWL.step rfl rfl rfl (OpV.add rfl rfl ⟨by omega, by omega⟩) ?_
        refine Lt.ofWL.step rfl rfl rfl (OpV.assign rfl) ?_
        refine WL.nil ?_
        refine En.round (j + 1) (by omega) ⟨by omega, all_take_succ hP.2 hx hpx⟩ (Sub.cons rfl (Sub.cons rfl (Sub.nil _))) (fun _ h => h)
    ·
      intro hc8
      have hge := of_decide_eq_false hc8
      have hk : j = n := by omega
      subst hk
      have hall : dotsOk xs = true := by have := hP.2; rw [hl, List.take_length] at this; exact this
      have hres : true = pkOk k v q xs := by unfold pkOk; rw [← hl, hhead]; exact hall.symm
      refine WC.exit ?_
      refine En.then_exit ?_
      refine En.then_exit ?_
      refine En.block_exit ?_
      refine En.next ?_
      refine WC.seq ?_
      refine WC.region ?_
      refine Lt.ofWL.step rfl rfl rfl (OpV.assign rfl) ?_
      refine WL.nil ?_
      refine En.next ?_
      refine WC.ret ?_
      refine En.ret1 rfl (Res.tmp rfl) ?_
      intro w' hs
      exact ⟨congrArg _ (congrArg _ hres), hs.below⟩

theorem i_PacketOk (k v q : Int) (a : Option Addr) (n c : Nat) (xs : List Int) (w : World) (hr : RdI w a n xs):
    Calls Try.prog 31 #[.agg #[.int .i64 k, .int .i64 v, .int .i64 q, .slice a n c]] w fun en w' => en = .returned (.bool (pkOk k v q xs)) ∧ Ext w w' := by
  have hl := hr.len
  have hb1 := hr.bd
  refine enter (vs := [_]) Try.func31 rfl rfl rfl rfl ?_
  refine WC.seq ?_
  refine WC.region ?_
  refine WL.heavy rfl rfl rfl (OpH.box rfl rfl ?_)
  intro b0
  refine Lt.ofWL.step rfl rfl rfl (OpV.assign rfl) ?_
  refine WL.nil ?_
  refine En.next ?_
  refine WC.seq ?_
  refine WC.seq ?_
  refine WC.region ?_
  refine Lt.ofWL.step rfl rfl rfl (OpV.fieldAddr rfl fo_49_1) ?_
  refine Lt.ofWL.step rfl rfl rfl (OpV.loadBox rfl pt_3 (.head _) rfl) ?_
  refine Lt.ofWL.step rfl rfl rfl (OpV.call (evs.cons rfl (evs.cons rfl (evs.cons rfl (evs.nil)))) ca_56 (fun w hs => i_within _ _ _ w)) ?_
  refine Lt.ofWL.step rfl rfl rfl (OpV.not rfl) ?_
  refine Lt.ofWL.step rfl rfl rfl (OpV.move rfl) ?_
  refine Lt.ofWL.or 7 12 11 (p := ?pz1) (rest := ?qz1) (B := ?Bz1) rfl ?Tz1 ?Fz1 ?az1 ?bz1 ?cz1 ?dz1 ?ez1
  case Tz1 =>
    intro hc2 hkz1
    refine Lt.ofWL.skip rfl rfl rfl ?_
    refine Lt.ofWL.skip rfl rfl rfl ?_
    refine Lt.ofWL.skip rfl rfl rfl ?_
    refine Lt.ofWL.skip rfl rfl rfl ?_
    refine hkz1 _ ?_
    repeat (first | exact Sub.refl _ | refine Sub.skip rfl ?_)
  case Fz1 =>
    intro hc3 hkz1
    refine Lt.ofWL.step rfl rfl rfl (OpV.fieldAddr rfl fo_49_2) ?_
    refine Lt.ofWL.step rfl rfl rfl (OpV.loadBox rfl pt_3 (.head _) rfl) ?_
    refine Lt.ofWL.step rfl rfl rfl (OpV.call (evs.cons rfl (evs.cons rfl (evs.cons rfl (evs.nil)))) ca_56 (fun w hs => i_within _ _ _ w)) ?_
    refine Lt.ofWL.step rfl rfl rfl (OpV.not rfl) ?_
    refine hkz1 _ ?_ ?_
    exact rfl
    repeat (first | exact Sub.refl _ | refine Sub.skip rfl ?_)
  case az1 => exact rfl
  case bz1 => exact rfl
  case cz1 => exact rfl
  case dz1 => exact rfl
  refine Lt.ofWL.step rfl rfl rfl (OpV.move rfl) ?_
  refine Lt.ofWL.or 13 18 17 (p := ?pz4) (rest := ?qz4) (B := ?Bz4) rfl ?Tz4 ?Fz4 ?az4 ?bz4 ?cz4 ?dz4 ?ez4
  case Tz4 =>
    intro hc5 hkz4
    refine Lt.ofWL.skip rfl rfl rfl ?_
    refine Lt.ofWL.skip rfl rfl rfl ?_
    refine Lt.ofWL.skip rfl rfl rfl ?_
    refine Lt.ofWL.skip rfl rfl rfl ?_
    refine hkz4 _ ?_
    repeat (first | exact Sub.refl _ | refine Sub.skip rfl ?_)
  case Fz4 =>
    intro hc6 hkz4
    refine Lt.ofWL.step rfl rfl rfl (OpV.fieldAddr rfl fo_49_3) ?_
    refine Lt.ofWL.step rfl rfl rfl (OpV.loadBox rfl pt_44 (.head _) rfl) ?_
    refine Lt.ofWL.step rfl rfl rfl (OpV.call (evs.cons rfl (evs.nil)) ca_68 (fun w hs => i_areDots _ _ _ _ w (hr.ext hs.below))) ?_
    refine Lt.ofWL.step rfl rfl rfl (OpV.not rfl) ?_
    refine hkz4 _ ?_ ?_
    exact rfl
    repeat (first | exact Sub.refl _ | refine Sub.skip rfl ?_)
  case az4 => exact rfl
  case bz4 => exact rfl
  case cz4 => exact rfl
  case dz4 => exact rfl
  refine WL.nil ?_
  refine En.next ?_
  refine WC.cond rfl ?_ ?_
  ·
    intro hc7
    have hres : false = pkOk k v q xs := by unfold pkOk; rw [← hl]; revert hc7; generalize decide (pktLen k n < 0) = p1; generalize inR v 0 255 = p2; generalize inR q 0 15 = p3; generalize dotsOk xs = p4; cases p1 <;> cases p2 <;> cases p3 <;> cases p4 <;> decide
    refine WC.seq ?_
    refine WC.region ?_
    refine Lt.ofWL.step rfl rfl rfl (OpV.assign rfl) ?_
    refine WL.nil ?_
    refine En.next ?_
    refine WC.ret ?_
    refine En.then_ret ?_
    refine En.ret1 rfl (Res.tmp rfl) ?_
    intro w' hs
    exact ⟨congrArg _ (congrArg _ hres), hs.below⟩
  ·
    intro hc7
    have hres : decide (0 ≤ pktLen k n) = pkOk k v q xs := by unfold pkOk; rw [← hl, not_lt_dec]; revert hc7; generalize decide (0 ≤ pktLen k n) = p1; generalize inR v 0 255 = p2; generalize inR q 0 15 = p3; generalize dotsOk xs = p4; cases p1 <;> cases p2 <;> cases p3 <;> cases p4 <;> decide
    refine WC.skip ?_
    refine En.next ?_
    refine WC.seq ?_
    refine WC.region ?_
    refine Lt.ofWL.step rfl rfl rfl (OpV.fieldAddr rfl fo_49_0) ?_
    refine Lt.ofWL.step rfl rfl rfl (OpV.loadBox rfl pt_3 (.head _) rfl) ?_
    refine Lt.ofWL.step rfl rfl rfl (OpV.fieldAddr rfl fo_49_3) ?_
    refine Lt.ofWL.step rfl rfl rfl (OpV.loadBox rfl pt_44 (.head _) rfl) ?_
    refine Lt.ofWL.step rfl rfl rfl (OpV.len rfl si_44 rfl) ?_
    refine Lt.ofWL.step rfl rfl rfl (OpV.call (evs.cons rfl (evs.cons rfl (evs.nil))) ca_69 (fun w hs => i_PacketLength _ _ w)) ?_
    refine Lt.ofWL.step rfl rfl rfl (OpV.geq rfl rfl) ?_
    refine Lt.ofWL.step rfl rfl rfl (OpV.assign rfl) ?_
    refine WL.nil ?_
    refine En.next ?_
    refine WC.ret ?_
    refine En.ret1 rfl (Res.tmp rfl) ?_
    intro w' hs
    exact ⟨congrArg _ (congrArg _ hres), hs.below⟩

theorem l_toLinePacket (k v q : Int) (a : Option Addr) (n c : Nat) (xs : List Int) (w : World) (hr : RdI w a n xs) (hn : n ≤ 1048576):
    Calls Try.prog 30 #[.agg #[.int .i64 k, .int .i64 v, .int .i64 q, .slice a n c]] w fun en w' => ∃ rv G, en = .returned rv ∧ (∃ (a1 : Option Addr) (c1 : Nat), rv = .agg #[.int .i64 k, .int .i64 v, .int .i64 q, .slice a1 n c1] ∧ G = [Chunk.row 3 1 a1 n c1 (xs.map (Value.int .i64))]) ∧ St w G w' := by
  refine enter (vs := [_]) Try.func30 rfl rfl rfl rfl ?_
  refine WC.seq ?_
  refine WC.region ?_
  refine WL.heavy rfl rfl rfl (OpH.box rfl rfl ?_)
  intro b0
  refine WL.heavy rfl rfl rfl (OpH.alloc zc_49 ?_)
  intro b1
  refine WL.nil ?_
  refine En.next ?_
  refine WC.seq ?_
  refine WC.region ?_
  refine WL.heavy rfl rfl rfl (OpH.alloc zc_49 ?_)
  intro b2
  refine WL.nil ?_
  refine En.next ?_
  refine WC.seq ?_
  refine WC.region ?_
  refine Lt.ofWL.step rfl rfl rfl (OpV.fieldAddr rfl fo_46_0) ?_
  refine Lt.ofWL.step rfl rfl rfl (OpV.loadBox rfl pt_3 (.tail _ (.tail _ (.head _))) rfl) ?_
  refine Lt.ofWL.step rfl rfl rfl (OpV.fieldAddr rfl fo_49_0) ?_
  refine WL.heavy0 rfl rfl (OpH.store (A := []) rfl rfl rfl ts_3 rfl rfl ?_)
  refine WL.nil ?_
  refine En.next ?_
  refine WC.seq ?_
  refine WC.region ?_
  refine Lt.ofWL.step rfl rfl rfl (OpV.fieldAddr rfl fo_46_1) ?_
  refine Lt.ofWL.step rfl rfl rfl (OpV.loadBox rfl pt_3 (.tail _ (.tail _ (.head _))) rfl) ?_
  refine Lt.ofWL.step rfl rfl rfl (OpV.fieldAddr rfl fo_49_1) ?_
  refine WL.heavy0 rfl rfl (OpH.store (A := []) rfl rfl rfl ts_3 rfl rfl ?_)
  refine WL.nil ?_
  refine En.next ?_
  refine WC.seq ?_
  refine WC.region ?_
  refine Lt.ofWL.step rfl rfl rfl (OpV.fieldAddr rfl fo_46_2) ?_
  refine Lt.ofWL.step rfl rfl rfl (OpV.loadBox rfl pt_3 (.tail _ (.tail _ (.head _))) rfl) ?_
  refine Lt.ofWL.step rfl rfl rfl (OpV.fieldAddr rfl fo_49_2) ?_
  refine WL.heavy0 rfl rfl (OpH.store (A := []) rfl rfl rfl ts_3 rfl rfl ?_)
  refine WL.nil ?_
  refine En.next ?_
  refine WC.seq ?_
  refine WC.region ?_
  refine Lt.ofWL.step rfl rfl rfl (OpV.fieldAddr rfl fo_46_3) ?_
  refine Lt.ofWL.step rfl rfl rfl (OpV.loadBox rfl pt_44 (.tail _ (.tail _ (.head _))) rfl) ?_
  refine WL.heavy rfl rfl rfl (OpH.callR (evs.cons rfl (evs.nil)) ca_67 (fun w hs => l_toIntS _ _ _ _ w (hr.ext hs.below) (by omega)) ?_)
  rintro _ _ ⟨a11, c11, rfl, rfl⟩
  refine Lt.ofWL.step rfl rfl rfl (OpV.fieldAddr rfl fo_49_3) ?_
  refine WL.heavy0 rfl rfl (OpH.store (A := [_]) rfl rfl rfl ts_44 rfl rfl ?_)
  refine WL.nil ?_
  refine En.next ?_
  refine WC.seq ?_
  refine WC.region ?_
  refine Lt.ofWL.step rfl rfl rfl (OpV.loadAll rfl (.tail _ (.head _)) ag_49) ?_
  refine WL.heavy0 rfl rfl (OpH.store (A := [_, _]) rfl rfl rfl ts_49 rfl rfl ?_)
  refine WL.nil ?_
  refine En.next ?_
  refine WC.ret ?_
  refine En.ret1 rfl (Res.cell rfl (.tail _ (.tail _ (.head _))) ag_49) ?_
  intro w' hs
  exact ⟨_, _, rfl, ⟨_, _, rfl, rfl⟩, hs.sub (.cons_cons _ (.cons _ (.cons _ (.cons _ (.slnil)))))⟩

theorem l_eqLinePacket (k v q : Int) (a : Option Addr) (n c : Nat) (xs : List Int) (k2 v2 q2 : Int) (a2 : Option Addr) (n2 c2 : Nat) (ys : List Int) (w : World) (hr : RdI w a n xs) (hq : RdI w a2 n2 ys):
    Calls Try.prog 32 #[.agg #[.int .i64 k, .int .i64 v, .int .i64 q, .slice a n c], .agg #[.int .i64 k2, .int .i64 v2, .int .i64 q2, .slice a2 n2 c2]] w fun en w' => en = .returned (.bool (eqPk k v q xs k2 v2 q2 ys)) ∧ Ext w w' := by
  refine enter (vs := [_, _]) Try.func32 rfl rfl rfl rfl ?_
  refine WC.seq ?_
  refine WC.region ?_
  refine WL.heavy rfl rfl rfl (OpH.box rfl rfl ?_)
  intro b0
  refine WL.heavy rfl rfl rfl (OpH.box rfl rfl ?_)
  intro b1
  refine Lt.ofWL.step rfl rfl rfl (OpV.assign rfl) ?_
  refine WL.nil ?_
  refine En.next ?_
  refine WC.seq ?_
  refine WC.seq ?_
  refine WC.region ?_
  refine Lt.ofWL.step rfl rfl rfl (OpV.fieldAddr rfl fo_49_0) ?_
  refine Lt.ofWL.step rfl rfl rfl (OpV.loadBox rfl pt_3 (.tail _ (.head _)) rfl) ?_
  refine Lt.ofWL.step rfl rfl rfl (OpV.fieldAddr rfl fo_49_0) ?_
  refine Lt.ofWL.step rfl rfl rfl (OpV.loadBox rfl pt_3 (.head _) rfl) ?_
  refine Lt.ofWL.step rfl rfl rfl (OpV.neq rfl rfl) ?_
  refine WL.nil ?_
  refine En.next ?_
  refine WC.cond rfl ?_ ?_
  ·
    intro hc1
    refine WC.seq ?_
    refine WC.region ?_
    refine Lt.ofWL.step rfl rfl rfl (OpV.assign rfl) ?_
    refine WL.nil ?_
    refine En.next ?_
    refine WC.ret ?_
    refine En.then_ret ?_
    refine En.ret1 rfl (Res.tmp rfl) ?_
    intro w' hs
    refine ⟨congrArg _ (congrArg _ ?_), hs.below⟩
    simp at hc1
    simp [eqPk, *]
  ·
    intro hc1
    refine WC.skip ?_
    refine En.next ?_
    refine WC.seq ?_
    refine WC.seq ?_
    refine WC.region ?_
    refine Lt.ofWL.step rfl rfl rfl (OpV.fieldAddr rfl fo_49_1) ?_
    refine Lt.ofWL.step rfl rfl rfl (OpV.loadBox rfl pt_3 (.tail _ (.head _)) rfl) ?_
    refine Lt.ofWL.step rfl rfl rfl (OpV.fieldAddr rfl fo_49_1) ?_
    refine Lt.ofWL.step rfl rfl rfl (OpV.loadBox rfl pt_3 (.head _) rfl) ?_
    refine Lt.ofWL.step rfl rfl rfl (OpV.neq rfl rfl) ?_
    refine WL.nil ?_
    refine En.next ?_
    refine WC.cond rfl ?_ ?_
    ·
      intro hc2
      refine WC.seq ?_
      refine WC.region ?_
      refine Lt.ofWL.step rfl rfl rfl (OpV.assign rfl) ?_
      refine WL.nil ?_
      refine En.next ?_
      refine WC.ret ?_
      refine En.then_ret ?_
      refine En.ret1 rfl (Res.tmp rfl) ?_
      intro w' hs
      refine ⟨congrArg _ (congrArg _ ?_), hs.below⟩
      simp at hc1 hc2
      simp [eqPk, *]
    ·
      intro hc2
      refine WC.skip ?_
      refine En.next ?_
      refine WC.seq ?_
      refine WC.seq ?_
      refine WC.region ?_
      refine Lt.ofWL.step rfl rfl rfl (OpV.fieldAddr rfl fo_49_2) ?_
      refine Lt.ofWL.step rfl rfl rfl (OpV.loadBox rfl pt_3 (.tail _ (.head _)) rfl) ?_
      refine Lt.ofWL.step rfl rfl rfl (OpV.fieldAddr rfl fo_49_2) ?_
      refine Lt.ofWL.step rfl rfl rfl (OpV.loadBox rfl pt_3 (.head _) rfl) ?_
      refine Lt.ofWL.step rfl rfl rfl (OpV.neq rfl rfl) ?_
      refine WL.nil ?_
      refine En.next ?_
      refine WC.cond rfl ?_ ?_
      ·
        intro hc3
        refine WC.seq ?_
        refine WC.region ?_
        refine Lt.ofWL.step rfl rfl rfl (OpV.assign rfl) ?_
        refine WL.nil ?_
        refine En.next ?_
        refine WC.ret ?_
        refine En.then_ret ?_
        refine En.ret1 rfl (Res.tmp rfl) ?_
        intro w' hs
        refine ⟨congrArg _ (congrArg _ ?_), hs.below⟩
        simp at hc1 hc2 hc3
        simp [eqPk, *]
      ·
        intro hc3
        refine WC.skip ?_
        refine En.next ?_
        refine WC.seq ?_
        refine WC.seq ?_
        refine WC.region ?_
        refine Lt.ofWL.step rfl rfl rfl (OpV.fieldAddr rfl fo_49_3) ?_
        refine Lt.ofWL.step rfl rfl rfl (OpV.loadBox rfl pt_44 (.tail _ (.head _)) rfl) ?_
        refine Lt.ofWL.step rfl rfl rfl (OpV.fieldAddr rfl fo_49_3) ?_
        refine Lt.ofWL.step rfl rfl rfl (OpV.loadBox rfl pt_44 (.head _) rfl) ?_
        refine Lt.ofWL.step rfl rfl rfl (OpV.call (evs.cons rfl (evs.cons rfl (evs.nil))) ca_70 (fun w hs => l_eqIntS _ _ _ _ _ _ _ _ w (hr.ext hs.below) (hq.ext hs.below))) ?_
        refine Lt.ofWL.step rfl rfl rfl (OpV.not rfl) ?_
        refine WL.nil ?_
        refine En.next ?_
        refine WC.cond rfl ?_ ?_
        ·
          intro hc4
          refine WC.seq ?_
          refine WC.region ?_
          refine Lt.ofWL.step rfl rfl rfl (OpV.assign rfl) ?_
          refine WL.nil ?_
          refine En.next ?_
          refine WC.ret ?_
          refine En.then_ret ?_
          refine En.ret1 rfl (Res.tmp rfl) ?_
          intro w' hs
          refine ⟨congrArg _ (congrArg _ ?_), hs.below⟩
          simp at hc1 hc2 hc3 hc4
          simp [eqPk, *]
        ·
          intro hc4
          refine WC.skip ?_
          refine En.next ?_
          refine WC.seq ?_
          refine WC.region ?_
          refine Lt.ofWL.step rfl rfl rfl (OpV.assign rfl) ?_
          refine WL.nil ?_
          refine En.next ?_
          refine WC.ret ?_
          refine En.ret1 rfl (Res.tmp rfl) ?_
          intro w' hs
          refine ⟨congrArg _ (congrArg _ ?_), hs.below⟩
          simp at hc1 hc2 hc3 hc4
          simp [eqPk, *]

theorem w_PacketOk (k v q : Int) (a : Option Addr) (n c : Nat) (xs : List Int) (w : World) (hr : RdI w a n xs):
    Calls Try.prog 6 #[.agg #[.int .i64 k, .int .i64 v, .int .i64 q, .slice a n c]] w fun en w' => en = .returned (.bool true) ∧ Ext w w' := by
  have hbd := hr.bd
  refine enter (vs := [_]) Try.func6 rfl rfl rfl rfl ?_
  refine WC.seq ?_
  refine WC.region ?_
  refine WL.heavy rfl rfl rfl (OpH.box rfl rfl ?_)
  intro b0
  refine Lt.ofWL.step rfl rfl rfl (OpV.assign rfl) ?_
  refine WL.nil ?_
  refine En.next ?_
  refine WC.seq ?_
  refine WC.region ?_
  refine Lt.ofWL.step rfl rfl rfl (OpV.assign rfl) ?_
  refine WL.nil ?_
  refine En.next ?_
  refine WC.seq ?_
  refine WC.region ?_
  refine Lt.ofWL.step rfl rfl rfl (OpV.loadAll rfl (.head _) ag_46) ?_
  refine Lt.ofWL.step rfl rfl rfl (OpV.move rfl) ?_
  refine Lt.ofWL.step rfl rfl rfl (OpV.call (evs.cons rfl (evs.cons rfl (evs.nil))) ca_28 (fun w hs => l_szLinePacket _ _ _ _ _ _ _ w ⟨by omega, by omega⟩ (by omega))) ?_
  refine Lt.ofWL.step rfl rfl rfl (OpV.assign rfl) ?_
  refine WL.nil ?_
  refine En.next ?_
  refine WC.seq ?_
  refine WC.seq ?_
  refine WC.region ?_
  refine Lt.ofWL.step rfl rfl rfl (OpV.move rfl) ?_
  refine Lt.ofWL.step rfl rfl rfl (OpV.lss rfl rfl) ?_
  refine WL.nil ?_
  refine En.next ?_
  refine WC.cond rfl ?_ ?_
  ·
    intro hc1
    refine WC.seq ?_
    refine WC.region ?_
    refine Lt.ofWL.step rfl rfl rfl (OpV.assign rfl) ?_
    refine WL.nil ?_
    refine En.next ?_
    refine WC.ret ?_
    refine En.then_ret ?_
    refine En.ret1 rfl (Res.tmp rfl) ?_
    intro w' hs
    first
      | exact ⟨rfl, hs.below⟩
      | (exfalso; simp at hc1; done)
      | (exfalso; simp [eqPk_self] at hc1)
  ·
    intro hc1
    have hn := szs_le (of_decide_eq_false hc1)
    refine WC.skip ?_
    refine En.next ?_
    refine WC.seq ?_
    refine WC.region ?_
    refine Lt.ofWL.step rfl rfl rfl (OpV.loadAll rfl (.head _) ag_46) ?_
    refine WL.heavy rfl rfl rfl (OpH.callR (evs.cons rfl (evs.nil)) ca_30 (fun w hs => l_toLinePacket _ _ _ _ _ _ _ w (hr.ext hs.below) (by omega)) ?_)
    rintro _ _ ⟨a12, c12, rfl, rfl⟩
    refine Lt.ofWL.step rfl rfl rfl (OpV.call (evs.cons rfl (evs.nil)) ca_29 (fun w hs => s_PacketOk _ _ _ _ _ _ _ w (RdI.row (hs.mem (.head _)) hr.rng))) ?_
    refine Lt.ofWL.step rfl rfl rfl (OpV.assign rfl) ?_
    refine WL.nil ?_
    refine En.next ?_
    refine WC.seq ?_
    refine WC.region ?_
    refine Lt.ofWL.step rfl rfl rfl (OpV.loadAll rfl (.tail _ (.head _)) ag_46) ?_
    refine WL.heavy rfl rfl rfl (OpH.callR (evs.cons rfl (evs.nil)) ca_30 (fun w hs => l_toLinePacket _ _ _ _ _ _ _ w (hr.ext hs.below) (by omega)) ?_)
    rintro _ _ ⟨a13, c13, rfl, rfl⟩
    refine WL.heavy rfl rfl rfl (OpH.alloc zc_49 ?_)
    intro b3
    refine WL.heavy0 rfl rfl (OpH.store (A := []) rfl rfl rfl ts_49 rfl rfl ?_)
    refine WL.nil ?_
    refine En.next ?_
    refine WC.seq ?_
    refine WC.region ?_
    refine Lt.ofWL.step rfl rfl rfl (OpV.loadAll rfl (.head _) ag_49) ?_
    refine Lt.ofWL.step rfl rfl rfl (OpV.call (evs.cons rfl (evs.nil)) ca_31 (fun w hs => i_PacketOk _ _ _ _ _ _ _ w (RdI.row (hs.mem (.tail _ (.head _))) hr.rng))) ?_
    refine Lt.ofWL.step rfl rfl rfl (OpV.assign rfl) ?_
    refine WL.nil ?_
    refine En.next ?_
    refine WC.seq ?_
    refine WC.seq ?_
    refine WC.region ?_
    refine Lt.ofWL.step rfl rfl rfl (OpV.move rfl) ?_
    refine Lt.ofWL.step rfl rfl rfl (OpV.move rfl) ?_
    refine Lt.ofWL.step rfl rfl rfl (OpV.bneq rfl rfl ub_4) ?_
    refine WL.nil ?_
    refine En.next ?_
    refine WC.cond rfl ?_ ?_
    ·
      intro hc4
      refine WC.seq ?_
      refine WC.region ?_
      refine Lt.ofWL.step rfl rfl rfl (OpV.assign rfl) ?_
      refine WL.nil ?_
      refine En.next ?_
      refine WC.ret ?_
      refine En.then_ret ?_
      refine En.ret1 rfl (Res.tmp rfl) ?_
      intro w' hs
      first
        | exact ⟨rfl, hs.below⟩
        | (exfalso; simp at hc4; done)
        | (exfalso; simp [eqPk_self] at hc4)
    ·
      intro hc4
      refine WC.skip ?_
      refine En.next ?_
      refine WC.seq ?_
      refine WC.seq ?_
      refine WC.drawnH [] ([_, _, _, _]) (fun _ h => h) (by kernel_rfl) ?_
      refine WAE.take (i := 0) rfl (by kernel_rfl) (by kernel_rfl) (by kernel_rfl) rfl rfl rfl (OpV.loadAll rfl (.head _) ag_49) ?_
      refine WAE.take (i := 1) rfl (by kernel_rfl) (by kernel_rfl) (by kernel_rfl) rfl rfl rfl (OpV.loadAll rfl (.tail _ (.tail _ (.tail _ (.head _)))) ag_46) ?_
      refine WAE.all (rs := [2]) (by kernel_rfl) rfl (AllR.cons rfl rfl rfl rfl ?_ AllR.nil)
      refine OpH.callR (evs.cons rfl (evs.nil)) ca_30 (fun w hs => l_toLinePacket _ _ _ _ _ _ _ w (hr.ext hs.below) (by omega)) ?_
      rintro _ _ ⟨a15, c15, rfl, rfl⟩
      refine ⟨[_], rfl, ?_⟩
      refine WAE.rebase (H := []) ?_
      refine WAE.take (i := 3) rfl (by kernel_rfl) (by kernel_rfl) (by kernel_rfl) rfl rfl rfl (OpV.call (evs.cons rfl (evs.cons rfl (evs.nil))) ca_32 (fun w hs => l_eqLinePacket _ _ _ _ _ _ _ _ _ _ _ _ _ _ w (RdI.row (hs.mem (.tail _ (.tail _ (.head _)))) hr.rng) (RdI.row (hs.mem (.head _)) hr.rng))) ?_
      refine WAE.take (i := 4) rfl (by kernel_rfl) (by kernel_rfl) (by kernel_rfl) rfl rfl rfl (OpV.not rfl) ?_
      refine WAE.done (by kernel_rfl) ?_ _
      refine En.next ?_
      refine WC.cond rfl ?_ ?_
      ·
        intro hc6
        refine WC.seq ?_
        refine WC.region ?_
        refine Lt.ofWL.step rfl rfl rfl (OpV.assign rfl) ?_
        refine WL.nil ?_
        refine En.next ?_
        refine WC.ret ?_
        refine En.then_ret ?_
        refine En.ret1 rfl (Res.tmp rfl) ?_
        intro w' hs
        first
          | exact ⟨rfl, hs.below⟩
          | (exfalso; simp at hc6; done)
          | (exfalso; simp [eqPk_self] at hc6)
      ·
        intro hc6
        refine WC.skip ?_
        refine En.next ?_
        refine WC.seq ?_
        refine WC.region ?_
        refine Lt.ofWL.step rfl rfl rfl (OpV.assign rfl) ?_
        refine WL.nil ?_
        refine En.next ?_
        refine WC.ret ?_
        refine En.ret1 rfl (Res.tmp rfl) ?_
        intro w' hs
        first
          | exact ⟨rfl, hs.below⟩
          | (exfalso; simp at hc6; done)
          | (exfalso; simp [eqPk_self] at hc6)

end Go.Proofs.Ytbcaoilghmcaeaa
