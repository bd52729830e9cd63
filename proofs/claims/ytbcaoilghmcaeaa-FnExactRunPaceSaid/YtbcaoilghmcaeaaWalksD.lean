/- Paces, moved on: each call returns what a plain function computes. -/
import Derived.Test.YtbcaoilghmcaeaaWalksC
import Derived.Test.YtbcaoilghmcaeaaMut
namespace Go.Proofs.Ytbcaoilghmcaeaa
open Go.RowKit K

set_option maxRecDepth 100000
set_option maxHeartbeats 2000000

def nextI (m0 m1 m2 m3 m4 m5 m6 m7 m8 e l : Int) (xs : List Int) (p q : Bool) : Int × List Int × Bool :=
  if (decide (IntKind.i64.wrap (l + 1) < longW m0 m1 m2 m3 m4 m5 m6 m7 m8 e) && (decide (IntKind.i64.wrap (l + 1) < shortW m0 m1 m2 m3 m4 m5 m6 m7 m8) || (!p && q))) = true then (IntKind.i64.wrap (l + 1), xs, false) else (0, xs ++ [IntKind.i64.wrap (l + 1)], true)
def nextL (m0 m1 m2 m3 m4 m5 m6 m7 m8 e l : Int) (xs : List Int) (p q : Bool) : Int × List Int × Bool :=
  if paceOk m0 m1 m2 m3 m4 m5 m6 m7 m8 e l xs = true then nextI m0 m1 m2 m3 m4 m5 m6 m7 m8 e l xs p q else (l, xs, false)
theorem paceOk_bounds {m0 m1 m2 m3 m4 m5 m6 m7 m8 e l : Int} {xs : List Int} (h : paceOk m0 m1 m2 m3 m4 m5 m6 m7 m8 e l xs = true) : (0 ≤ l ∧ l + 1 ≤ longW m0 m1 m2 m3 m4 m5 m6 m7 m8 e) ∧ xs.length ≤ 1000 ∧ longW m0 m1 m2 m3 m4 m5 m6 m7 m8 e ≤ 400 := by
  unfold paceOk paceHead at h
  simp only [Bool.and_eq_true, inR_iff, decide_eq_true_eq] at h
  obtain ⟨⟨⟨⟨h1, h2⟩, h3⟩, h4⟩, _⟩ := h
  have hb := modeOk_bounds h1
  have hs : shortW m0 m1 m2 m3 m4 m5 m6 m7 m8 = m5 + (m6 + m7 + m8) := by unfold shortW blankLines; rw [if_pos h1]; exact I64.wrap ⟨by omega, by omega⟩
  have hlw : longW m0 m1 m2 m3 m4 m5 m6 m7 m8 e = m5 + (m6 + m7 + m8) + e := by unfold longW; rw [hs]; exact I64.wrap ⟨by omega, by omega⟩
  rw [hlw] at h3 ⊢
  rw [I64.wrap ⟨by omega, by omega⟩] at h3
  exact ⟨⟨by omega, by omega⟩, by omega, by omega⟩
theorem fires_eq {m0 m1 m2 m3 m4 m5 m6 m7 m8 e l : Int} {xs : List Int} (h : paceOk m0 m1 m2 m3 m4 m5 m6 m7 m8 e l xs = true) (p q : Bool) :
    (!((decide (shortF m0 m1 m2 m3 m4 m5 m6 m7 m8 e l xs ≤ IntKind.i64.wrap (l + 1)) && (p || !q)) || decide (IntKind.i64.wrap (l + 1) = longF m0 m1 m2 m3 m4 m5 m6 m7 m8 e l xs))) = (decide (IntKind.i64.wrap (l + 1) < longW m0 m1 m2 m3 m4 m5 m6 m7 m8 e) && (decide (IntKind.i64.wrap (l + 1) < shortW m0 m1 m2 m3 m4 m5 m6 m7 m8) || (!p && q))) := by
  have hb := paceOk_bounds h
  unfold shortF longF
  rw [if_pos h, if_pos h, I64.wrap (n := l + 1) ⟨by omega, by omega⟩]
  have e1 : decide (shortW m0 m1 m2 m3 m4 m5 m6 m7 m8 ≤ l + 1) = !decide (l + 1 < shortW m0 m1 m2 m3 m4 m5 m6 m7 m8) := by rw [← decide_not]; exact decide_eq_decide.2 ⟨fun _ => by omega, fun _ => by omega⟩
  have e2 : decide (l + 1 = longW m0 m1 m2 m3 m4 m5 m6 m7 m8 e) = !decide (l + 1 < longW m0 m1 m2 m3 m4 m5 m6 m7 m8 e) := by rw [← decide_not]; exact decide_eq_decide.2 ⟨fun _ => by omega, fun _ => by omega⟩
  rw [e1, e2]
  generalize decide (l + 1 < shortW m0 m1 m2 m3 m4 m5 m6 m7 m8) = b1
  generalize decide (l + 1 < longW m0 m1 m2 m3 m4 m5 m6 m7 m8 e) = b2
  cases b1 <;> cases b2 <;> cases p <;> cases q <;> rfl
theorem nextI_rng {m0 m1 m2 m3 m4 m5 m6 m7 m8 e l : Int} {xs : List Int} (hr : ∀ x ∈ xs, I64 x) (p q : Bool) : ∀ x ∈ (nextI m0 m1 m2 m3 m4 m5 m6 m7 m8 e l xs p q).2.1, I64 x := by
  unfold nextI
  split
  · exact hr
  · intro x hx
    rcases List.mem_append.1 hx with h | h
    · exact hr x h
    · rcases List.mem_singleton.1 h with rfl
      rw [IntKind.wrap_i64]; constructor <;> omega
theorem nextL_rng {m0 m1 m2 m3 m4 m5 m6 m7 m8 e l : Int} {xs : List Int} (hr : ∀ x ∈ xs, I64 x) (p q : Bool) : ∀ x ∈ (nextL m0 m1 m2 m3 m4 m5 m6 m7 m8 e l xs p q).2.1, I64 x := by
  unfold nextL
  split
  · exact nextI_rng hr p q
  · exact hr
theorem wrap_rng (n : Int) : ∀ x ∈ [IntKind.i64.wrap n], I64 x := fun x hx => by
  rcases List.mem_singleton.1 hx with rfl
  rw [IntKind.wrap_i64]; constructor <;> omega

theorem K.RdI.isNil {w : World} {a : Option Addr} {n : Nat} {xs : List Int} (hr : RdI w a n xs) (h : a.isNone = true) : a = .none ∧ n = 0 ∧ xs = [] := by
  cases a with
  | some p => cases h
  | none =>
    have : xs = [] := by
      cases xs with
      | nil => rfl
      | cons x r => obtain ⟨_, b, o, e, _⟩ := hr.at_ 0 x rfl; cases e
    subst this
    exact ⟨rfl, by have := hr.len; simpa using this, rfl⟩

theorem K.row_bd {T m c : Nat} {a : Option Addr} {vs : List Value} {w : World} (h : RowA T 1 a m c vs w) : m ≤ 9223372036854775807 := by
  rcases h.2 with ⟨_, rfl, _⟩ | ⟨g, sp, _, _, h2, h3, _⟩
  · omega
  · unfold maxLen at h3; omega
theorem cnt_pos {n : Nat} (h : n ≤ 4000000000) : ¬ cnt 1 n < 0 := by rw [cnt_eq 1 (by decide) n (by omega)]; omega

def heldN (v : Int) (xs : List Int) : Int := if held v xs < 0 then -1 else held v xs
theorem heldN_marked {n : Nat} (h : n ≤ 4000000000) : heldN 1 (marked 1 n) = cnt 1 n := by
  unfold heldN
  rw [held_marked, if_neg (cnt_pos h)]

theorem nextL_len (m0 m1 m2 m3 m4 m5 m6 m7 m8 e l : Int) (xs : List Int) (p q : Bool) (h : xs.length ≤ 3000000000) : (nextL m0 m1 m2 m3 m4 m5 m6 m7 m8 e l xs p q).2.1.length ≤ 4000000000 := by
  unfold nextL nextI
  split
  · split
    · dsimp only; omega
    · dsimp only; rw [List.length_append]; simp; omega
  · dsimp only; omega

theorem bs_44_0_ : builtSlice Try.prog 44 0 [] = some (3, []) := by kernel_rfl
theorem ca_90 : callable Try.prog 90 = true := by kernel_rfl
theorem ca_81 : callable Try.prog 81 = true := by kernel_rfl
theorem bs_44_1_0 : ∀ (x0 : Int), builtSlice Try.prog 44 1 [(0, .int .i64 x0)] = some (3, [.int .i64 x0]) := fun _ => by kernel_rfl
theorem ca_76 : callable Try.prog 76 = true := by kernel_rfl
theorem ca_77 : callable Try.prog 77 = true := by kernel_rfl
theorem ca_82 : callable Try.prog 82 = true := by kernel_rfl
theorem ca_83 : callable Try.prog 83 = true := by kernel_rfl
theorem ca_47 : callable Try.prog 47 = true := by kernel_rfl
theorem ca_48 : callable Try.prog 48 = true := by kernel_rfl
theorem ca_49 : callable Try.prog 49 = true := by kernel_rfl
theorem ca_50 : callable Try.prog 50 = true := by kernel_rfl

theorem s_copy (m0 m1 m2 m3 m4 m5 m6 m7 m8 e l : Int) (a : Option Addr) (n c : Nat) (xs : List Int) (w : World) (hr : RdI w a n xs) (hn : n ≤ 1000000000):
    Calls Try.prog 81 #[.agg #[.int .i64 m0, .int .i64 m1, .int .i64 m2, .int .i64 m3, .int .i64 m4, .int .i64 m5, .int .i64 m6, .int .i64 m7, .int .i64 m8, .int .i64 e, .int .i64 l, .slice a n c]] w fun en w' => ∃ rv G, en = .returned rv ∧ (∃ (a1 : Option Addr) (c1 : Nat), rv = .agg #[.int .i64 m0, .int .i64 m1, .int .i64 m2, .int .i64 m3, .int .i64 m4, .int .i64 m5, .int .i64 m6, .int .i64 m7, .int .i64 m8, .int .i64 e, .int .i64 l, .slice a1 n c1] ∧ G = [Chunk.row 3 1 a1 n c1 (xs.map (Value.int .i64))]) ∧ St w G w' := by
  have hl := hr.len
  have hb1 := hr.bd
  refine enter (vs := [_]) Try.func81 rfl rfl rfl rfl ?_
  refine WC.seq ?_
  refine WC.region ?_
  refine WL.heavy rfl rfl rfl (OpH.box rfl rfl ?_)
  intro b0
  refine WL.heavy rfl rfl rfl (OpH.alloc zc_54 ?_)
  intro b1
  refine WL.nil ?_
  refine En.next ?_
  refine WC.seq ?_
  refine WC.region ?_
  refine WL.heavy rfl rfl rfl (OpH.buildSlice (evps.nil) bs_44_0_ ?_)
  intro b2
  refine Lt.ofWL.step rfl rfl rfl (OpV.fieldAddr rfl fo_54_3) ?_
  refine Lt.ofWL.step rfl rfl rfl (OpV.loadBox rfl pt_44 (.tail _ (.tail _ (.head _))) rfl) ?_
  refine WL.heavy rfl rfl rfl (OpH.append0 (A := []) rfl rfl rfl mi_44 (by decide) (by simp [*]) ints_one (fun w hs => CellsAt.ints (hr.ext hs.below)) (by omega) (by omega) ?_)
  intro a1 c2
  refine Lt.ofWL.step rfl rfl rfl (OpV.fieldAddr rfl fo_54_3) ?_
  refine WL.heavy0 rfl rfl (OpH.storeTo (A := [_, _]) [_, _, _, _, _, _, _, _, _, _, _, _] rfl rfl rfl ts_44 rfl rfl rfl ?_)
  refine WL.nil ?_
  refine En.next ?_
  refine WC.seq ?_
  refine WC.region ?_
  refine Lt.ofWL.step rfl rfl rfl (OpV.loadAll rfl (.tail _ (.tail _ (.head _))) ag_54) ?_
  refine WL.heavy0 rfl rfl (OpH.storeTo (A := [_]) [_, _, _, _, _, _, _, _, _, _, _, _] rfl rfl rfl ts_54 rfl rfl rfl ?_)
  refine WL.nil ?_
  refine En.next ?_
  refine WC.ret ?_
  refine En.ret1 rfl (Res.cell rfl (.tail _ (.head _)) ag_54) ?_
  intro w' hs
  exact ⟨_, _, rfl, ⟨_, _, rfl, rfl⟩, hs.sub (.cons_cons _ (.cons _ (.cons _ (.slnil))))⟩

theorem i_clone (a : Option Addr) (n c : Nat) (xs : List Int) (w : World) (hr : RdI w a n xs) (hn : n ≤ 1000000000):
    Calls Try.prog 90 #[.slice a n c] w fun en w' => ∃ rv G, en = .returned rv ∧ (∃ (a1 : Option Addr) (c1 : Nat), rv = .slice a1 n c1 ∧ G = [Chunk.row 3 1 a1 n c1 (xs.map (Value.int .i64))]) ∧ St w G w' := by
  have hl := hr.len
  refine enter (vs := [_]) Try.func90 rfl rfl rfl rfl ?_
  refine WC.seq ?_
  refine WC.region ?_
  refine Lt.ofWL.step rfl rfl rfl (OpV.assign rfl) ?_
  refine WL.nil ?_
  refine En.next ?_
  refine WC.seq ?_
  refine WC.seq ?_
  refine WC.region ?_
  refine Lt.ofWL.step rfl rfl rfl (OpV.move rfl) ?_
  refine Lt.ofWL.step rfl rfl rfl (OpV.eqNil rfl si_44) ?_
  refine WL.nil ?_
  refine En.next ?_
  refine WC.cond rfl ?_ ?_
  ·
    intro hc1
    obtain ⟨rfl, rfl, rfl⟩ : a = .none ∧ n = 0 ∧ xs = [] := hr.isNil hc1
    refine WC.seq ?_
    refine WC.region ?_
    refine Lt.ofWL.step rfl rfl rfl (OpV.assign rfl) ?_
    refine WL.nil ?_
    refine En.next ?_
    refine WC.ret ?_
    refine En.then_ret ?_
    refine En.ret1 rfl (Res.tmp rfl) ?_
    intro w' hs
    exact ⟨_, _, rfl, ⟨.none, 0, rfl, rfl⟩, hs.nilRow⟩
  ·
    intro hc1
    refine WC.skip ?_
    refine En.next ?_
    refine WC.seq ?_
    refine WC.region ?_
    refine WL.heavy rfl rfl rfl (OpH.buildSlice (evps.nil) bs_44_0_ ?_)
    intro b0
    refine Lt.ofWL.step rfl rfl rfl (OpV.move rfl) ?_
    refine WL.heavy rfl rfl rfl (OpH.append0 (A := []) rfl rfl rfl mi_44 (by decide) (by simp [*]) ints_one (fun w hs => CellsAt.ints (hr.ext hs.below)) (by omega) (by omega) ?_)
    intro a2 c3
    refine Lt.ofWL.step rfl rfl rfl (OpV.assign rfl) ?_
    refine WL.nil ?_
    refine En.next ?_
    refine WC.ret ?_
    refine En.ret1 rfl (Res.tmp rfl) ?_
    intro w' hs
    exact ⟨_, _, rfl, ⟨_, _, rfl, rfl⟩, hs⟩

theorem i_copy (m0 m1 m2 m3 m4 m5 m6 m7 m8 e l : Int) (a : Option Addr) (n c : Nat) (xs : List Int) (w : World) (hr : RdI w a n xs) (hn : n ≤ 1000000000):
    Calls Try.prog 76 #[.agg #[.int .i64 m0, .int .i64 m1, .int .i64 m2, .int .i64 m3, .int .i64 m4, .int .i64 m5, .int .i64 m6, .int .i64 m7, .int .i64 m8, .int .i64 e, .int .i64 l, .slice a n c]] w fun en w' => ∃ rv G, en = .returned rv ∧ (∃ (a1 : Option Addr) (c1 : Nat), rv = .agg #[.int .i64 m0, .int .i64 m1, .int .i64 m2, .int .i64 m3, .int .i64 m4, .int .i64 m5, .int .i64 m6, .int .i64 m7, .int .i64 m8, .int .i64 e, .int .i64 l, .slice a1 n c1] ∧ G = [Chunk.row 3 1 a1 n c1 (xs.map (Value.int .i64))]) ∧ St w G w' := by
  have hl := hr.len
  have hb1 := hr.bd
  refine enter (vs := [_]) Try.func76 rfl rfl rfl rfl ?_
  refine WC.seq ?_
  refine WC.region ?_
  refine WL.heavy rfl rfl rfl (OpH.box rfl rfl ?_)
  intro b0
  refine WL.heavy rfl rfl rfl (OpH.alloc zc_54 ?_)
  intro b1
  refine WL.nil ?_
  refine En.next ?_
  refine WC.seq ?_
  refine WC.region ?_
  refine Lt.ofWL.step rfl rfl rfl (OpV.fieldAddr rfl fo_54_3) ?_
  refine Lt.ofWL.step rfl rfl rfl (OpV.loadBox rfl pt_44 (.tail _ (.head _)) rfl) ?_
  refine WL.heavy rfl rfl rfl (OpH.callR (evs.cons rfl (evs.nil)) ca_90 (fun w hs => i_clone _ _ _ _ w (hr.ext hs.below) (by omega)) ?_)
  rintro _ _ ⟨a11, c11, rfl, rfl⟩
  refine Lt.ofWL.step rfl rfl rfl (OpV.fieldAddr rfl fo_54_3) ?_
  refine WL.heavy0 rfl rfl (OpH.storeTo (A := [_, _]) [_, _, _, _, _, _, _, _, _, _, _, _] rfl rfl rfl ts_44 rfl rfl rfl ?_)
  refine WL.nil ?_
  refine En.next ?_
  refine WC.seq ?_
  refine WC.region ?_
  refine Lt.ofWL.step rfl rfl rfl (OpV.loadAll rfl (.tail _ (.tail _ (.head _))) ag_54) ?_
  refine WL.heavy0 rfl rfl (OpH.storeTo (A := [_]) [_, _, _, _, _, _, _, _, _, _, _, _] rfl rfl rfl ts_54 rfl rfl rfl ?_)
  refine WL.nil ?_
  refine En.next ?_
  refine WC.ret ?_
  refine En.ret1 rfl (Res.cell rfl (.tail _ (.head _)) ag_54) ?_
  intro w' hs
  exact ⟨_, _, rfl, ⟨_, _, rfl, rfl⟩, hs.sub (.cons_cons _ (.cons _ (.cons _ (.slnil))))⟩

theorem s_NextLine (m0 m1 m2 m3 m4 m5 m6 m7 m8 e l : Int) (a : Option Addr) (n c : Nat) (xs : List Int) (p q : Bool) (w : World) (hr : RdI w a n xs) (hn : n ≤ 900000000):
    Calls Try.prog 47 #[.agg #[.int .i64 m0, .int .i64 m1, .int .i64 m2, .int .i64 m3, .int .i64 m4, .int .i64 m5, .int .i64 m6, .int .i64 m7, .int .i64 m8, .int .i64 e, .int .i64 l, .slice a n c], .bool p, .bool q] w fun en w' => ∃ rv G, en = .returned rv ∧ (∃ (a1 : Option Addr) (c1 : Nat), rv = .tuple #[.agg #[.int .i64 m0, .int .i64 m1, .int .i64 m2, .int .i64 m3, .int .i64 m4, .int .i64 m5, .int .i64 m6, .int .i64 m7, .int .i64 m8, .int .i64 e, .int .i64 ((nextL m0 m1 m2 m3 m4 m5 m6 m7 m8 e l xs p q).1), .slice a1 (nextL m0 m1 m2 m3 m4 m5 m6 m7 m8 e l xs p q).2.1.length c1], .bool ((nextL m0 m1 m2 m3 m4 m5 m6 m7 m8 e l xs p q).2.2)] ∧ G = [Chunk.row 3 1 a1 (nextL m0 m1 m2 m3 m4 m5 m6 m7 m8 e l xs p q).2.1.length c1 ((nextL m0 m1 m2 m3 m4 m5 m6 m7 m8 e l xs p q).2.1.map (Value.int .i64))]) ∧ St w G w' := by
  have hl := hr.len
  refine enter (vs := [_, _, _]) Try.func47 rfl rfl rfl rfl ?_
  refine WC.seq ?_
  refine WC.region ?_
  refine WL.heavy rfl rfl rfl (OpH.box rfl rfl ?_)
  intro b0
  refine WL.heavy rfl rfl rfl (OpH.alloc zc_54 ?_)
  intro b1
  refine Lt.ofWL.step rfl rfl rfl (OpV.assign rfl) ?_
  refine WL.nil ?_
  refine En.next ?_
  refine WC.seq ?_
  refine WC.region ?_
  refine Lt.ofWL.step rfl rfl rfl (OpV.loadAll rfl (.tail _ (.head _)) ag_54) ?_
  refine WL.heavy rfl rfl rfl (OpH.callR (evs.cons rfl (evs.nil)) ca_81 (fun w hs => s_copy _ _ _ _ _ _ _ _ _ _ _ _ _ _ _ w (hr.ext hs.below) (by omega)) ?_)
  rintro _ _ ⟨a11, c11, rfl, rfl⟩
  refine WL.heavy rfl rfl rfl (OpH.alloc zc_54 ?_)
  intro b3
  refine WL.heavy0 rfl rfl (OpH.storeTo (A := []) [_, _, _, _, _, _, _, _, _, _, _, _] rfl rfl rfl ts_54 rfl rfl rfl ?_)
  refine WL.nil ?_
  refine En.next ?_
  refine WC.seq ?_
  refine WC.seq ?_
  refine WC.region ?_
  refine Lt.ofWL.step rfl rfl rfl (OpV.loadAll rfl (.tail _ (.tail _ (.tail _ (.head _)))) ag_54) ?_
  refine Lt.ofWL.step rfl rfl rfl (OpV.call (evs.cons rfl (evs.nil)) ca_41 (fun w hs => s_PaceOk _ _ _ _ _ _ _ _ _ _ _ _ _ _ _ w (hr.ext hs.below))) ?_
  refine Lt.ofWL.step rfl rfl rfl (OpV.not rfl) ?_
  refine WL.nil ?_
  refine En.next ?_
  refine WC.cond rfl ?_ ?_
  ·
    intro hc2
    refine WC.seq ?_
    refine WC.region ?_
    refine Lt.ofWL.step rfl rfl rfl (OpV.loadAll rfl (.head _) ag_54) ?_
    refine WL.heavy0 rfl rfl (OpH.storeTo (A := [_, _]) [_, _, _, _, _, _, _, _, _, _, _, _] rfl rfl rfl ts_54 rfl rfl rfl ?_)
    refine Lt.ofWL.step rfl rfl rfl (OpV.assign rfl) ?_
    refine WL.nil ?_
    refine En.next ?_
    refine WC.ret ?_
    refine En.then_ret ?_
    refine En.ret2 rfl (Res.cell rfl (.tail _ (.tail _ (.head _))) ag_54) (Res.tmp rfl) ?_
    intro w' hs
    have en : nextL m0 m1 m2 m3 m4 m5 m6 m7 m8 e l xs p q = (l, xs, false) := by unfold nextL; rw [if_neg (by simpa using hc2)]
    rw [en]
    subst hl
    exact ⟨_, _, rfl, ⟨_, _, rfl, rfl⟩, hs.sub (.cons _ (.cons_cons _ (.cons _ (.cons _ (.slnil)))))⟩
  ·
    intro hc2
    have hok : paceOk m0 m1 m2 m3 m4 m5 m6 m7 m8 e l xs = true := by simpa using hc2
    have hpb := paceOk_bounds hok
    refine WC.skip ?_
    refine En.next ?_
    refine WC.seq ?_
    refine WC.region ?_
    refine Lt.ofWL.step rfl rfl rfl (OpV.fieldAddr rfl fo_54_2) ?_
    refine Lt.ofWL.step rfl rfl rfl (OpV.loadBox rfl pt_3 (.head _) rfl) ?_
    refine Lt.ofWL.step rfl rfl rfl (OpV.addW rfl rfl) ?_
    refine Lt.ofWL.step rfl rfl rfl (OpV.fieldAddr rfl fo_54_2) ?_
    refine WL.heavy0 rfl rfl (OpH.storeTo (A := []) [_, _, _, _, _, _, _, _, _, _, _, _] rfl rfl rfl ts_3 rfl rfl rfl ?_)
    refine WL.nil ?_
    refine En.next ?_
    refine WC.seq ?_
    refine WC.seq ?_
    refine WC.drawn [(0, ?r5v0), (3, ?r5v3), (6, ?r5v6), (7, ?r5v7), (8, ?r5v8), (9, ?r5v9), (10, ?r5v10), (11, ?r5v11), (12, ?r5v12), (13, ?r5v13), (15, ?r5v15), (16, ?r5v16), (17, ?r5v17), (18, ?r5v18), (37, ?r5v37)] (by kernel_rfl) (by kernel_rfl) ?dH5 ?dK5
    case dH5 =>
      intro W hW hk
      refine hW.step rfl rfl rfl (OpV.fieldAddr rfl fo_54_2) ?_
      refine hW.step rfl rfl rfl (OpV.loadBox rfl pt_3 (.head _) rfl) ?_
      refine hW.step rfl rfl rfl (OpV.loadAll rfl (.tail _ (.tail _ (.tail _ (.head _)))) ag_54) ?_
      refine hW.step rfl rfl rfl (OpV.call (evs.cons rfl (evs.nil)) ca_45 (fun w hs => s_ShortFrame _ _ _ _ _ _ _ _ _ _ _ _ _ _ _ w (hr.ext hs.below))) ?_
      refine hW.step rfl rfl rfl (OpV.geq rfl rfl) ?_
      refine hW.step rfl rfl rfl (OpV.move rfl) ?_
      refine hW.and 24 30 29 (p := ?pz3) (rest := ?qz3) (B := ?Bz3) rfl ?Tz3 ?Fz3 ?az3 ?bz3 ?cz3 ?dz3 ?ez3
      case Tz3 =>
        intro hc4 hkz3
        refine hW.step rfl rfl rfl (OpV.move rfl) ?_
        refine hW.step rfl rfl rfl (OpV.move rfl) ?_
        refine hW.or 26 29 28 (p := ?pz5) (rest := ?qz5) (B := ?Bz5) rfl ?Tz5 ?Fz5 ?az5 ?bz5 ?cz5 ?dz5 ?ez5
        case Tz5 =>
          intro hc6 hkz5
          refine hW.skip rfl rfl rfl ?_
          refine hW.skip rfl rfl rfl ?_
          refine hkz5 _ ?_
          repeat (first | exact Sub.refl _ | refine Sub.skip rfl ?_)
        case Fz5 =>
          intro hc7 hkz5
          refine hW.step rfl rfl rfl (OpV.move rfl) ?_
          refine hW.step rfl rfl rfl (OpV.not rfl) ?_
          refine hkz5 _ ?_ ?_
          exact rfl
          repeat (first | exact Sub.refl _ | refine Sub.skip rfl ?_)
        case az5 => exact rfl
        case bz5 => exact rfl
        case cz5 => exact rfl
        case dz5 => exact rfl
        refine hkz3 _ ?_ ?_
        exact rfl
        repeat (first | exact Sub.refl _ | refine Sub.skip rfl ?_)
      case Fz3 =>
        intro hc8 hkz3
        refine hW.skip rfl rfl rfl ?_
        refine hW.skip rfl rfl rfl ?_
        refine hW.skip rfl rfl rfl ?_
        refine hW.skip rfl rfl rfl ?_
        refine hW.skip rfl rfl rfl ?_
        refine hkz3 _ ?_
        repeat (first | exact Sub.refl _ | refine Sub.skip rfl ?_)
      case az3 => exact rfl
      case bz3 => exact rfl
      case cz3 => exact rfl
      case dz3 => exact rfl
      refine hW.step rfl rfl rfl (OpV.move rfl) ?_
      refine hW.or 31 37 36 (p := ?pz9) (rest := ?qz9) (B := ?Bz9) rfl ?Tz9 ?Fz9 ?az9 ?bz9 ?cz9 ?dz9 ?ez9
      case Tz9 =>
        intro hc10 hkz9
        refine hW.skip rfl rfl rfl ?_
        refine hW.skip rfl rfl rfl ?_
        refine hW.skip rfl rfl rfl ?_
        refine hW.skip rfl rfl rfl ?_
        refine hW.skip rfl rfl rfl ?_
        refine hkz9 _ ?_
        repeat (first | exact Sub.refl _ | refine Sub.skip rfl ?_)
      case Fz9 =>
        intro hc11 hkz9
        refine hW.step rfl rfl rfl (OpV.fieldAddr rfl fo_54_2) ?_
        refine hW.step rfl rfl rfl (OpV.loadBox rfl pt_3 (.head _) rfl) ?_
        refine hW.step rfl rfl rfl (OpV.loadAll rfl (.tail _ (.tail _ (.tail _ (.head _)))) ag_54) ?_
        refine hW.step rfl rfl rfl (OpV.call (evs.cons rfl (evs.nil)) ca_44 (fun w hs => s_LongFrame _ _ _ _ _ _ _ _ _ _ _ _ _ _ _ w (hr.ext hs.below))) ?_
        refine hW.step rfl rfl rfl (OpV.eql rfl rfl) ?_
        refine hkz9 _ ?_ ?_
        exact rfl
        repeat (first | exact Sub.refl _ | refine Sub.skip rfl ?_)
      case az9 => exact rfl
      case bz9 => exact rfl
      case cz9 => exact rfl
      case dz9 => exact rfl
      refine hk _ ?_
      refine Sub.cons ?_ (Sub.cons ?_ (Sub.cons ?_ (Sub.cons ?_ (Sub.cons ?_ (Sub.cons ?_ (Sub.cons ?_ (Sub.cons ?_ (Sub.cons ?_ (Sub.cons ?_ (Sub.cons ?_ (Sub.cons ?_ (Sub.cons ?_ (Sub.cons ?_ (Sub.cons ?_ (Sub.nil _)))))))))))))))
      all_goals exact rfl
    refine En.next ?_
    refine WC.cond rfl ?_ ?_
    ·
      intro hc12
      refine WC.seq ?_
      refine WC.region ?_
      refine Lt.ofWL.step rfl rfl rfl (OpV.fieldAddr rfl fo_54_3) ?_
      refine Lt.ofWL.step rfl rfl rfl (OpV.loadBox rfl pt_44 (.head _) rfl) ?_
      refine Lt.ofWL.step rfl rfl rfl (OpV.fieldAddr rfl fo_54_2) ?_
      refine Lt.ofWL.step rfl rfl rfl (OpV.loadBox rfl pt_3 (.head _) rfl) ?_
      refine WL.heavy rfl rfl rfl (OpH.buildSlice (evps.cons rfl (evps.nil)) (bs_44_1_0 _) ?_)
      intro b4
      refine WL.heavy rfl rfl rfl (OpH.append (A := [_, _]) rfl rfl rfl mi_44 (by decide) rfl one_int (fun w hs => CellsAt.box (hs.mem (.head _))) (by omega) (by omega) ?_)
      intro a13 c14
      refine Lt.ofWL.step rfl rfl rfl (OpV.fieldAddr rfl fo_54_3) ?_
      refine WL.heavy0 rfl rfl (OpH.storeTo (A := [_]) [_, _, _, _, _, _, _, _, _, _, _, _] rfl rfl rfl ts_44 rfl rfl rfl ?_)
      refine WL.nil ?_
      refine En.next ?_
      refine WC.seq ?_
      refine WC.region ?_
      refine Lt.ofWL.step rfl rfl rfl (OpV.fieldAddr rfl fo_54_2) ?_
      refine WL.heavy0 rfl rfl (OpH.storeTo (A := [_]) [_, _, _, _, _, _, _, _, _, _, _, _] rfl rfl rfl ts_3 rfl rfl rfl ?_)
      refine WL.nil ?_
      refine En.next ?_
      refine WC.seq ?_
      refine WC.region ?_
      refine Lt.ofWL.step rfl rfl rfl (OpV.loadAll rfl (.tail _ (.head _)) ag_54) ?_
      refine WL.heavy0 rfl rfl (OpH.storeTo (A := [_, _, _]) [_, _, _, _, _, _, _, _, _, _, _, _] rfl rfl rfl ts_54 rfl rfl rfl ?_)
      refine Lt.ofWL.step rfl rfl rfl (OpV.assign rfl) ?_
      refine WL.nil ?_
      refine En.next ?_
      refine WC.ret ?_
      refine En.then_ret ?_
      refine En.ret2 rfl (Res.cell rfl (.tail _ (.tail _ (.tail _ (.head _)))) ag_54) (Res.tmp rfl) ?_
      intro w' hs
      have en : nextL m0 m1 m2 m3 m4 m5 m6 m7 m8 e l xs p q = (0, xs ++ [IntKind.i64.wrap (l + 1)], true) := by unfold nextL nextI; rw [if_pos hok, ← fires_eq hok, hc12]; rfl
      rw [en]
      subst hl
      have e2 : (xs ++ [IntKind.i64.wrap (l + 1)]).length = xs.length + 1 := by simp
      rw [e2]
      rw [List.map_append]
      exact ⟨_, _, rfl, ⟨_, _, rfl, rfl⟩, hs.sub (.cons _ (.cons _ (.cons_cons _ (.cons _ (.cons _ (.slnil))))))⟩
    ·
      intro hc12
      refine WC.skip ?_
      refine En.next ?_
      refine WC.seq ?_
      refine WC.region ?_
      refine Lt.ofWL.step rfl rfl rfl (OpV.loadAll rfl (.head _) ag_54) ?_
      refine WL.heavy0 rfl rfl (OpH.storeTo (A := [_, _]) [_, _, _, _, _, _, _, _, _, _, _, _] rfl rfl rfl ts_54 rfl rfl rfl ?_)
      refine Lt.ofWL.step rfl rfl rfl (OpV.assign rfl) ?_
      refine WL.nil ?_
      refine En.next ?_
      refine WC.ret ?_
      refine En.ret2 rfl (Res.cell rfl (.tail _ (.tail _ (.head _))) ag_54) (Res.tmp rfl) ?_
      intro w' hs
      have en : nextL m0 m1 m2 m3 m4 m5 m6 m7 m8 e l xs p q = (IntKind.i64.wrap (l + 1), xs, false) := by unfold nextL nextI; rw [if_pos hok, ← fires_eq hok, hc12]; rfl
      rw [en]
      subst hl
      exact ⟨_, _, rfl, ⟨_, _, rfl, rfl⟩, hs.sub (.cons _ (.cons_cons _ (.cons _ (.cons _ (.slnil)))))⟩

theorem i_next (m0 m1 m2 m3 m4 m5 m6 m7 m8 e l : Int) (a : Option Addr) (n c : Nat) (xs : List Int) (p q : Bool) (b : Nat) (w0 w : World) (C : List Chunk) (hs0 : St w0 (Chunk.box b 54 [.int .i64 m0, .int .i64 m1, .int .i64 m2, .int .i64 m3, .int .i64 m4, .int .i64 m5, .int .i64 m6, .int .i64 m7, .int .i64 m8, .int .i64 e, .int .i64 l, .slice a n c] :: Chunk.row 3 1 a n c (xs.map (Value.int .i64)) :: C) w) (hl : n = xs.length) (hn : n ≤ 900000000):
    Calls Try.prog 77 #[.pointer (some ⟨b, 0, none⟩), .bool p, .bool q] w fun en w' => ∃ rv G, en = .returned rv ∧ (∃ (a1 : Option Addr) (c1 : Nat), rv = .bool (nextI m0 m1 m2 m3 m4 m5 m6 m7 m8 e l xs p q).2.2 ∧ G = Chunk.box b 54 [.int .i64 m0, .int .i64 m1, .int .i64 m2, .int .i64 m3, .int .i64 m4, .int .i64 m5, .int .i64 m6, .int .i64 m7, .int .i64 m8, .int .i64 e, .int .i64 ((nextI m0 m1 m2 m3 m4 m5 m6 m7 m8 e l xs p q).1), .slice a1 (nextI m0 m1 m2 m3 m4 m5 m6 m7 m8 e l xs p q).2.1.length c1] :: Chunk.row 3 1 a1 (nextI m0 m1 m2 m3 m4 m5 m6 m7 m8 e l xs p q).2.1.length c1 ((nextI m0 m1 m2 m3 m4 m5 m6 m7 m8 e l xs p q).2.1.map (Value.int .i64)) :: C) ∧ St w0 G w' := by
  refine enterF hs0 (vs := [_, _, _]) Try.func77 rfl rfl rfl rfl ?_
  refine WC.seq ?_
  refine WC.region ?_
  refine Lt.ofWL.step rfl rfl rfl (OpV.assign rfl) ?_
  refine WL.nil ?_
  refine En.next ?_
  refine WC.seq ?_
  refine WC.region ?_
  refine Lt.ofWL.step rfl rfl rfl (OpV.move rfl) ?_
  refine Lt.ofWL.step rfl rfl rfl (OpV.nilCheck rfl) ?_
  refine Lt.ofWL.step rfl rfl rfl (OpV.fieldAddr rfl fo_54_2) ?_
  refine Lt.ofWL.step rfl rfl rfl (OpV.loadBox rfl pt_3 (.head _) rfl) ?_
  refine Lt.ofWL.step rfl rfl rfl (OpV.addW rfl rfl) ?_
  refine Lt.ofWL.step rfl rfl rfl (OpV.nilCheck rfl) ?_
  refine Lt.ofWL.step rfl rfl rfl (OpV.fieldAddr rfl fo_54_2) ?_
  refine WL.heavy0 rfl rfl (OpH.storeTo (A := []) [_, _, _, _, _, _, _, _, _, _, _, _] rfl rfl rfl ts_3 rfl rfl rfl ?_)
  refine WL.nil ?_
  refine En.next ?_
  refine WC.seq ?_
  refine WC.seq ?_
  refine WC.drawn [(0, ?r2v0), (6, ?r2v6), (7, ?r2v7), (8, ?r2v8), (9, ?r2v9), (10, ?r2v10), (11, ?r2v11), (12, ?r2v12), (13, ?r2v13), (45, ?r2v45)] (by kernel_rfl) (by kernel_rfl) ?dH2 ?dK2
  case dH2 =>
    intro W hW hk
    refine hW.step rfl rfl rfl (OpV.move rfl) ?_
    refine hW.step rfl rfl rfl (OpV.nilCheck rfl) ?_
    refine hW.step rfl rfl rfl (OpV.fieldAddr rfl fo_54_2) ?_
    refine hW.step rfl rfl rfl (OpV.loadBox rfl pt_3 (.head _) rfl) ?_
    refine hW.step rfl rfl rfl (OpV.move rfl) ?_
    refine hW.step rfl rfl rfl (OpV.nilCheck rfl) ?_
    refine hW.step rfl rfl rfl (OpV.loadAll rfl (.head _) ag_54) ?_
    refine hW.step rfl rfl rfl (OpV.call (evs.cons rfl (evs.nil)) ca_75 (fun w hs => i_shortFrame_ _ _ _ _ _ _ _ _ _ _ _ _ _ _ w)) ?_
    refine hW.step rfl rfl rfl (OpV.move rfl) ?_
    refine hW.step rfl rfl rfl (OpV.nilCheck rfl) ?_
    refine hW.step rfl rfl rfl (OpV.fieldAddr rfl fo_54_1) ?_
    refine hW.step rfl rfl rfl (OpV.loadBox rfl pt_3 (.head _) rfl) ?_
    refine hW.step rfl rfl rfl (OpV.addW rfl rfl) ?_
    refine hW.step rfl rfl rfl (OpV.lss rfl rfl) ?_
    refine hW.step rfl rfl rfl (OpV.move rfl) ?_
    refine hW.and 28 45 44 (p := ?pz1) (rest := ?qz1) (B := ?Bz1) rfl ?Tz1 ?Fz1 ?az1 ?bz1 ?cz1 ?dz1 ?ez1
    case Tz1 =>
      intro hc2 hkz1
      refine hW.step rfl rfl rfl (OpV.move rfl) ?_
      refine hW.step rfl rfl rfl (OpV.nilCheck rfl) ?_
      refine hW.step rfl rfl rfl (OpV.fieldAddr rfl fo_54_2) ?_
      refine hW.step rfl rfl rfl (OpV.loadBox rfl pt_3 (.head _) rfl) ?_
      refine hW.step rfl rfl rfl (OpV.move rfl) ?_
      refine hW.step rfl rfl rfl (OpV.nilCheck rfl) ?_
      refine hW.step rfl rfl rfl (OpV.loadAll rfl (.head _) ag_54) ?_
      refine hW.step rfl rfl rfl (OpV.call (evs.cons rfl (evs.nil)) ca_75 (fun w hs => i_shortFrame_ _ _ _ _ _ _ _ _ _ _ _ _ _ _ w)) ?_
      refine hW.step rfl rfl rfl (OpV.lss rfl rfl) ?_
      refine hW.step rfl rfl rfl (OpV.move rfl) ?_
      refine hW.or 38 44 43 (p := ?pz3) (rest := ?qz3) (B := ?Bz3) rfl ?Tz3 ?Fz3 ?az3 ?bz3 ?cz3 ?dz3 ?ez3
      case Tz3 =>
        intro hc4 hkz3
        refine hW.skip rfl rfl rfl ?_
        refine hW.skip rfl rfl rfl ?_
        refine hW.skip rfl rfl rfl ?_
        refine hW.skip rfl rfl rfl ?_
        refine hW.skip rfl rfl rfl ?_
        refine hkz3 _ ?_
        repeat (first | exact Sub.refl _ | refine Sub.skip rfl ?_)
      case Fz3 =>
        intro hc5 hkz3
        refine hW.step rfl rfl rfl (OpV.move rfl) ?_
        refine hW.step rfl rfl rfl (OpV.not rfl) ?_
        refine hW.step rfl rfl rfl (OpV.move rfl) ?_
        refine hW.and 41 43 42 (p := ?pz6) (rest := ?qz6) (B := ?Bz6) rfl ?Tz6 ?Fz6 ?az6 ?bz6 ?cz6 ?dz6 ?ez6
        case Tz6 =>
          intro hc7 hkz6
          refine hW.step rfl rfl rfl (OpV.move rfl) ?_
          refine hkz6 _ ?_ ?_
          exact rfl
          repeat (first | exact Sub.refl _ | refine Sub.skip rfl ?_)
        case Fz6 =>
          intro hc8 hkz6
          refine hW.skip rfl rfl rfl ?_
          refine hkz6 _ ?_
          repeat (first | exact Sub.refl _ | refine Sub.skip rfl ?_)
        case az6 => exact rfl
        case bz6 => exact rfl
        case cz6 => exact rfl
        case dz6 => exact rfl
        refine hkz3 _ ?_ ?_
        exact rfl
        repeat (first | exact Sub.refl _ | refine Sub.skip rfl ?_)
      case az3 => exact rfl
      case bz3 => exact rfl
      case cz3 => exact rfl
      case dz3 => exact rfl
      refine hkz1 _ ?_ ?_
      exact rfl
      repeat (first | exact Sub.refl _ | refine Sub.skip rfl ?_)
    case Fz1 =>
      intro hc9 hkz1
      refine hW.skip rfl rfl rfl ?_
      refine hW.skip rfl rfl rfl ?_
      refine hW.skip rfl rfl rfl ?_
      refine hW.skip rfl rfl rfl ?_
      refine hW.skip rfl rfl rfl ?_
      refine hW.skip rfl rfl rfl ?_
      refine hW.skip rfl rfl rfl ?_
      refine hW.skip rfl rfl rfl ?_
      refine hW.skip rfl rfl rfl ?_
      refine hW.skip rfl rfl rfl ?_
      refine hW.skip rfl rfl rfl ?_
      refine hW.skip rfl rfl rfl ?_
      refine hW.skip rfl rfl rfl ?_
      refine hW.skip rfl rfl rfl ?_
      refine hW.skip rfl rfl rfl ?_
      refine hW.skip rfl rfl rfl ?_
      refine hkz1 _ ?_
      repeat (first | exact Sub.refl _ | refine Sub.skip rfl ?_)
    case az1 => exact rfl
    case bz1 => exact rfl
    case cz1 => exact rfl
    case dz1 => exact rfl
    refine hk _ ?_
    refine Sub.cons ?_ (Sub.cons ?_ (Sub.cons ?_ (Sub.cons ?_ (Sub.cons ?_ (Sub.cons ?_ (Sub.cons ?_ (Sub.cons ?_ (Sub.cons ?_ (Sub.cons ?_ (Sub.nil _))))))))))
    all_goals exact rfl
  refine En.next ?_
  refine WC.cond rfl ?_ ?_
  ·
    intro hc10
    refine WC.seq ?_
    refine WC.region ?_
    refine Lt.ofWL.step rfl rfl rfl (OpV.assign rfl) ?_
    refine WL.nil ?_
    refine En.next ?_
    refine WC.ret ?_
    refine En.then_ret ?_
    refine En.ret1 rfl (Res.tmp rfl) ?_
    intro w' hs
    have en : nextI m0 m1 m2 m3 m4 m5 m6 m7 m8 e l xs p q = (IntKind.i64.wrap (l + 1), xs, false) := if_pos hc10
    rw [en]
    subst hl
    exact ⟨_, _, rfl, ⟨_, _, rfl, rfl⟩, hs.sub (.cons_cons _ (.cons_cons _ (List.Sublist.refl _)))⟩
  ·
    intro hc10
    refine WC.skip ?_
    refine En.next ?_
    refine WC.seq ?_
    refine WC.wkF (fun _ h => h.perm (List.perm_middle (l₁ := [_]))) ?_
    refine WC.drawnH [_, _] (C) (fun _ h => h) (by kernel_rfl) ?_
    refine WAE.take (i := 0) rfl (by kernel_rfl) (by kernel_rfl) (by kernel_rfl) rfl rfl rfl (OpV.move rfl) ?_
    refine WAE.take (i := 1) rfl (by kernel_rfl) (by kernel_rfl) (by kernel_rfl) rfl rfl rfl (OpV.move rfl) ?_
    refine WAE.take (i := 2) rfl (by kernel_rfl) (by kernel_rfl) (by kernel_rfl) rfl rfl rfl (OpV.nilCheck rfl) ?_
    refine WAE.take (i := 3) rfl (by kernel_rfl) (by kernel_rfl) (by kernel_rfl) rfl rfl rfl (OpV.fieldAddr rfl fo_54_3) ?_
    refine WAE.take (i := 5) rfl (by kernel_rfl) (by kernel_rfl) (by kernel_rfl) rfl rfl rfl (OpV.move rfl) ?_
    refine WAE.take (i := 6) rfl (by kernel_rfl) (by kernel_rfl) (by kernel_rfl) rfl rfl rfl (OpV.nilCheck rfl) ?_
    refine WAE.take (i := 7) rfl (by kernel_rfl) (by kernel_rfl) (by kernel_rfl) rfl rfl rfl (OpV.fieldAddr rfl fo_54_2) ?_
    refine WAE.all (rs := [4, 8]) (by kernel_rfl) rfl (AllR.cons rfl rfl rfl rfl ?_ (AllR.cons rfl rfl rfl rfl ?_ AllR.nil))
    ·
      refine OpH.light (OpV.loadBox rfl pt_44 (.tail _ (.head _)) rfl) ?_
      refine ⟨[_, _], rfl, ?_⟩
      refine WAE.all (rs := [8]) (by kernel_rfl) rfl (AllR.cons rfl rfl rfl rfl ?_ AllR.nil)
      refine OpH.light (OpV.loadBox rfl pt_3 (.tail _ (.head _)) rfl) ?_
      refine ⟨[_, _], rfl, ?_⟩
      refine WAE.all (rs := [9]) (by kernel_rfl) rfl (AllR.cons rfl rfl rfl rfl ?_ AllR.nil)
      refine OpH.buildSlice (evps.cons rfl (evps.nil)) (bs_44_1_0 _) ?_
      intro b0
      refine ⟨[_, _, _], rfl, ?_⟩
      refine WAE.all (rs := [10]) (by kernel_rfl) rfl (AllR.cons rfl rfl rfl rfl ?_ AllR.nil)
      refine OpH.append (A := [_]) rfl rfl rfl mi_44 (by decide) rfl one_int (fun w hs => CellsAt.box (hs.mem (.head _))) (by omega) (by omega) ?_
      intro a11 c12
      refine ⟨[_, _, _], rfl, ?_⟩
      refine WAE.take (i := 11) rfl (by kernel_rfl) (by kernel_rfl) (by kernel_rfl) rfl rfl rfl (OpV.nilCheck rfl) ?_
      refine WAE.take (i := 12) rfl (by kernel_rfl) (by kernel_rfl) (by kernel_rfl) rfl rfl rfl (OpV.fieldAddr rfl fo_54_3) ?_
      refine WAE.all (rs := [13]) (by kernel_rfl) rfl (AllR.cons0 rfl rfl rfl ?_ AllR.nil)
      refine OpH.storeTo (A := [_, _]) [_, _, _, _, _, _, _, _, _, _, _, _] rfl rfl rfl ts_44 rfl rfl rfl ?_
      refine ⟨[_, _, _], rfl, ?_⟩
      refine WAE.rebase (H := []) ?_
      refine WAE.done (by kernel_rfl) ?_ _
      refine En.next ?_
      refine WC.seq ?_
      refine WC.region ?_
      refine Lt.ofWL.step rfl rfl rfl (OpV.move rfl) ?_
      refine Lt.ofWL.step rfl rfl rfl (OpV.nilCheck rfl) ?_
      refine Lt.ofWL.step rfl rfl rfl (OpV.fieldAddr rfl fo_54_2) ?_
      refine WL.heavy0 rfl rfl (OpH.storeTo (A := [_, _]) [_, _, _, _, _, _, _, _, _, _, _, _] rfl rfl rfl ts_3 rfl rfl rfl ?_)
      refine WL.nil ?_
      refine En.next ?_
      refine WC.seq ?_
      refine WC.region ?_
      refine Lt.ofWL.step rfl rfl rfl (OpV.assign rfl) ?_
      refine WL.nil ?_
      refine En.next ?_
      refine WC.ret ?_
      refine En.ret1 rfl (Res.tmp rfl) ?_
      intro w' hs
      replace hs := hs.perm (List.perm_middle (l₁ := [_]))
      replace hs := hs.perm (List.perm_middle (l₁ := [_, _]))
      have en : nextI m0 m1 m2 m3 m4 m5 m6 m7 m8 e l xs p q = (0, xs ++ [IntKind.i64.wrap (l + 1)], true) := if_neg (by show ¬ _ = true; intro hx; have hy := hc10; unfold longW at hx; rw [hy] at hx; cases hx)
      rw [en]
      subst hl
      have e2 : (xs ++ [IntKind.i64.wrap (l + 1)]).length = xs.length + 1 := by simp
      rw [e2]
      rw [List.map_append]
      exact ⟨_, _, rfl, ⟨_, _, rfl, rfl⟩, hs.sub (.cons_cons _ (.cons_cons _ (.cons _ (List.Sublist.refl _))))⟩
    ·
      refine OpH.light (OpV.loadBox rfl pt_3 (.tail _ (.head _)) rfl) ?_
      refine ⟨[_, _], rfl, ?_⟩
      refine WAE.all (rs := [4, 9]) (by kernel_rfl) rfl (AllR.cons rfl rfl rfl rfl ?_ (AllR.cons rfl rfl rfl rfl ?_ AllR.nil))
      ·
        refine OpH.light (OpV.loadBox rfl pt_44 (.tail _ (.head _)) rfl) ?_
        refine ⟨[_, _], rfl, ?_⟩
        refine WAE.all (rs := [9]) (by kernel_rfl) rfl (AllR.cons rfl rfl rfl rfl ?_ AllR.nil)
        refine OpH.buildSlice (evps.cons rfl (evps.nil)) (bs_44_1_0 _) ?_
        intro b1
        refine ⟨[_, _, _], rfl, ?_⟩
        refine WAE.all (rs := [10]) (by kernel_rfl) rfl (AllR.cons rfl rfl rfl rfl ?_ AllR.nil)
        refine OpH.append (A := [_]) rfl rfl rfl mi_44 (by decide) rfl one_int (fun w hs => CellsAt.box (hs.mem (.head _))) (by omega) (by omega) ?_
        intro a13 c14
        refine ⟨[_, _, _], rfl, ?_⟩
        refine WAE.take (i := 11) rfl (by kernel_rfl) (by kernel_rfl) (by kernel_rfl) rfl rfl rfl (OpV.nilCheck rfl) ?_
        refine WAE.take (i := 12) rfl (by kernel_rfl) (by kernel_rfl) (by kernel_rfl) rfl rfl rfl (OpV.fieldAddr rfl fo_54_3) ?_
        refine WAE.all (rs := [13]) (by kernel_rfl) rfl (AllR.cons0 rfl rfl rfl ?_ AllR.nil)
        refine OpH.storeTo (A := [_, _]) [_, _, _, _, _, _, _, _, _, _, _, _] rfl rfl rfl ts_44 rfl rfl rfl ?_
        refine ⟨[_, _, _], rfl, ?_⟩
        refine WAE.rebase (H := []) ?_
        refine WAE.done (by kernel_rfl) ?_ _
        refine En.next ?_
        refine WC.seq ?_
        refine WC.region ?_
        refine Lt.ofWL.step rfl rfl rfl (OpV.move rfl) ?_
        refine Lt.ofWL.step rfl rfl rfl (OpV.nilCheck rfl) ?_
        refine Lt.ofWL.step rfl rfl rfl (OpV.fieldAddr rfl fo_54_2) ?_
        refine WL.heavy0 rfl rfl (OpH.storeTo (A := [_, _]) [_, _, _, _, _, _, _, _, _, _, _, _] rfl rfl rfl ts_3 rfl rfl rfl ?_)
        refine WL.nil ?_
        refine En.next ?_
        refine WC.seq ?_
        refine WC.region ?_
        refine Lt.ofWL.step rfl rfl rfl (OpV.assign rfl) ?_
        refine WL.nil ?_
        refine En.next ?_
        refine WC.ret ?_
        refine En.ret1 rfl (Res.tmp rfl) ?_
        intro w' hs
        replace hs := hs.perm (List.perm_middle (l₁ := [_]))
        replace hs := hs.perm (List.perm_middle (l₁ := [_, _]))
        have en : nextI m0 m1 m2 m3 m4 m5 m6 m7 m8 e l xs p q = (0, xs ++ [IntKind.i64.wrap (l + 1)], true) := if_neg (by show ¬ _ = true; intro hx; have hy := hc10; unfold longW at hx; rw [hy] at hx; cases hx)
        rw [en]
        subst hl
        have e2 : (xs ++ [IntKind.i64.wrap (l + 1)]).length = xs.length + 1 := by simp
        rw [e2]
        rw [List.map_append]
        exact ⟨_, _, rfl, ⟨_, _, rfl, rfl⟩, hs.sub (.cons_cons _ (.cons_cons _ (.cons _ (List.Sublist.refl _))))⟩
      ·
        refine OpH.buildSlice (evps.cons rfl (evps.nil)) (bs_44_1_0 _) ?_
        intro b2
        refine ⟨[_, _, _], rfl, ?_⟩
        refine WAE.all (rs := [4]) (by kernel_rfl) rfl (AllR.cons rfl rfl rfl rfl ?_ AllR.nil)
        refine OpH.light (OpV.loadBox rfl pt_44 (.tail _ (.tail _ (.head _))) rfl) ?_
        refine ⟨[_, _, _], rfl, ?_⟩
        refine WAE.all (rs := [10]) (by kernel_rfl) rfl (AllR.cons rfl rfl rfl rfl ?_ AllR.nil)
        refine OpH.append (A := [_]) rfl rfl rfl mi_44 (by decide) rfl one_int (fun w hs => CellsAt.box (hs.mem (.head _))) (by omega) (by omega) ?_
        intro a15 c16
        refine ⟨[_, _, _], rfl, ?_⟩
        refine WAE.take (i := 11) rfl (by kernel_rfl) (by kernel_rfl) (by kernel_rfl) rfl rfl rfl (OpV.nilCheck rfl) ?_
        refine WAE.take (i := 12) rfl (by kernel_rfl) (by kernel_rfl) (by kernel_rfl) rfl rfl rfl (OpV.fieldAddr rfl fo_54_3) ?_
        refine WAE.all (rs := [13]) (by kernel_rfl) rfl (AllR.cons0 rfl rfl rfl ?_ AllR.nil)
        refine OpH.storeTo (A := [_, _]) [_, _, _, _, _, _, _, _, _, _, _, _] rfl rfl rfl ts_44 rfl rfl rfl ?_
        refine ⟨[_, _, _], rfl, ?_⟩
        refine WAE.rebase (H := []) ?_
        refine WAE.done (by kernel_rfl) ?_ _
        refine En.next ?_
        refine WC.seq ?_
        refine WC.region ?_
        refine Lt.ofWL.step rfl rfl rfl (OpV.move rfl) ?_
        refine Lt.ofWL.step rfl rfl rfl (OpV.nilCheck rfl) ?_
        refine Lt.ofWL.step rfl rfl rfl (OpV.fieldAddr rfl fo_54_2) ?_
        refine WL.heavy0 rfl rfl (OpH.storeTo (A := [_, _]) [_, _, _, _, _, _, _, _, _, _, _, _] rfl rfl rfl ts_3 rfl rfl rfl ?_)
        refine WL.nil ?_
        refine En.next ?_
        refine WC.seq ?_
        refine WC.region ?_
        refine Lt.ofWL.step rfl rfl rfl (OpV.assign rfl) ?_
        refine WL.nil ?_
        refine En.next ?_
        refine WC.ret ?_
        refine En.ret1 rfl (Res.tmp rfl) ?_
        intro w' hs
        replace hs := hs.perm (List.perm_middle (l₁ := [_]))
        replace hs := hs.perm (List.perm_middle (l₁ := [_, _]))
        have en : nextI m0 m1 m2 m3 m4 m5 m6 m7 m8 e l xs p q = (0, xs ++ [IntKind.i64.wrap (l + 1)], true) := if_neg (by show ¬ _ = true; intro hx; have hy := hc10; unfold longW at hx; rw [hy] at hx; cases hx)
        rw [en]
        subst hl
        have e2 : (xs ++ [IntKind.i64.wrap (l + 1)]).length = xs.length + 1 := by simp
        rw [e2]
        rw [List.map_append]
        exact ⟨_, _, rfl, ⟨_, _, rfl, rfl⟩, hs.sub (.cons_cons _ (.cons_cons _ (.cons _ (List.Sublist.refl _))))⟩

theorem i_NextLine (m0 m1 m2 m3 m4 m5 m6 m7 m8 e l : Int) (a : Option Addr) (n c : Nat) (xs : List Int) (p q : Bool) (w : World) (hr : RdI w a n xs) (hn : n ≤ 900000000):
    Calls Try.prog 48 #[.agg #[.int .i64 m0, .int .i64 m1, .int .i64 m2, .int .i64 m3, .int .i64 m4, .int .i64 m5, .int .i64 m6, .int .i64 m7, .int .i64 m8, .int .i64 e, .int .i64 l, .slice a n c], .bool p, .bool q] w fun en w' => ∃ rv G, en = .returned rv ∧ (∃ (a1 : Option Addr) (c1 : Nat), rv = .tuple #[.agg #[.int .i64 m0, .int .i64 m1, .int .i64 m2, .int .i64 m3, .int .i64 m4, .int .i64 m5, .int .i64 m6, .int .i64 m7, .int .i64 m8, .int .i64 e, .int .i64 ((nextL m0 m1 m2 m3 m4 m5 m6 m7 m8 e l xs p q).1), .slice a1 (nextL m0 m1 m2 m3 m4 m5 m6 m7 m8 e l xs p q).2.1.length c1], .bool ((nextL m0 m1 m2 m3 m4 m5 m6 m7 m8 e l xs p q).2.2)] ∧ G = [Chunk.row 3 1 a1 (nextL m0 m1 m2 m3 m4 m5 m6 m7 m8 e l xs p q).2.1.length c1 ((nextL m0 m1 m2 m3 m4 m5 m6 m7 m8 e l xs p q).2.1.map (Value.int .i64))]) ∧ St w G w' := by
  have hl := hr.len
  refine enter (vs := [_, _, _]) Try.func48 rfl rfl rfl rfl ?_
  refine WC.seq ?_
  refine WC.region ?_
  refine WL.heavy rfl rfl rfl (OpH.box rfl rfl ?_)
  intro b0
  refine WL.heavy rfl rfl rfl (OpH.alloc zc_54 ?_)
  intro b1
  refine Lt.ofWL.step rfl rfl rfl (OpV.assign rfl) ?_
  refine WL.nil ?_
  refine En.next ?_
  refine WC.seq ?_
  refine WC.region ?_
  refine Lt.ofWL.step rfl rfl rfl (OpV.loadAll rfl (.tail _ (.head _)) ag_54) ?_
  refine WL.heavy rfl rfl rfl (OpH.callR (evs.cons rfl (evs.nil)) ca_76 (fun w hs => i_copy _ _ _ _ _ _ _ _ _ _ _ _ _ _ _ w (hr.ext hs.below) (by omega)) ?_)
  rintro _ _ ⟨a11, c11, rfl, rfl⟩
  refine WL.heavy rfl rfl rfl (OpH.alloc zc_54 ?_)
  intro b3
  refine WL.heavy0 rfl rfl (OpH.storeTo (A := []) [_, _, _, _, _, _, _, _, _, _, _, _] rfl rfl rfl ts_54 rfl rfl rfl ?_)
  refine WL.nil ?_
  refine En.next ?_
  refine WC.seq ?_
  refine WC.seq ?_
  refine WC.region ?_
  refine Lt.ofWL.step rfl rfl rfl (OpV.loadAll rfl (.tail _ (.tail _ (.tail _ (.head _)))) ag_54) ?_
  refine Lt.ofWL.step rfl rfl rfl (OpV.call (evs.cons rfl (evs.nil)) ca_39 (fun w hs => i_PaceOk _ _ _ _ _ _ _ _ _ _ _ _ _ _ _ w (hr.ext hs.below))) ?_
  refine Lt.ofWL.step rfl rfl rfl (OpV.not rfl) ?_
  refine WL.nil ?_
  refine En.next ?_
  refine WC.cond rfl ?_ ?_
  ·
    intro hc2
    refine WC.seq ?_
    refine WC.region ?_
    refine Lt.ofWL.step rfl rfl rfl (OpV.loadAll rfl (.head _) ag_54) ?_
    refine WL.heavy0 rfl rfl (OpH.storeTo (A := [_, _]) [_, _, _, _, _, _, _, _, _, _, _, _] rfl rfl rfl ts_54 rfl rfl rfl ?_)
    refine Lt.ofWL.step rfl rfl rfl (OpV.assign rfl) ?_
    refine WL.nil ?_
    refine En.next ?_
    refine WC.ret ?_
    refine En.then_ret ?_
    refine En.ret2 rfl (Res.cell rfl (.tail _ (.tail _ (.head _))) ag_54) (Res.tmp rfl) ?_
    intro w' hs
    have en : nextL m0 m1 m2 m3 m4 m5 m6 m7 m8 e l xs p q = (l, xs, false) := by unfold nextL; rw [if_neg (by simpa using hc2)]
    rw [en]
    subst hl
    exact ⟨_, _, rfl, ⟨_, _, rfl, rfl⟩, hs.sub (.cons _ (.cons_cons _ (.cons _ (.cons _ (.slnil)))))⟩
  ·
    intro hc2
    have hok : paceOk m0 m1 m2 m3 m4 m5 m6 m7 m8 e l xs = true := by simpa using hc2
    refine WC.skip ?_
    refine En.next ?_
    refine WC.seq ?_
    refine WC.region ?_
    refine Lt.ofWL.step rfl rfl rfl (OpV.move rfl) ?_
    refine Lt.ofWL.step rfl rfl rfl (OpV.move rfl) ?_
    refine WL.heavy rfl rfl rfl (OpH.callX (evs.cons rfl (evs.cons rfl (evs.cons rfl (evs.nil)))) ca_77 (fun w hs => i_next _ _ _ _ _ _ _ _ _ _ _ _ _ _ _ _ _ _ _ w _ hs hl (by omega)) ?_)
    rintro _ _ ⟨a3, c3, rfl, rfl⟩
    refine Lt.ofWL.step rfl rfl rfl (OpV.assign rfl) ?_
    refine WL.nil ?_
    refine En.next ?_
    refine WC.seq ?_
    refine WC.region ?_
    refine Lt.ofWL.step rfl rfl rfl (OpV.loadAll rfl (.head _) ag_54) ?_
    refine Lt.ofWL.step rfl rfl rfl (OpV.move rfl) ?_
    refine WL.heavy0 rfl rfl (OpH.storeTo (A := [_, _]) [_, _, _, _, _, _, _, _, _, _, _, _] rfl rfl rfl ts_54 rfl rfl rfl ?_)
    refine Lt.ofWL.step rfl rfl rfl (OpV.assign rfl) ?_
    refine WL.nil ?_
    refine En.next ?_
    refine WC.ret ?_
    refine En.ret2 rfl (Res.cell rfl (.tail _ (.tail _ (.head _))) ag_54) (Res.tmp rfl) ?_
    intro w' hs
    have en : nextL m0 m1 m2 m3 m4 m5 m6 m7 m8 e l xs p q = nextI m0 m1 m2 m3 m4 m5 m6 m7 m8 e l xs p q := if_pos hok
    rw [en]
    exact ⟨_, _, rfl, ⟨_, _, rfl, rfl⟩, hs.sub (.cons _ (.cons_cons _ (.cons _ (.cons _ (.slnil)))))⟩

theorem l_markIntS (a : Option Addr) (n c : Nat) (v : Int) (vs : List Value) (w0 w : World) (C : List Chunk) (hs0 : St w0 (Chunk.row 3 1 a n c vs :: C) w):
    Calls Try.prog 82 #[.slice a n c, .int .i64 v] w fun en w' => en = .returned (.int .i64 (cnt v n)) ∧ St w0 (Chunk.row 3 1 a n c ((marked v n).map (Value.int .i64)) :: C) w' := by
  have hvl : vs.length = n := by have := (hs0.mem (.head _)).1; simpa using this
  have hcap : n ≤ 9223372036854775807 := K.row_bd (hs0.mem (.head _))
  refine enterF hs0 (vs := [_, _]) Try.func82 rfl rfl rfl rfl ?_
  refine WC.seq ?_
  refine WC.region ?_
  refine Lt.ofWL.step rfl rfl rfl (OpV.assign rfl) ?_
  refine WL.nil ?_
  refine En.next ?_
  refine WC.seq ?_
  refine WC.seq ?_
  refine WC.region ?_
  refine Lt.ofWL.step rfl rfl rfl (OpV.assign rfl) ?_
  refine WL.nil ?_
  refine En.next ?_
  refine WC.block ?_
  refine WC.loop (EI := fun k : Nat => [(0, .slice a n c), (1, .int .i64 (cnt v k)), (5, .int .i64 k)]) (FI := fun k => Chunk.row 3 1 a n c (marking (Value.int .i64) v vs k) :: C) (PI := fun k => k ≤ n) (m := fun k => n - k) 0 (Nat.zero_le _) (Sub.cons rfl (Sub.cons rfl (Sub.cons rfl (Sub.nil _)))) (fun _ h => by rw [marking_zero]; exact h) ?_
  intro k hP
  refine WC.seq ?_
  refine WC.seq ?_
  refine WC.region ?_
  refine Lt.ofWL.step rfl rfl rfl (OpV.move rfl) ?_
  refine Lt.ofWL.step rfl rfl rfl (OpV.move rfl) ?_
  refine Lt.ofWL.step rfl rfl rfl (OpV.len rfl si_44 rfl) ?_
  refine Lt.ofWL.step rfl rfl rfl (OpV.lss rfl rfl) ?_
  refine WL.nil ?_
  refine En.next ?_
  refine WC.cond rfl ?_ ?_
  ·
    intro hc1
    have hlt := of_decide_eq_true hc1
    obtain ⟨gg, rfl⟩ := RowA.addr (hs0.mem (.head _)) (by omega)
    refine WC.skip ?_
    refine En.next ?_
    refine WC.seq ?_
    refine WC.block ?_
    refine WC.seq ?_
    refine WC.region ?_
    refine Lt.ofWL.step rfl rfl rfl (OpV.move rfl) ?_
    refine Lt.ofWL.step rfl rfl rfl (OpV.move rfl) ?_
    refine Lt.ofWL.step rfl rfl rfl (OpV.move rfl) ?_
    refine Lt.ofWL.step rfl rfl rfl (OpV.idx1 rfl rfl se_44 (by omega)) ?_
    refine WL.heavy0 rfl rfl (OpH.storeRow (A := []) rfl rfl rfl ts_3 (by omega) rfl ?_)
    refine WL.nil ?_
    refine En.next ?_
    refine WC.region ?_
    refine Lt.ofWL.step rfl rfl rfl (OpV.move rfl) ?_
    refine Lt.ofWL.step rfl rfl rfl (OpV.addW rfl rfl) ?_
    refine Lt.ofWL.step rfl rfl rfl (OpV.assign rfl) ?_
    refine WL.nil ?_
    refine En.block_norm ?_
    refine En.next ?_
    refine WC.region ?_
    refine Lt.ofWL.step rfl rfl rfl (OpV.move rfl) ?_
    refine Lt.ofWL.step rfl rfl rfl (OpV.add rfl rfl ⟨by omega, by omega⟩) ?_
    refine Lt.ofWL.step rfl rfl rfl (OpV.assign rfl) ?_
    refine WL.nil ?_
    rw [Nat.zero_add, marking_set (Value.int .i64) v vs k (by omega)]
    refine En.round (k + 1) (by omega) (by omega) (Sub.cons rfl (Sub.cons rfl (Sub.cons rfl (Sub.nil _)))) (fun _ h => h)
  ·
    intro hc1
    have hge := of_decide_eq_false hc1
    have hk : k = n := by omega
    subst hk
    refine WC.exit ?_
    refine En.then_exit ?_
    refine En.then_exit ?_
    refine En.block_exit ?_
    refine En.next ?_
    refine WC.seq ?_
    refine WC.region ?_
    refine Lt.ofWL.step rfl rfl rfl (OpV.move rfl) ?_
    refine Lt.ofWL.step rfl rfl rfl (OpV.assign rfl) ?_
    refine WL.nil ?_
    refine En.next ?_
    refine WC.ret ?_
    refine En.ret1 rfl (Res.tmp rfl) ?_
    intro w' hs
    refine ⟨rfl, ?_⟩
    have e := marking_all (Value.int .i64) v vs
    rw [hvl] at e
    rw [e] at hs
    exact hs

theorem l_heldIntS (a : Option Addr) (n c : Nat) (xs : List Int) (v : Int) (w : World) (hr : RdI w a n xs):
    Calls Try.prog 83 #[.slice a n c, .int .i64 v] w fun en w' => en = .returned (.int .i64 (held v xs)) ∧ Ext w w' := by
  have hl := hr.len
  have hb1 := hr.bd
  refine enter (vs := [_, _]) Try.func83 rfl rfl rfl rfl ?_
  refine WC.seq ?_
  refine WC.region ?_
  refine Lt.ofWL.step rfl rfl rfl (OpV.assign rfl) ?_
  refine WL.nil ?_
  refine En.next ?_
  refine WC.seq ?_
  refine WC.seq ?_
  refine WC.region ?_
  refine Lt.ofWL.step rfl rfl rfl (OpV.assign rfl) ?_
  refine WL.nil ?_
  refine En.next ?_
  refine WC.block ?_
  refine WC.loop (EI := fun k : Nat => [(0, .slice a n c), (1, .int .i64 (cnt v k)), (5, .int .i64 k)]) (FI := fun _ => []) (PI := fun k => k ≤ n ∧ xs.take k = marked v k) (m := fun k => n - k) 0 ⟨Nat.zero_le _, rfl⟩ (Sub.cons rfl (Sub.cons rfl (Sub.cons rfl (Sub.nil _)))) (fun _ h => h) ?_
  intro k hP
  refine WC.seq ?_
  refine WC.seq ?_
  refine WC.region ?_
  refine Lt.ofWL.step rfl rfl rfl (OpV.move rfl) ?_
  refine Lt.ofWL.step rfl rfl rfl (OpV.move rfl) ?_
  refine Lt.ofWL.step rfl rfl rfl (OpV.len rfl si_44 rfl) ?_
  refine Lt.ofWL.step rfl rfl rfl (OpV.lss rfl rfl) ?_
  refine WL.nil ?_
  refine En.next ?_
  refine WC.cond rfl ?_ ?_
  ·
    intro hc1
    have hlt := of_decide_eq_true hc1
    obtain ⟨b, o, x, rfl, hx, _, hcell⟩ := hr.get (k := k) (by omega)
    refine WC.skip ?_
    refine En.next ?_
    refine WC.seq ?_
    refine WC.block ?_
    refine WC.seq ?_
    refine WC.seq ?_
    refine WC.region ?_
    refine Lt.ofWL.step rfl rfl rfl (OpV.move rfl) ?_
    refine Lt.ofWL.step rfl rfl rfl (OpV.move rfl) ?_
    refine Lt.ofWL.step rfl rfl rfl (OpV.idx1 rfl rfl se_44 (by omega)) ?_
    refine Lt.ofWL.step rfl rfl rfl (OpV.load1 rfl pt_3 (fun w hs => hs.cell hcell)) ?_
    refine Lt.ofWL.step rfl rfl rfl (OpV.move rfl) ?_
    refine Lt.ofWL.step rfl rfl rfl (OpV.neq rfl rfl) ?_
    refine WL.nil ?_
    refine En.next ?_
    refine WC.cond rfl ?_ ?_
    ·
      intro hc2
      have hres : (-1 : Int) = held v xs := by unfold held; rw [if_neg]; exact ne_of_at hx (marked_at v _ k (by omega)) (by simpa using hc2)
      refine WC.seq ?_
      refine WC.region ?_
      refine Lt.ofWL.step rfl rfl rfl (OpV.assign rfl) ?_
      refine WL.nil ?_
      refine En.next ?_
      refine WC.ret ?_
      refine En.then_ret ?_
      refine En.block_ret ?_
      refine En.then_ret ?_
      refine En.then_ret ?_
      refine En.block_ret ?_
      refine En.then_ret ?_
      refine En.ret1 rfl (Res.tmp rfl) ?_
      intro w' hs
      exact ⟨congrArg _ (congrArg _ hres), hs.below⟩
    ·
      intro hc2
      have hxy : x = cnt v k := by simpa using hc2
      refine WC.skip ?_
      refine En.next ?_
      refine WC.region ?_
      refine Lt.ofWL.step rfl rfl rfl (OpV.move rfl) ?_
      refine Lt.ofWL.step rfl rfl rfl (OpV.addW rfl rfl) ?_
      refine Lt.ofWL.step rfl rfl rfl (OpV.assign rfl) ?_
      refine WL.nil ?_
      refine En.block_norm ?_
      refine En.next ?_
      refine WC.region ?_
      refine Lt.ofWL.step rfl rfl rfl (OpV.move rfl) ?_
      refine Lt.ofWL.step rfl rfl rfl (OpV.add rfl rfl ⟨by omega, by omega⟩) ?_
      refine Lt.ofWL.step rfl rfl rfl (OpV.assign rfl) ?_
      refine WL.nil ?_
      refine En.round (k + 1) (by omega) ⟨by omega, by rw [List.take_add_one, hP.2, hx, hxy, marked_succ]; rfl⟩ (Sub.cons rfl (Sub.cons rfl (Sub.cons rfl (Sub.nil _)))) (fun _ h => h)
  ·
    intro hc1
    have hge := of_decide_eq_false hc1
    have hk : k = n := by omega
    subst hk
    have hres : cnt v k = held v xs := by unfold held; rw [← hl, if_pos]; have := hP.2; rw [hl, List.take_length] at this; rw [hl]; exact this
    refine WC.exit ?_
    refine En.then_exit ?_
    refine En.then_exit ?_
    refine En.block_exit ?_
    refine En.next ?_
    refine WC.seq ?_
    refine WC.region ?_
    refine Lt.ofWL.step rfl rfl rfl (OpV.move rfl) ?_
    refine Lt.ofWL.step rfl rfl rfl (OpV.assign rfl) ?_
    refine WL.nil ?_
    refine En.next ?_
    refine WC.ret ?_
    refine En.ret1 rfl (Res.tmp rfl) ?_
    intro w' hs
    exact ⟨congrArg _ (congrArg _ hres), hs.below⟩

theorem l_markPace (m0 m1 m2 m3 m4 m5 m6 m7 m8 e l : Int) (a : Option Addr) (n c : Nat) (v : Int) (vs : List Value) (w0 w : World) (C : List Chunk) (hs0 : St w0 (Chunk.row 3 1 a n c vs :: C) w):
    Calls Try.prog 49 #[.agg #[.int .i64 m0, .int .i64 m1, .int .i64 m2, .int .i64 m3, .int .i64 m4, .int .i64 m5, .int .i64 m6, .int .i64 m7, .int .i64 m8, .int .i64 e, .int .i64 l, .slice a n c], .int .i64 v] w fun en w' => en = .returned (.int .i64 (cnt v n)) ∧ St w0 (Chunk.row 3 1 a n c ((marked v n).map (Value.int .i64)) :: C) w' := by
  refine enterF hs0 (vs := [_, _]) Try.func49 rfl rfl rfl rfl ?_
  refine WC.seq ?_
  refine WC.region ?_
  refine WL.heavy rfl rfl rfl (OpH.box rfl rfl ?_)
  intro b0
  refine Lt.ofWL.step rfl rfl rfl (OpV.assign rfl) ?_
  refine WL.nil ?_
  refine En.next ?_
  refine WC.seq ?_
  refine WC.region ?_
  refine Lt.ofWL.step rfl rfl rfl (OpV.fieldAddr rfl fo_54_3) ?_
  refine Lt.ofWL.step rfl rfl rfl (OpV.loadBox rfl pt_44 (.head _) rfl) ?_
  refine Lt.ofWL.step rfl rfl rfl (OpV.move rfl) ?_
  refine WL.wkF (fun _ h => h.perm (List.perm_middle (l₁ := [_]))) ?_
  refine WL.heavy rfl rfl rfl (OpH.callM (evs.cons rfl (evs.cons rfl (evs.nil))) ca_82 (fun w hs => l_markIntS _ _ _ _ _ _ w _ hs) ?_)
  refine Lt.ofWL.step rfl rfl rfl (OpV.assign rfl) ?_
  refine WL.nil ?_
  refine En.next ?_
  refine WC.seq ?_
  refine WC.region ?_
  refine Lt.ofWL.step rfl rfl rfl (OpV.move rfl) ?_
  refine Lt.ofWL.step rfl rfl rfl (OpV.assign rfl) ?_
  refine WL.nil ?_
  refine En.next ?_
  refine WC.ret ?_
  refine En.ret1 rfl (Res.tmp rfl) ?_
  intro w' hs
  exact ⟨rfl, hs.sub (.cons_cons _ (.cons _ (List.Sublist.refl _)))⟩

theorem l_heldPace (m0 m1 m2 m3 m4 m5 m6 m7 m8 e l : Int) (a : Option Addr) (n c : Nat) (xs : List Int) (v : Int) (w : World) (hr : RdI w a n xs):
    Calls Try.prog 50 #[.agg #[.int .i64 m0, .int .i64 m1, .int .i64 m2, .int .i64 m3, .int .i64 m4, .int .i64 m5, .int .i64 m6, .int .i64 m7, .int .i64 m8, .int .i64 e, .int .i64 l, .slice a n c], .int .i64 v] w fun en w' => en = .returned (.int .i64 (heldN v xs)) ∧ Ext w w' := by
  refine enter (vs := [_, _]) Try.func50 rfl rfl rfl rfl ?_
  refine WC.seq ?_
  refine WC.region ?_
  refine WL.heavy rfl rfl rfl (OpH.box rfl rfl ?_)
  intro b0
  refine Lt.ofWL.step rfl rfl rfl (OpV.assign rfl) ?_
  refine WL.nil ?_
  refine En.next ?_
  refine WC.seq ?_
  refine WC.region ?_
  refine Lt.ofWL.step rfl rfl rfl (OpV.fieldAddr rfl fo_54_3) ?_
  refine Lt.ofWL.step rfl rfl rfl (OpV.loadBox rfl pt_44 (.head _) rfl) ?_
  refine Lt.ofWL.step rfl rfl rfl (OpV.move rfl) ?_
  refine Lt.ofWL.step rfl rfl rfl (OpV.call (evs.cons rfl (evs.cons rfl (evs.nil))) ca_83 (fun w hs => l_heldIntS _ _ _ _ _ w (hr.ext hs.below))) ?_
  refine Lt.ofWL.step rfl rfl rfl (OpV.assign rfl) ?_
  refine WL.nil ?_
  refine En.next ?_
  refine WC.seq ?_
  refine WC.seq ?_
  refine WC.region ?_
  refine Lt.ofWL.step rfl rfl rfl (OpV.move rfl) ?_
  refine Lt.ofWL.step rfl rfl rfl (OpV.lss rfl rfl) ?_
  refine WL.nil ?_
  refine En.next ?_
  refine WC.cond rfl ?_ ?_
  ·
    intro hc1
    refine WC.seq ?_
    refine WC.region ?_
    refine Lt.ofWL.step rfl rfl rfl (OpV.assign rfl) ?_
    refine WL.nil ?_
    refine En.next ?_
    refine WC.ret ?_
    refine En.then_ret ?_
    refine En.ret1 rfl (Res.tmp rfl) ?_
    intro w' hs
    unfold heldN
    rw [if_pos (of_decide_eq_true hc1)]
    exact ⟨rfl, hs.below⟩
  ·
    intro hc1
    refine WC.skip ?_
    refine En.next ?_
    refine WC.seq ?_
    refine WC.region ?_
    refine Lt.ofWL.step rfl rfl rfl (OpV.move rfl) ?_
    refine Lt.ofWL.step rfl rfl rfl (OpV.assign rfl) ?_
    refine WL.nil ?_
    refine En.next ?_
    refine WC.ret ?_
    refine En.ret1 rfl (Res.tmp rfl) ?_
    intro w' hs
    unfold heldN
    rw [if_neg (of_decide_eq_false hc1)]
    exact ⟨rfl, hs.below⟩

theorem w_NextLine (m0 m1 m2 m3 m4 m5 m6 m7 m8 e l : Int) (a : Option Addr) (n c : Nat) (xs : List Int) (p q : Bool) (w : World) (hr : RdI w a n xs):
    Calls Try.prog 13 #[.agg #[.int .i64 m0, .int .i64 m1, .int .i64 m2, .int .i64 m3, .int .i64 m4, .int .i64 m5, .int .i64 m6, .int .i64 m7, .int .i64 m8, .int .i64 e, .int .i64 l, .slice a n c], .bool p, .bool q] w fun en w' => en = .returned (.bool true) ∧ Ext w w' := by
  have hbd := hr.bd
  have hl := hr.len
  refine enter (vs := [_, _, _]) Try.func13 rfl rfl rfl rfl ?_
  refine WC.seq ?_
  refine WC.region ?_
  refine WL.heavy rfl rfl rfl (OpH.box rfl rfl ?_)
  intro b0
  refine Lt.ofWL.step rfl rfl rfl (OpV.assign rfl) ?_
  refine WL.nil ?_
  refine En.next ?_
  refine WC.seq ?_
  refine WC.region ?_
  refine Lt.ofWL.step rfl rfl rfl (OpV.assign rfl) ?_
  refine WL.nil ?_
  refine En.next ?_
  refine WC.seq ?_
  refine WC.region ?_
  refine Lt.ofWL.step rfl rfl rfl (OpV.loadAll rfl (.head _) ag_64) ?_
  refine Lt.ofWL.step rfl rfl rfl (OpV.move rfl) ?_
  refine Lt.ofWL.step rfl rfl rfl (OpV.call (evs.cons rfl (evs.cons rfl (evs.nil))) ca_40 (fun w hs => l_szPace _ _ _ _ _ _ _ _ _ _ _ _ _ _ _ w ⟨by omega, by omega⟩ (by omega))) ?_
  refine Lt.ofWL.step rfl rfl rfl (OpV.assign rfl) ?_
  refine WL.nil ?_
  refine En.next ?_
  refine WC.seq ?_
  refine WC.seq ?_
  refine WC.region ?_
  refine Lt.ofWL.step rfl rfl rfl (OpV.move rfl) ?_
  refine Lt.ofWL.step rfl rfl rfl (OpV.lss rfl rfl) ?_
  refine WL.nil ?_
  refine En.next ?_
  refine WC.cond rfl ?_ ?_
  ·
    intro hc1
    refine WC.seq ?_
    refine WC.region ?_
    refine Lt.ofWL.step rfl rfl rfl (OpV.assign rfl) ?_
    refine WL.nil ?_
    refine En.next ?_
    refine WC.ret ?_
    refine En.then_ret ?_
    refine En.ret1 rfl (Res.tmp rfl) ?_
    intro w' hs
    exact ⟨rfl, hs.below⟩
  ·
    intro hc1
    have hn := szs_le (of_decide_eq_false hc1)
    have hn4 : n ≤ 4000000000 := by omega
    have hnx := nextL_len m0 m1 m2 m3 m4 m5 m6 m7 m8 e l xs p q (by omega)
    refine WC.skip ?_
    refine En.next ?_
    refine WC.seq ?_
    refine WC.region ?_
    refine Lt.ofWL.step rfl rfl rfl (OpV.loadAll rfl (.head _) ag_64) ?_
    refine WL.heavy rfl rfl rfl (OpH.callR (evs.cons rfl (evs.nil)) ca_42 (fun w hs => l_toPace _ _ _ _ _ _ _ _ _ _ _ _ _ _ _ w (hr.ext hs.below) (by omega)) ?_)
    rintro _ _ ⟨a12, c12, rfl, rfl⟩
    refine Lt.ofWL.step rfl rfl rfl (OpV.move rfl) ?_
    refine Lt.ofWL.step rfl rfl rfl (OpV.move rfl) ?_
    refine WL.heavy rfl rfl rfl (OpH.callR (evs.cons rfl (evs.cons rfl (evs.cons rfl (evs.nil)))) ca_47 (fun w hs => s_NextLine _ _ _ _ _ _ _ _ _ _ _ _ _ _ _ _ _ w (RdI.row (hs.mem (.head _)) hr.rng) (by omega)) ?_)
    rintro _ _ ⟨a13, c13, rfl, rfl⟩
    refine Lt.ofWL.step rfl rfl rfl (OpV.move rfl) ?_
    refine Lt.ofWL.step rfl rfl rfl (OpV.extract rfl rfl) ?_
    refine Lt.ofWL.step rfl rfl rfl (OpV.extract rfl rfl) ?_
    refine WL.heavy rfl rfl rfl (OpH.alloc zc_54 ?_)
    intro b3
    refine WL.heavy0 rfl rfl (OpH.storeTo (A := []) [_, _, _, _, _, _, _, _, _, _, _, _] rfl rfl rfl ts_54 rfl rfl rfl ?_)
    refine Lt.ofWL.step rfl rfl rfl (OpV.assign rfl) ?_
    refine WL.nil ?_
    refine En.next ?_
    refine WC.seq ?_
    refine WC.region ?_
    refine Lt.ofWL.step rfl rfl rfl (OpV.loadAll rfl (.tail _ (.tail _ (.tail _ (.head _)))) ag_64) ?_
    refine WL.heavy rfl rfl rfl (OpH.callR (evs.cons rfl (evs.nil)) ca_42 (fun w hs => l_toPace _ _ _ _ _ _ _ _ _ _ _ _ _ _ _ w (hr.ext hs.below) (by omega)) ?_)
    rintro _ _ ⟨a14, c14, rfl, rfl⟩
    refine WL.heavy rfl rfl rfl (OpH.alloc zc_54 ?_)
    intro b5
    refine WL.heavy0 rfl rfl (OpH.storeTo (A := []) [_, _, _, _, _, _, _, _, _, _, _, _] rfl rfl rfl ts_54 rfl rfl rfl ?_)
    refine WL.nil ?_
    refine En.next ?_
    refine WC.seq ?_
    refine WC.region ?_
    refine Lt.ofWL.step rfl rfl rfl (OpV.loadAll rfl (.head _) ag_54) ?_
    refine Lt.ofWL.step rfl rfl rfl (OpV.move rfl) ?_
    refine Lt.ofWL.step rfl rfl rfl (OpV.move rfl) ?_
    refine WL.heavy rfl rfl rfl (OpH.callR (evs.cons rfl (evs.cons rfl (evs.cons rfl (evs.nil)))) ca_48 (fun w hs => i_NextLine _ _ _ _ _ _ _ _ _ _ _ _ _ _ _ _ _ w (RdI.row (hs.mem (.tail _ (.head _))) hr.rng) (by omega)) ?_)
    rintro _ _ ⟨a15, c15, rfl, rfl⟩
    refine Lt.ofWL.step rfl rfl rfl (OpV.move rfl) ?_
    refine Lt.ofWL.step rfl rfl rfl (OpV.extract rfl rfl) ?_
    refine Lt.ofWL.step rfl rfl rfl (OpV.extract rfl rfl) ?_
    refine WL.heavy rfl rfl rfl (OpH.alloc zc_54 ?_)
    intro b7
    refine WL.heavy0 rfl rfl (OpH.storeTo (A := []) [_, _, _, _, _, _, _, _, _, _, _, _] rfl rfl rfl ts_54 rfl rfl rfl ?_)
    refine Lt.ofWL.step rfl rfl rfl (OpV.assign rfl) ?_
    refine WL.nil ?_
    refine En.next ?_
    refine WC.seq ?_
    refine WC.seq ?_
    refine WC.region ?_
    refine Lt.ofWL.step rfl rfl rfl (OpV.loadAll rfl (.head _) ag_54) ?_
    refine Lt.ofWL.step rfl rfl rfl (OpV.loadAll rfl (.tail _ (.tail _ (.tail _ (.tail _ (.head _))))) ag_54) ?_
    refine Lt.ofWL.step rfl rfl rfl (OpV.call (evs.cons rfl (evs.cons rfl (evs.nil))) ca_43 (fun w hs => l_eqPace _ _ _ _ _ _ _ _ _ _ _ _ _ _ _ _ _ _ _ _ _ _ _ _ _ _ _ _ _ _ w (RdI.row (hs.mem (.tail _ (.head _))) (nextL_rng hr.rng _ _)) (RdI.row (hs.mem (.tail _ (.tail _ (.tail _ (.tail _ (.tail _ (.head _))))))) (nextL_rng hr.rng _ _)))) ?_
    refine Lt.ofWL.step rfl rfl rfl (OpV.not rfl) ?_
    refine Lt.ofWL.step rfl rfl rfl (OpV.move rfl) ?_
    refine Lt.ofWL.or 44 48 47 (p := ?pz6) (rest := ?qz6) (B := ?Bz6) rfl ?Tz6 ?Fz6 ?az6 ?bz6 ?cz6 ?dz6 ?ez6
    case Tz6 =>
      intro hc7 hkz6
      refine Lt.ofWL.skip rfl rfl rfl ?_
      refine Lt.ofWL.skip rfl rfl rfl ?_
      refine Lt.ofWL.skip rfl rfl rfl ?_
      refine hkz6 _ ?_
      repeat (first | exact Sub.refl _ | refine Sub.skip rfl ?_)
    case Fz6 =>
      intro hc8 hkz6
      refine Lt.ofWL.step rfl rfl rfl (OpV.move rfl) ?_
      refine Lt.ofWL.step rfl rfl rfl (OpV.move rfl) ?_
      refine Lt.ofWL.step rfl rfl rfl (OpV.bneq rfl rfl ub_4) ?_
      refine hkz6 _ ?_ ?_
      exact rfl
      repeat (first | exact Sub.refl _ | refine Sub.skip rfl ?_)
    case az6 => exact rfl
    case bz6 => exact rfl
    case cz6 => exact rfl
    case dz6 => exact rfl
    refine WL.nil ?_
    refine En.next ?_
    refine WC.cond rfl ?_ ?_
    ·
      intro hc9
      refine WC.seq ?_
      refine WC.region ?_
      refine Lt.ofWL.step rfl rfl rfl (OpV.assign rfl) ?_
      refine WL.nil ?_
      refine En.next ?_
      refine WC.ret ?_
      refine En.then_ret ?_
      refine En.ret1 rfl (Res.tmp rfl) ?_
      intro w' hs
      exfalso
      simp [eqPc_self] at hc9
    ·
      intro hc9
      refine WC.skip ?_
      refine En.next ?_
      refine WC.seq ?_
      refine WC.seq ?_
      refine WC.drawnH [] ([_, _, _, _, _, _, _, _]) (fun _ h => h) (by kernel_rfl) ?_
      refine WAE.take (i := 0) rfl (by kernel_rfl) (by kernel_rfl) (by kernel_rfl) rfl rfl rfl (OpV.loadAll rfl (.tail _ (.tail _ (.head _))) ag_54) ?_
      refine WAE.take (i := 1) rfl (by kernel_rfl) (by kernel_rfl) (by kernel_rfl) rfl rfl rfl (OpV.loadAll rfl (.tail _ (.tail _ (.tail _ (.tail _ (.tail _ (.tail _ (.tail _ (.head _)))))))) ag_64) ?_
      refine WAE.all (rs := [2]) (by kernel_rfl) rfl (AllR.cons rfl rfl rfl rfl ?_ AllR.nil)
      refine OpH.callR (evs.cons rfl (evs.nil)) ca_42 (fun w hs => l_toPace _ _ _ _ _ _ _ _ _ _ _ _ _ _ _ w (hr.ext hs.below) (by omega)) ?_
      rintro _ _ ⟨a110, c110, rfl, rfl⟩
      refine ⟨[_], rfl, ?_⟩
      refine WAE.rebase (H := []) ?_
      refine WAE.take (i := 3) rfl (by kernel_rfl) (by kernel_rfl) (by kernel_rfl) rfl rfl rfl (OpV.call (evs.cons rfl (evs.cons rfl (evs.nil))) ca_43 (fun w hs => l_eqPace _ _ _ _ _ _ _ _ _ _ _ _ _ _ _ _ _ _ _ _ _ _ _ _ _ _ _ _ _ _ w (RdI.row (hs.mem (.tail _ (.tail _ (.tail _ (.tail _ (.head _)))))) hr.rng) (RdI.row (hs.mem (.head _)) hr.rng))) ?_
      refine WAE.take (i := 4) rfl (by kernel_rfl) (by kernel_rfl) (by kernel_rfl) rfl rfl rfl (OpV.not rfl) ?_
      refine WAE.done (by kernel_rfl) ?_ _
      refine En.next ?_
      refine WC.cond rfl ?_ ?_
      ·
        intro hc11
        refine WC.seq ?_
        refine WC.region ?_
        refine Lt.ofWL.step rfl rfl rfl (OpV.assign rfl) ?_
        refine WL.nil ?_
        refine En.next ?_
        refine WC.ret ?_
        refine En.then_ret ?_
        refine En.ret1 rfl (Res.tmp rfl) ?_
        intro w' hs
        exfalso
        simp [eqPc_self] at hc11
      ·
        intro hc11
        refine WC.skip ?_
        refine En.next ?_
        refine WC.seq ?_
        refine WC.region ?_
        refine Lt.ofWL.step rfl rfl rfl (OpV.assign rfl) ?_
        refine WL.nil ?_
        refine En.next ?_
        refine WC.seq ?_
        refine WC.region ?_
        refine Lt.ofWL.step rfl rfl rfl (OpV.loadAll rfl (.tail _ (.tail _ (.tail _ (.head _)))) ag_54) ?_
        refine Lt.ofWL.step rfl rfl rfl (OpV.move rfl) ?_
        refine WL.wkF (fun _ h => h.perm (List.perm_middle (l₁ := [_, _, _, _]))) ?_
        refine WL.heavy rfl rfl rfl (OpH.callM (evs.cons rfl (evs.cons rfl (evs.nil))) ca_49 (fun w hs => l_markPace _ _ _ _ _ _ _ _ _ _ _ _ _ _ _ _ _ w _ hs) ?_)
        refine Lt.ofWL.step rfl rfl rfl (OpV.assign rfl) ?_
        refine WL.nil ?_
        refine En.next ?_
        refine WC.seq ?_
        refine WC.seq ?_
        refine WC.region ?_
        refine Lt.ofWL.step rfl rfl rfl (OpV.move rfl) ?_
        refine Lt.ofWL.step rfl rfl rfl (OpV.lss rfl rfl) ?_
        refine Lt.ofWL.step rfl rfl rfl (OpV.move rfl) ?_
        refine Lt.ofWL.or 59 64 63 (p := ?pz12) (rest := ?qz12) (B := ?Bz12) rfl ?Tz12 ?Fz12 ?az12 ?bz12 ?cz12 ?dz12 ?ez12
        case Tz12 =>
          intro hc13 hkz12
          refine Lt.ofWL.skip rfl rfl rfl ?_
          refine Lt.ofWL.skip rfl rfl rfl ?_
          refine Lt.ofWL.skip rfl rfl rfl ?_
          refine Lt.ofWL.skip rfl rfl rfl ?_
          refine hkz12 _ ?_
          repeat (first | exact Sub.refl _ | refine Sub.skip rfl ?_)
        case Fz12 =>
          intro hc14 hkz12
          refine Lt.ofWL.step rfl rfl rfl (OpV.loadAll rfl (.tail _ (.tail _ (.head _))) ag_54) ?_
          refine Lt.ofWL.step rfl rfl rfl (OpV.loadAll rfl (.tail _ (.tail _ (.tail _ (.tail _ (.tail _ (.head _)))))) ag_54) ?_
          refine Lt.ofWL.step rfl rfl rfl (OpV.call (evs.cons rfl (evs.cons rfl (evs.nil))) ca_43 (fun w hs => l_eqPace _ _ _ _ _ _ _ _ _ _ _ _ _ _ _ _ _ _ _ _ _ _ _ _ _ _ _ _ _ _ w (RdI.row (hs.mem (.tail _ (.tail _ (.tail _ (.head _))))) (nextL_rng hr.rng _ _)) (RdI.row (hs.mem (.tail _ (.tail _ (.tail _ (.tail _ (.tail _ (.tail _ (.head _)))))))) (nextL_rng hr.rng _ _)))) ?_
          refine Lt.ofWL.step rfl rfl rfl (OpV.not rfl) ?_
          refine hkz12 _ ?_ ?_
          exact rfl
          repeat (first | exact Sub.refl _ | refine Sub.skip rfl ?_)
        case az12 => exact rfl
        case bz12 => exact rfl
        case cz12 => exact rfl
        case dz12 => exact rfl
        refine Lt.ofWL.step rfl rfl rfl (OpV.move rfl) ?_
        refine Lt.ofWL.or 65 69 68 (p := ?pz15) (rest := ?qz15) (B := ?Bz15) rfl ?Tz15 ?Fz15 ?az15 ?bz15 ?cz15 ?dz15 ?ez15
        case Tz15 =>
          intro hc16 hkz15
          refine Lt.ofWL.skip rfl rfl rfl ?_
          refine Lt.ofWL.skip rfl rfl rfl ?_
          refine Lt.ofWL.skip rfl rfl rfl ?_
          refine hkz15 _ ?_
          repeat (first | exact Sub.refl _ | refine Sub.skip rfl ?_)
        case Fz15 =>
          intro hc17 hkz15
          refine Lt.ofWL.step rfl rfl rfl (OpV.move rfl) ?_
          refine Lt.ofWL.step rfl rfl rfl (OpV.move rfl) ?_
          refine Lt.ofWL.step rfl rfl rfl (OpV.bneq rfl rfl ub_4) ?_
          refine hkz15 _ ?_ ?_
          exact rfl
          repeat (first | exact Sub.refl _ | refine Sub.skip rfl ?_)
        case az15 => exact rfl
        case bz15 => exact rfl
        case cz15 => exact rfl
        case dz15 => exact rfl
        refine WL.nil ?_
        refine En.next ?_
        refine WC.cond rfl ?_ ?_
        ·
          intro hc18
          refine WC.seq ?_
          refine WC.region ?_
          refine Lt.ofWL.step rfl rfl rfl (OpV.assign rfl) ?_
          refine WL.nil ?_
          refine En.next ?_
          refine WC.ret ?_
          refine En.then_ret ?_
          refine En.ret1 rfl (Res.tmp rfl) ?_
          intro w' hs
          exfalso
          simp [cnt_pos hn4, eqPc_self] at hc18
        ·
          intro hc18
          refine WC.skip ?_
          refine En.next ?_
          refine WC.seq ?_
          refine WC.region ?_
          refine Lt.ofWL.step rfl rfl rfl (OpV.assign rfl) ?_
          refine WL.nil ?_
          refine En.next ?_
          refine WC.seq ?_
          refine WC.region ?_
          refine Lt.ofWL.step rfl rfl rfl (OpV.loadAll rfl (.tail _ (.tail _ (.head _))) ag_54) ?_
          refine Lt.ofWL.step rfl rfl rfl (OpV.move rfl) ?_
          refine WL.wkF (fun _ h => h.perm (List.perm_middle (l₁ := [_, _, _]))) ?_
          refine WL.heavy rfl rfl rfl (OpH.callM (evs.cons rfl (evs.cons rfl (evs.nil))) ca_49 (fun w hs => l_markPace _ _ _ _ _ _ _ _ _ _ _ _ _ _ _ _ _ w _ hs) ?_)
          refine Lt.ofWL.step rfl rfl rfl (OpV.assign rfl) ?_
          refine WL.nil ?_
          refine En.next ?_
          refine WC.seq ?_
          refine WC.region ?_
          refine Lt.ofWL.step rfl rfl rfl (OpV.assign rfl) ?_
          refine WL.nil ?_
          refine En.next ?_
          refine WC.seq ?_
          refine WC.region ?_
          refine Lt.ofWL.step rfl rfl rfl (OpV.loadAll rfl (.tail _ (.tail _ (.tail _ (.head _)))) ag_54) ?_
          refine Lt.ofWL.step rfl rfl rfl (OpV.move rfl) ?_
          refine Lt.ofWL.step rfl rfl rfl (OpV.call (evs.cons rfl (evs.cons rfl (evs.nil))) ca_50 (fun w hs => l_heldPace _ _ _ _ _ _ _ _ _ _ _ _ _ _ _ _ w (RdI.row (hs.mem (.head _)) (marked_rng ⟨by decide, by decide⟩ _)))) ?_
          refine Lt.ofWL.step rfl rfl rfl (OpV.assign rfl) ?_
          refine WL.nil ?_
          refine En.next ?_
          refine WC.seq ?_
          refine WC.seq ?_
          refine WC.region ?_
          refine Lt.ofWL.step rfl rfl rfl (OpV.move rfl) ?_
          refine Lt.ofWL.step rfl rfl rfl (OpV.lss rfl rfl) ?_
          refine WL.nil ?_
          refine En.next ?_
          refine WC.cond rfl ?_ ?_
          ·
            intro hc19
            refine WC.seq ?_
            refine WC.region ?_
            refine Lt.ofWL.step rfl rfl rfl (OpV.assign rfl) ?_
            refine WL.nil ?_
            refine En.next ?_
            refine WC.ret ?_
            refine En.then_ret ?_
            refine En.ret1 rfl (Res.tmp rfl) ?_
            intro w' hs
            exfalso
            simp [heldN_marked hnx, cnt_pos hnx] at hc19
          ·
            intro hc19
            refine WC.skip ?_
            refine En.next ?_
            refine WC.seq ?_
            refine WC.seq ?_
            refine WC.region ?_
            refine Lt.ofWL.step rfl rfl rfl (OpV.move rfl) ?_
            refine Lt.ofWL.step rfl rfl rfl (OpV.move rfl) ?_
            refine Lt.ofWL.step rfl rfl rfl (OpV.neq rfl rfl) ?_
            refine WL.nil ?_
            refine En.next ?_
            refine WC.cond rfl ?_ ?_
            ·
              intro hc20
              refine WC.seq ?_
              refine WC.region ?_
              refine Lt.ofWL.step rfl rfl rfl (OpV.assign rfl) ?_
              refine WL.nil ?_
              refine En.next ?_
              refine WC.ret ?_
              refine En.then_ret ?_
              refine En.ret1 rfl (Res.tmp rfl) ?_
              intro w' hs
              exfalso
              simp [heldN_marked hnx] at hc20
            ·
              intro hc20
              refine WC.skip ?_
              refine En.next ?_
              refine WC.seq ?_
              refine WC.region ?_
              refine Lt.ofWL.step rfl rfl rfl (OpV.loadAll rfl (.tail _ (.tail _ (.tail _ (.tail _ (.tail _ (.tail _ (.tail _ (.tail _ (.head _))))))))) ag_64) ?_
              refine WL.heavy rfl rfl rfl (OpH.callR (evs.cons rfl (evs.nil)) ca_42 (fun w hs => l_toPace _ _ _ _ _ _ _ _ _ _ _ _ _ _ _ w (hr.ext hs.below) (by omega)) ?_)
              rintro _ _ ⟨a121, c121, rfl, rfl⟩
              refine Lt.ofWL.step rfl rfl rfl (OpV.move rfl) ?_
              refine Lt.ofWL.step rfl rfl rfl (OpV.move rfl) ?_
              refine WL.heavy rfl rfl rfl (OpH.callR (evs.cons rfl (evs.cons rfl (evs.cons rfl (evs.nil)))) ca_48 (fun w hs => i_NextLine _ _ _ _ _ _ _ _ _ _ _ _ _ _ _ _ _ w (RdI.row (hs.mem (.head _)) hr.rng) (by omega)) ?_)
              rintro _ _ ⟨a122, c122, rfl, rfl⟩
              refine Lt.ofWL.step rfl rfl rfl (OpV.move rfl) ?_
              refine Lt.ofWL.step rfl rfl rfl (OpV.extract rfl rfl) ?_
              refine Lt.ofWL.step rfl rfl rfl (OpV.extract rfl rfl) ?_
              refine WL.heavy rfl rfl rfl (OpH.alloc zc_54 ?_)
              intro b11
              refine WL.heavy0 rfl rfl (OpH.storeTo (A := []) [_, _, _, _, _, _, _, _, _, _, _, _] rfl rfl rfl ts_54 rfl rfl rfl ?_)
              refine Lt.ofWL.step rfl rfl rfl (OpV.assign rfl) ?_
              refine WL.nil ?_
              refine En.next ?_
              refine WC.seq ?_
              refine WC.seq ?_
              refine WC.region ?_
              refine Lt.ofWL.step rfl rfl rfl (OpV.loadAll rfl (.head _) ag_54) ?_
              refine Lt.ofWL.step rfl rfl rfl (OpV.loadAll rfl (.tail _ (.tail _ (.tail _ (.tail _ (.tail _ (.tail _ (.tail _ (.tail _ (.head _))))))))) ag_54) ?_
              refine Lt.ofWL.step rfl rfl rfl (OpV.call (evs.cons rfl (evs.cons rfl (evs.nil))) ca_43 (fun w hs => l_eqPace _ _ _ _ _ _ _ _ _ _ _ _ _ _ _ _ _ _ _ _ _ _ _ _ _ _ _ _ _ _ w (RdI.row (hs.mem (.tail _ (.head _))) (nextL_rng hr.rng _ _)) (RdI.row (hs.mem (.tail _ (.tail _ (.tail _ (.tail _ (.tail _ (.tail _ (.tail _ (.tail _ (.tail _ (.head _))))))))))) (nextL_rng hr.rng _ _)))) ?_
              refine Lt.ofWL.step rfl rfl rfl (OpV.not rfl) ?_
              refine Lt.ofWL.step rfl rfl rfl (OpV.move rfl) ?_
              refine Lt.ofWL.or 93 97 96 (p := ?pz23) (rest := ?qz23) (B := ?Bz23) rfl ?Tz23 ?Fz23 ?az23 ?bz23 ?cz23 ?dz23 ?ez23
              case Tz23 =>
                intro hc24 hkz23
                refine Lt.ofWL.skip rfl rfl rfl ?_
                refine Lt.ofWL.skip rfl rfl rfl ?_
                refine Lt.ofWL.skip rfl rfl rfl ?_
                refine hkz23 _ ?_
                repeat (first | exact Sub.refl _ | refine Sub.skip rfl ?_)
              case Fz23 =>
                intro hc25 hkz23
                refine Lt.ofWL.step rfl rfl rfl (OpV.move rfl) ?_
                refine Lt.ofWL.step rfl rfl rfl (OpV.move rfl) ?_
                refine Lt.ofWL.step rfl rfl rfl (OpV.bneq rfl rfl ub_4) ?_
                refine hkz23 _ ?_ ?_
                exact rfl
                repeat (first | exact Sub.refl _ | refine Sub.skip rfl ?_)
              case az23 => exact rfl
              case bz23 => exact rfl
              case cz23 => exact rfl
              case dz23 => exact rfl
              refine WL.nil ?_
              refine En.next ?_
              refine WC.cond rfl ?_ ?_
              ·
                intro hc26
                refine WC.seq ?_
                refine WC.region ?_
                refine Lt.ofWL.step rfl rfl rfl (OpV.assign rfl) ?_
                refine WL.nil ?_
                refine En.next ?_
                refine WC.ret ?_
                refine En.then_ret ?_
                refine En.ret1 rfl (Res.tmp rfl) ?_
                intro w' hs
                exfalso
                simp [eqPc_self] at hc26
              ·
                intro hc26
                refine WC.skip ?_
                refine En.next ?_
                refine WC.seq ?_
                refine WC.region ?_
                refine Lt.ofWL.step rfl rfl rfl (OpV.assign rfl) ?_
                refine WL.nil ?_
                refine En.next ?_
                refine WC.seq ?_
                refine WC.region ?_
                refine Lt.ofWL.step rfl rfl rfl (OpV.loadAll rfl (.tail _ (.tail _ (.tail _ (.tail _ (.tail _ (.tail _ (.head _))))))) ag_54) ?_
                refine Lt.ofWL.step rfl rfl rfl (OpV.move rfl) ?_
                refine Lt.ofWL.step rfl rfl rfl (OpV.call (evs.cons rfl (evs.cons rfl (evs.nil))) ca_50 (fun w hs => l_heldPace _ _ _ _ _ _ _ _ _ _ _ _ _ _ _ _ w (RdI.row (hs.mem (.tail _ (.tail _ (.tail _ (.head _))))) (marked_rng ⟨by decide, by decide⟩ _)))) ?_
                refine Lt.ofWL.step rfl rfl rfl (OpV.assign rfl) ?_
                refine WL.nil ?_
                refine En.next ?_
                refine WC.seq ?_
                refine WC.seq ?_
                refine WC.region ?_
                refine Lt.ofWL.step rfl rfl rfl (OpV.move rfl) ?_
                refine Lt.ofWL.step rfl rfl rfl (OpV.lss rfl rfl) ?_
                refine WL.nil ?_
                refine En.next ?_
                refine WC.cond rfl ?_ ?_
                ·
                  intro hc27
                  refine WC.seq ?_
                  refine WC.region ?_
                  refine Lt.ofWL.step rfl rfl rfl (OpV.assign rfl) ?_
                  refine WL.nil ?_
                  refine En.next ?_
                  refine WC.ret ?_
                  refine En.then_ret ?_
                  refine En.ret1 rfl (Res.tmp rfl) ?_
                  intro w' hs
                  exfalso
                  simp [heldN_marked hnx, cnt_pos hnx] at hc27
                ·
                  intro hc27
                  refine WC.skip ?_
                  refine En.next ?_
                  refine WC.seq ?_
                  refine WC.seq ?_
                  refine WC.region ?_
                  refine Lt.ofWL.step rfl rfl rfl (OpV.move rfl) ?_
                  refine Lt.ofWL.step rfl rfl rfl (OpV.move rfl) ?_
                  refine Lt.ofWL.step rfl rfl rfl (OpV.neq rfl rfl) ?_
                  refine WL.nil ?_
                  refine En.next ?_
                  refine WC.cond rfl ?_ ?_
                  ·
                    intro hc28
                    refine WC.seq ?_
                    refine WC.region ?_
                    refine Lt.ofWL.step rfl rfl rfl (OpV.assign rfl) ?_
                    refine WL.nil ?_
                    refine En.next ?_
                    refine WC.ret ?_
                    refine En.then_ret ?_
                    refine En.ret1 rfl (Res.tmp rfl) ?_
                    intro w' hs
                    exfalso
                    simp [heldN_marked hnx] at hc28
                  ·
                    intro hc28
                    refine WC.skip ?_
                    refine En.next ?_
                    refine WC.seq ?_
                    refine WC.region ?_
                    refine Lt.ofWL.step rfl rfl rfl (OpV.assign rfl) ?_
                    refine WL.nil ?_
                    refine En.next ?_
                    refine WC.ret ?_
                    refine En.ret1 rfl (Res.tmp rfl) ?_
                    intro w' hs
                    exact ⟨rfl, hs.below⟩

end Go.Proofs.Ytbcaoilghmcaeaa
