/- Paces, moved on: each call returns what a plain function computes. -/
import Derived.Test.YtbcaoilghmcaeaaWalksD
import Derived.Test.YtbcaoilghmcaeaaMut
namespace Go.Proofs.Ytbcaoilghmcaeaa
open Go.RowKit K

set_option maxRecDepth 100000
set_option maxHeartbeats 2000000

def rstep (m0 m1 m2 m3 m4 m5 m6 m7 m8 e : Int) (s : Int × List Int × Int) (p q : Bool) : Int × List Int × Int :=
  ((nextL m0 m1 m2 m3 m4 m5 m6 m7 m8 e s.1 s.2.1 p q).1, (nextL m0 m1 m2 m3 m4 m5 m6 m7 m8 e s.1 s.2.1 p q).2.1, if (nextL m0 m1 m2 m3 m4 m5 m6 m7 m8 e s.1 s.2.1 p q).2.2 = true then IntKind.i64.wrap (s.2.2 + 1) else s.2.2)
def runTo (m0 m1 m2 m3 m4 m5 m6 m7 m8 e l : Int) (xs : List Int) (ps qs : List Bool) : Nat → Int × List Int × Int
  | 0 => (l, xs, 0)
  | k + 1 => match ps[k]?, qs[k]? with
    | some p, some q => rstep m0 m1 m2 m3 m4 m5 m6 m7 m8 e (runTo m0 m1 m2 m3 m4 m5 m6 m7 m8 e l xs ps qs k) p q
    | _, _ => runTo m0 m1 m2 m3 m4 m5 m6 m7 m8 e l xs ps qs k
theorem runTo_succ {m0 m1 m2 m3 m4 m5 m6 m7 m8 e l : Int} {xs : List Int} {ps qs : List Bool} {k : Nat} {p q : Bool} (hp : ps[k]? = some p) (hq : qs[k]? = some q) : (runTo m0 m1 m2 m3 m4 m5 m6 m7 m8 e l xs ps qs (k + 1)) = rstep m0 m1 m2 m3 m4 m5 m6 m7 m8 e (runTo m0 m1 m2 m3 m4 m5 m6 m7 m8 e l xs ps qs k) p q := by
  rw [runTo, hp, hq]
theorem nextL_len1 (m0 m1 m2 m3 m4 m5 m6 m7 m8 e l : Int) (xs : List Int) (p q : Bool) : (nextL m0 m1 m2 m3 m4 m5 m6 m7 m8 e l xs p q).2.1.length ≤ xs.length + 1 := by
  unfold nextL nextI
  split
  · split
    · dsimp only; omega
    · dsimp only; rw [List.length_append]; simp
  · dsimp only; omega
theorem runTo_len (m0 m1 m2 m3 m4 m5 m6 m7 m8 e l : Int) (xs : List Int) (ps qs : List Bool) : ∀ k, (runTo m0 m1 m2 m3 m4 m5 m6 m7 m8 e l xs ps qs k).2.1.length ≤ xs.length + k
  | 0 => by simp [runTo]
  | k + 1 => by
    have h := runTo_len m0 m1 m2 m3 m4 m5 m6 m7 m8 e l xs ps qs k
    rw [runTo]
    split
    · have := nextL_len1 m0 m1 m2 m3 m4 m5 m6 m7 m8 e (runTo m0 m1 m2 m3 m4 m5 m6 m7 m8 e l xs ps qs k).1 (runTo m0 m1 m2 m3 m4 m5 m6 m7 m8 e l xs ps qs k).2.1
      rename_i p q _ _
      have := this p q
      show (nextL _ _ _ _ _ _ _ _ _ _ _ _ _ _).2.1.length ≤ _
      omega
    · omega
theorem runTo_rng {m0 m1 m2 m3 m4 m5 m6 m7 m8 e l : Int} {xs : List Int} {ps qs : List Bool} (hr : ∀ x ∈ xs, I64 x) : ∀ k, ∀ x ∈ (runTo m0 m1 m2 m3 m4 m5 m6 m7 m8 e l xs ps qs k).2.1, I64 x
  | 0 => hr
  | k + 1 => by
    rw [runTo]
    split
    · exact nextL_rng (runTo_rng hr k) _ _
    · exact runTo_rng hr k
theorem add_min {k a b : Nat} (h1 : k ≤ a) (h2 : k ≤ b) : k + (Nat.min a b - k) = Nat.min a b := by show k + (min a b - k) = min a b; omega
theorem runTo_stop {m0 m1 m2 m3 m4 m5 m6 m7 m8 e l : Int} {xs : List Int} {ps qs : List Bool} {k : Nat} (h : ¬ paceOk m0 m1 m2 m3 m4 m5 m6 m7 m8 e (runTo m0 m1 m2 m3 m4 m5 m6 m7 m8 e l xs ps qs k).1 (runTo m0 m1 m2 m3 m4 m5 m6 m7 m8 e l xs ps qs k).2.1 = true) : ∀ j, (runTo m0 m1 m2 m3 m4 m5 m6 m7 m8 e l xs ps qs (k + j)) = (runTo m0 m1 m2 m3 m4 m5 m6 m7 m8 e l xs ps qs k)
  | 0 => rfl
  | j + 1 => by
    have ih := runTo_stop h j
    show runTo m0 m1 m2 m3 m4 m5 m6 m7 m8 e l xs ps qs (k + j + 1) = _
    rw [runTo, ih]
    split
    · unfold rstep nextL; rw [if_neg h]; rfl
    · rfl

theorem cnt_pos3 {n n2 n3 : Nat} (h : n ≤ 4000000000) (h2 : n2 ≤ 4000000000) (h3 : n3 ≤ 4000000000) : ¬ cnt (cnt (cnt 1 n) n2) n3 < 0 := by
  rw [cnt_eq 1 (by decide) n (by omega), cnt_eq _ (by omega) n2 (by omega), cnt_eq _ (by omega) n3 (by omega)]; omega

theorem si_55 : (sliceElem Try.prog 55).isSome = true := by kernel_rfl
theorem mi_55 : makeInfo Try.prog 55 = some (4, 1, [.bool false]) := by kernel_rfl
theorem se_55 : sliceElem Try.prog 55 = some 1 := by kernel_rfl
theorem ca_52 : callable Try.prog 52 = true := by kernel_rfl
theorem ca_51 : callable Try.prog 51 = true := by kernel_rfl
theorem ca_35 : callable Try.prog 35 = true := by kernel_rfl
theorem ca_53 : callable Try.prog 53 = true := by kernel_rfl
theorem ca_54 : callable Try.prog 54 = true := by kernel_rfl

theorem l_toBoolS (a : Option Addr) (n c : Nat) (xs : List Bool) (w : World) (hr : RdB w a n xs) (hn : n ≤ 1048576):
    Calls Try.prog 52 #[.slice a n c] w fun en w' => ∃ rv G, en = .returned rv ∧ (∃ (a1 : Option Addr) (c1 : Nat), rv = .slice a1 n c1 ∧ G = [Chunk.row 4 1 a1 n c1 (xs.map Value.bool)]) ∧ St w G w' := by
  have hl := hr.len
  refine enter (vs := [_]) Try.func52 rfl rfl rfl rfl ?_
  refine WC.seq ?_
  refine WC.region ?_
  refine Lt.ofWL.step rfl rfl rfl (OpV.assign rfl) ?_
  refine WL.nil ?_
  refine En.next ?_
  refine WC.seq ?_
  refine WC.region ?_
  refine Lt.ofWL.step rfl rfl rfl (OpV.move rfl) ?_
  refine Lt.ofWL.step rfl rfl rfl (OpV.len rfl si_55 rfl) ?_
  refine WL.heavy rfl rfl rfl (OpH.make rfl rfl mi_55 (Nat.le_refl _) (by omega) (by omega) ?_)
  intro b0
  refine Lt.ofWL.step rfl rfl rfl (OpV.assign rfl) ?_
  refine WL.nil ?_
  refine En.next ?_
  refine WC.seq ?_
  refine WC.seq ?_
  refine WC.region ?_
  refine Lt.ofWL.step rfl rfl rfl (OpV.assign rfl) ?_
  refine WL.nil ?_
  refine En.next ?_
  refine WC.block ?_
  refine WC.loop (EI := fun k : Nat => [(0, .slice a n c), (3, .slice (some ⟨b0, 0, .none⟩) n n), (4, .int .i64 k)]) (FI := fun k => [Chunk.row 4 1 (some ⟨b0, 0, .none⟩) n n (fill Value.bool (.bool false) xs k)]) (PI := fun k => k ≤ n) (m := fun k => n - k) 0 (Nat.zero_le _) (Sub.cons rfl (Sub.cons rfl (Sub.cons rfl (Sub.nil _)))) (fun _ h => St.box_row (A := []) (sp := []) (by have e : ∀ l : List Value, l ++ [] = l := List.append_nil; rw [fill_zero, e, ← hl]; exact h) (by rw [fill_length _ _ _ _ (Nat.zero_le _)]; omega) (by rw [List.append_nil, fill_length _ _ _ _ (Nat.zero_le _)]; omega) (Nat.le_refl _) (by unfold maxLen; omega)) ?_
  intro k hP
  refine WC.seq ?_
  refine WC.seq ?_
  refine WC.region ?_
  refine Lt.ofWL.step rfl rfl rfl (OpV.move rfl) ?_
  refine Lt.ofWL.step rfl rfl rfl (OpV.move rfl) ?_
  refine Lt.ofWL.step rfl rfl rfl (OpV.len rfl si_55 rfl) ?_
  refine Lt.ofWL.step rfl rfl rfl (OpV.lss rfl rfl) ?_
  refine WL.nil ?_
  refine En.next ?_
  refine WC.cond rfl ?_ ?_
  ·
    intro hc1
    have hlt := of_decide_eq_true hc1
    obtain ⟨b, o, x, rfl, hx, hcell⟩ := hr.get (k := k) (by omega)
    refine WC.skip ?_
    refine En.next ?_
    refine WC.seq ?_
    refine WC.block ?_
    refine WC.region ?_
    refine Lt.ofWL.step rfl rfl rfl (OpV.move rfl) ?_
    refine Lt.ofWL.step rfl rfl rfl (OpV.move rfl) ?_
    refine Lt.ofWL.step rfl rfl rfl (OpV.move rfl) ?_
    refine Lt.ofWL.step rfl rfl rfl (OpV.move rfl) ?_
    refine Lt.ofWL.step rfl rfl rfl (OpV.idx1 rfl rfl se_55 (by omega)) ?_
    refine Lt.ofWL.step rfl rfl rfl (OpV.load1 rfl pt_4 (fun w hs => hs.cell hcell)) ?_
    refine Lt.ofWL.step rfl rfl rfl (OpV.idx1 rfl rfl se_55 (by omega)) ?_
    refine WL.heavy0 rfl rfl (OpH.storeRow (A := []) rfl rfl rfl ts_4 (by omega) rfl ?_)
    refine WL.nil ?_
    refine En.block_norm ?_
    refine En.next ?_
    refine WC.region ?_
    refine Lt.ofWL.step rfl rfl rfl (OpV.move rfl) ?_
    refine Lt.ofWL.step rfl rfl rfl (OpV.add rfl rfl ⟨by omega, by omega⟩) ?_
    refine Lt.ofWL.step rfl rfl rfl (OpV.assign rfl) ?_
    refine WL.nil ?_
    rw [Nat.zero_add, fill_set Value.bool (.bool false) xs k hx]
    refine En.round (k + 1) (by omega) (by omega) (Sub.cons rfl (Sub.cons rfl (Sub.cons rfl (Sub.nil _)))) (fun _ h => h)
  ·
    intro hc1
    have hge := of_decide_eq_false hc1
    have hk : k = n := by omega
    subst hk
    rw [hl, fill_all]
    refine WC.exit ?_
    refine En.then_exit ?_
    refine En.then_exit ?_
    refine En.block_exit ?_
    refine En.next ?_
    refine WC.seq ?_
    refine WC.region ?_
    refine Lt.ofWL.step rfl rfl rfl (OpV.move rfl) ?_
    refine Lt.ofWL.step rfl rfl rfl (OpV.assign rfl) ?_
    refine WL.nil ?_
    refine En.next ?_
    refine WC.ret ?_
    refine En.ret1 rfl (Res.tmp rfl) ?_
    intro w' hs
    exact ⟨_, _, rfl, ⟨_, _, rfl, rfl⟩, hs⟩

theorem l_eqBoolS (a : Option Addr) (n c : Nat) (xs : List Bool) (a2 : Option Addr) (n2 c2 : Nat) (ys : List Bool) (w : World) (hr : RdB w a n xs) (hq : RdB w a2 n2 ys):
    Calls Try.prog 53 #[.slice a n c, .slice a2 n2 c2] w fun en w' => en = .returned (.bool (decide (xs = ys))) ∧ Ext w w' := by
  have hl := hr.len
  have hl2 := hq.len
  have hb1 := hr.bd
  refine enter (vs := [_, _]) Try.func53 rfl rfl rfl rfl ?_
  refine WC.seq ?_
  refine WC.region ?_
  refine Lt.ofWL.step rfl rfl rfl (OpV.assign rfl) ?_
  refine WL.nil ?_
  refine En.next ?_
  refine WC.seq ?_
  refine WC.seq ?_
  refine WC.region ?_
  refine Lt.ofWL.step rfl rfl rfl (OpV.move rfl) ?_
  refine Lt.ofWL.step rfl rfl rfl (OpV.len rfl si_55 rfl) ?_
  refine Lt.ofWL.step rfl rfl rfl (OpV.move rfl) ?_
  refine Lt.ofWL.step rfl rfl rfl (OpV.len rfl si_55 rfl) ?_
  refine Lt.ofWL.step rfl rfl rfl (OpV.neq rfl rfl) ?_
  refine WL.nil ?_
  refine En.next ?_
  refine WC.cond rfl ?_ ?_
  ·
    intro hc1
    have hne : xs ≠ ys := fun e => by subst e; simp at hc1; omega
    refine WC.seq ?_
    refine WC.region ?_
    refine Lt.ofWL.step rfl rfl rfl (OpV.assign rfl) ?_
    refine WL.nil ?_
    refine En.next ?_
    refine WC.ret ?_
    refine En.then_ret ?_
    refine En.ret1 rfl (Res.tmp rfl) ?_
    intro w' hs
    refine ⟨congrArg _ (congrArg _ ?_), hs.below⟩
    exact (decide_eq_false hne).symm
  ·
    intro hc1
    have hnn : n = n2 := by simp at hc1; omega
    refine WC.skip ?_
    refine En.next ?_
    refine WC.seq ?_
    refine WC.seq ?_
    refine WC.region ?_
    refine Lt.ofWL.step rfl rfl rfl (OpV.assign rfl) ?_
    refine WL.nil ?_
    refine En.next ?_
    refine WC.block ?_
    refine WC.loop (EI := fun k : Nat => [(0, .slice a n c), (1, .slice a2 n2 c2), (5, .int .i64 k)]) (FI := fun _ => []) (PI := fun k => k ≤ n ∧ xs.take k = ys.take k) (m := fun k => n - k) 0 ⟨Nat.zero_le _, rfl⟩ (Sub.cons rfl (Sub.cons rfl (Sub.cons rfl (Sub.nil _)))) (fun _ h => h) ?_
    intro k hP
    refine WC.seq ?_
    refine WC.seq ?_
    refine WC.region ?_
    refine Lt.ofWL.step rfl rfl rfl (OpV.move rfl) ?_
    refine Lt.ofWL.step rfl rfl rfl (OpV.move rfl) ?_
    refine Lt.ofWL.step rfl rfl rfl (OpV.len rfl si_55 rfl) ?_
    refine Lt.ofWL.step rfl rfl rfl (OpV.lss rfl rfl) ?_
    refine WL.nil ?_
    refine En.next ?_
    refine WC.cond rfl ?_ ?_
    ·
      intro hc2
      have hlt := of_decide_eq_true hc2
      obtain ⟨b, o, x, rfl, hx, hcell⟩ := hr.get (k := k) (by omega)
      obtain ⟨b2, o2, y, rfl, hy, hcell2⟩ := hq.get (k := k) (by omega)
      refine WC.skip ?_
      refine En.next ?_
      refine WC.seq ?_
      refine WC.block ?_
      refine WC.seq ?_
      refine WC.drawn [(0, ?r6v0), (1, ?r6v1), (5, ?r6v5), (11, ?r6v11), (12, ?r6v12), (13, ?r6v13), (14, ?r6v14), (25, ?r6v25)] (by kernel_rfl) (by kernel_rfl) ?dH6 ?dK6
      case dH6 =>
        intro W hW hk
        refine hW.step rfl rfl rfl (OpV.move rfl) ?_
        refine hW.step rfl rfl rfl (OpV.move rfl) ?_
        refine hW.step rfl rfl rfl (OpV.idx1 rfl rfl se_55 (by omega)) ?_
        refine hW.step rfl rfl rfl (OpV.load1 rfl pt_4 (fun w hs => hs.cell hcell)) ?_
        refine hW.step rfl rfl rfl (OpV.move rfl) ?_
        refine hW.step rfl rfl rfl (OpV.move rfl) ?_
        refine hW.step rfl rfl rfl (OpV.idx1 rfl rfl se_55 (by omega)) ?_
        refine hW.step rfl rfl rfl (OpV.load1 rfl pt_4 (fun w hs => hs.cell hcell2)) ?_
        refine hW.step rfl rfl rfl (OpV.bneq rfl rfl ub_4) ?_
        refine hk _ ?_
        refine Sub.cons ?_ (Sub.cons ?_ (Sub.cons ?_ (Sub.cons ?_ (Sub.cons ?_ (Sub.cons ?_ (Sub.cons ?_ (Sub.cons ?_ (Sub.nil _))))))))
        all_goals exact rfl
      refine En.next ?_
      refine WC.cond rfl ?_ ?_
      ·
        intro hc3
        have hne : xs ≠ ys := ne_of_at hx hy (by simpa using hc3)
        refine WC.seq ?_
        refine WC.region ?_
        refine Lt.ofWL.step rfl rfl rfl (OpV.assign rfl) ?_
        refine WL.nil ?_
        refine En.next ?_
        refine WC.ret ?_
        refine En.block_ret ?_
        refine En.then_ret ?_
        refine En.then_ret ?_
        refine En.block_ret ?_
        refine En.then_ret ?_
        refine En.ret1 rfl (Res.tmp rfl) ?_
        intro w' hs
        refine ⟨congrArg _ (congrArg _ ?_), hs.below⟩
        exact (decide_eq_false hne).symm
      ·
        intro hc3
        have hxy : x = y := by simpa using hc3
        subst hxy
        refine WC.skip ?_
        refine En.block_norm ?_
        refine En.next ?_
        refine WC.region ?_
        refine Lt.ofWL.step rfl rfl rfl (OpV.move rfl) ?_
        refine Lt.ofWL.step rfl rfl rfl (OpV.add rfl rfl ⟨by omega, by omega⟩) ?_
        refine Lt.ofWL.step rfl rfl rfl (OpV.assign rfl) ?_
        refine WL.nil ?_
        refine En.round (k + 1) (by omega) ⟨by omega, take_succ_eq hP.2 hx hy⟩ (Sub.cons rfl (Sub.cons rfl (Sub.cons rfl (Sub.nil _)))) (fun _ h => h)
    ·
      intro hc2
      have hge := of_decide_eq_false hc2
      have hk : k = n := by omega
      have hnn2 := hnn
      subst hk
      have heq : xs = ys := by rw [hl, List.take_length] at hP; rw [← hl, hnn, hl2, List.take_length] at hP; exact hP.2
      refine WC.exit ?_
      refine En.then_exit ?_
      refine En.then_exit ?_
      refine En.block_exit ?_
      refine En.next ?_
      refine WC.seq ?_
      refine WC.region ?_
      refine Lt.ofWL.step rfl rfl rfl (OpV.assign rfl) ?_
      refine WL.nil ?_
      refine En.next ?_
      refine WC.ret ?_
      refine En.ret1 rfl (Res.tmp rfl) ?_
      intro w' hs
      refine ⟨congrArg _ (congrArg _ ?_), hs.below⟩
      exact (decide_eq_true heq).symm

theorem l_markBoolS (a : Option Addr) (n c : Nat) (v : Int) (vs : List Value) (w0 w : World) (C : List Chunk) (hs0 : St w0 (Chunk.row 4 1 a n c vs :: C) w):
    Calls Try.prog 54 #[.slice a n c, .int .i64 v] w fun en w' => en = .returned (.int .i64 (cnt v n)) ∧ St w0 (Chunk.row 4 1 a n c ((marked v n).map (fun x => Value.bool (decide (x.tmod 3 = 0)))) :: C) w' := by
  have hvl : vs.length = n := by have := (hs0.mem (.head _)).1; simpa using this
  have hcap : n ≤ 9223372036854775807 := K.row_bd (hs0.mem (.head _))
  refine enterF hs0 (vs := [_, _]) Try.func54 rfl rfl rfl rfl ?_
  refine WC.seq ?_
  refine WC.region ?_
  refine Lt.ofWL.step rfl rfl rfl (OpV.assign rfl) ?_
  refine WL.nil ?_
  refine En.next ?_
  refine WC.seq ?_
  refine WC.seq ?_
  refine WC.region ?_
  refine Lt.ofWL.step rfl rfl rfl (OpV.assign rfl) ?_
  refine WL.nil ?_
  refine En.next ?_
  refine WC.block ?_
  refine WC.loop (EI := fun k : Nat => [(0, .slice a n c), (1, .int .i64 (cnt v k)), (5, .int .i64 k)]) (FI := fun k => Chunk.row 4 1 a n c (marking (fun x => Value.bool (decide (x.tmod 3 = 0))) v vs k) :: C) (PI := fun k => k ≤ n) (m := fun k => n - k) 0 (Nat.zero_le _) (Sub.cons rfl (Sub.cons rfl (Sub.cons rfl (Sub.nil _)))) (fun _ h => by rw [marking_zero]; exact h) ?_
  intro k hP
  refine WC.seq ?_
  refine WC.seq ?_
  refine WC.region ?_
  refine Lt.ofWL.step rfl rfl rfl (OpV.move rfl) ?_
  refine Lt.ofWL.step rfl rfl rfl (OpV.move rfl) ?_
  refine Lt.ofWL.step rfl rfl rfl (OpV.len rfl si_55 rfl) ?_
  refine Lt.ofWL.step rfl rfl rfl (OpV.lss rfl rfl) ?_
  refine WL.nil ?_
  refine En.next ?_
  refine WC.cond rfl ?_ ?_
  ·
    intro hc1
    have hlt := of_decide_eq_true hc1
    obtain ⟨gg, rfl⟩ := RowA.addr (hs0.mem (.head _)) (by omega)
    refine WC.skip ?_
    refine En.next ?_
    refine WC.seq ?_
    refine WC.block ?_
    refine WC.seq ?_
    refine WC.region ?_
    refine Lt.ofWL.step rfl rfl rfl (OpV.move rfl) ?_
    refine Lt.ofWL.step rfl rfl rfl (OpV.move rfl) ?_
    refine Lt.ofWL.step rfl rfl rfl (OpV.move rfl) ?_
    refine Lt.ofWL.step rfl rfl rfl (OpV.remT rfl rfl (by decide)) ?_
    refine Lt.ofWL.step rfl rfl rfl (OpV.eql rfl rfl) ?_
    refine Lt.ofWL.step rfl rfl rfl (OpV.idx1 rfl rfl se_55 (by omega)) ?_
    refine WL.heavy0 rfl rfl (OpH.storeRow (A := []) rfl rfl rfl ts_4 (by omega) rfl ?_)
    refine WL.nil ?_
    refine En.next ?_
    refine WC.region ?_
    refine Lt.ofWL.step rfl rfl rfl (OpV.move rfl) ?_
    refine Lt.ofWL.step rfl rfl rfl (OpV.addW rfl rfl) ?_
    refine Lt.ofWL.step rfl rfl rfl (OpV.assign rfl) ?_
    refine WL.nil ?_
    refine En.block_norm ?_
    refine En.next ?_
    refine WC.region ?_
    refine Lt.ofWL.step rfl rfl rfl (OpV.move rfl) ?_
    refine Lt.ofWL.step rfl rfl rfl (OpV.add rfl rfl ⟨by omega, by omega⟩) ?_
    refine Lt.ofWL.step rfl rfl rfl (OpV.assign rfl) ?_
    refine WL.nil ?_
    rw [Nat.zero_add, marking_set (fun x => Value.bool (decide (x.tmod 3 = 0))) v vs k (by omega)]
    refine En.round (k + 1) (by omega) (by omega) (Sub.cons rfl (Sub.cons rfl (Sub.cons rfl (Sub.nil _)))) (fun _ h => h)
  ·
    intro hc1
    have hge := of_decide_eq_false hc1
    have hk : k = n := by omega
    subst hk
    refine WC.exit ?_
    refine En.then_exit ?_
    refine En.then_exit ?_
    refine En.block_exit ?_
    refine En.next ?_
    refine WC.seq ?_
    refine WC.region ?_
    refine Lt.ofWL.step rfl rfl rfl (OpV.move rfl) ?_
    refine Lt.ofWL.step rfl rfl rfl (OpV.assign rfl) ?_
    refine WL.nil ?_
    refine En.next ?_
    refine WC.ret ?_
    refine En.ret1 rfl (Res.tmp rfl) ?_
    intro w' hs
    refine ⟨rfl, ?_⟩
    have e := marking_all (fun x => Value.bool (decide (x.tmod 3 = 0))) v vs
    rw [hvl] at e
    rw [e] at hs
    exact hs

theorem s_RunPace (m0 m1 m2 m3 m4 m5 m6 m7 m8 e l : Int) (a : Option Addr) (n c : Nat) (xs : List Int) (a2 : Option Addr) (n2 c2 : Nat) (ps : List Bool) (a3 : Option Addr) (n3 c3 : Nat) (qs : List Bool) (w : World) (hr : RdI w a n xs) (hp : RdB w a2 n2 ps) (hq : RdB w a3 n3 qs) (hn : n ≤ 2000000) (hn2 : n2 ≤ 2000000):
    Calls Try.prog 51 #[.agg #[.int .i64 m0, .int .i64 m1, .int .i64 m2, .int .i64 m3, .int .i64 m4, .int .i64 m5, .int .i64 m6, .int .i64 m7, .int .i64 m8, .int .i64 e, .int .i64 l, .slice a n c], .slice a2 n2 c2, .slice a3 n3 c3] w fun en w' => ∃ rv G, en = .returned rv ∧ (∃ (a1 : Option Addr) (c1 : Nat), rv = .tuple #[.agg #[.int .i64 m0, .int .i64 m1, .int .i64 m2, .int .i64 m3, .int .i64 m4, .int .i64 m5, .int .i64 m6, .int .i64 m7, .int .i64 m8, .int .i64 e, .int .i64 ((runTo m0 m1 m2 m3 m4 m5 m6 m7 m8 e l xs ps qs (Nat.min ps.length qs.length)).1), .slice a1 (runTo m0 m1 m2 m3 m4 m5 m6 m7 m8 e l xs ps qs (Nat.min ps.length qs.length)).2.1.length c1], .int .i64 ((runTo m0 m1 m2 m3 m4 m5 m6 m7 m8 e l xs ps qs (Nat.min ps.length qs.length)).2.2)] ∧ G = [Chunk.row 3 1 a1 (runTo m0 m1 m2 m3 m4 m5 m6 m7 m8 e l xs ps qs (Nat.min ps.length qs.length)).2.1.length c1 ((runTo m0 m1 m2 m3 m4 m5 m6 m7 m8 e l xs ps qs (Nat.min ps.length qs.length)).2.1.map (Value.int .i64))]) ∧ St w G w' := by
  obtain rfl := hr.len
  have hl2 := hp.len
  have hl3 := hq.len
  have hbq := hq.bd
  refine enter (vs := [_, _, _]) Try.func51 rfl rfl rfl rfl ?_
  refine WC.seq ?_
  refine WC.region ?_
  refine WL.heavy rfl rfl rfl (OpH.box rfl rfl ?_)
  intro b0
  refine WL.heavy rfl rfl rfl (OpH.alloc zc_54 ?_)
  intro b1
  refine Lt.ofWL.step rfl rfl rfl (OpV.assign rfl) ?_
  refine WL.nil ?_
  refine En.next ?_
  refine WC.seq ?_
  refine WC.region ?_
  refine Lt.ofWL.step rfl rfl rfl (OpV.loadAll rfl (.tail _ (.head _)) ag_54) ?_
  refine WL.heavy rfl rfl rfl (OpH.callR (evs.cons rfl (evs.nil)) ca_81 (fun w hs => s_copy _ _ _ _ _ _ _ _ _ _ _ _ _ _ _ w (hr.ext hs.below) (by omega)) ?_)
  rintro _ _ ⟨a11, c11, rfl, rfl⟩
  refine WL.heavy rfl rfl rfl (OpH.alloc zc_54 ?_)
  intro b3
  refine WL.heavy0 rfl rfl (OpH.storeTo (A := []) [_, _, _, _, _, _, _, _, _, _, _, _] rfl rfl rfl ts_54 rfl rfl rfl ?_)
  refine WL.nil ?_
  refine En.next ?_
  refine WC.seq ?_
  refine WC.region ?_
  refine Lt.ofWL.step rfl rfl rfl (OpV.assign rfl) ?_
  refine WL.nil ?_
  refine En.next ?_
  refine WC.seq ?_
  refine WC.seq ?_
  refine WC.region ?_
  refine Lt.ofWL.step rfl rfl rfl (OpV.assign rfl) ?_
  refine WL.nil ?_
  refine En.next ?_
  refine WC.block ?_
  refine WC.loop (EI := fun x : Nat × Option Addr × Nat => [(1, .slice a2 n2 c2), (2, .slice a3 n3 c3), (6, .pointer (some ⟨b1, 0, none⟩)), (8, .pointer (some ⟨b3, 0, none⟩)), (9, .int .i64 (runTo m0 m1 m2 m3 m4 m5 m6 m7 m8 e l xs ps qs x.1).2.2), (10, .int .i64 x.1)]) (FI := fun x : Nat × Option Addr × Nat => [Chunk.box b3 54 [.int .i64 m0, .int .i64 m1, .int .i64 m2, .int .i64 m3, .int .i64 m4, .int .i64 m5, .int .i64 m6, .int .i64 m7, .int .i64 m8, .int .i64 e, .int .i64 ((runTo m0 m1 m2 m3 m4 m5 m6 m7 m8 e l xs ps qs x.1).1), .slice x.2.1 (runTo m0 m1 m2 m3 m4 m5 m6 m7 m8 e l xs ps qs x.1).2.1.length x.2.2], Chunk.row 3 1 x.2.1 (runTo m0 m1 m2 m3 m4 m5 m6 m7 m8 e l xs ps qs x.1).2.1.length x.2.2 ((runTo m0 m1 m2 m3 m4 m5 m6 m7 m8 e l xs ps qs x.1).2.1.map (Value.int .i64)), Chunk.box b1 54 [.int .i64 0, .int .i64 0, .int .i64 0, .int .i64 0, .int .i64 0, .int .i64 0, .int .i64 0, .int .i64 0, .int .i64 0, .int .i64 0, .int .i64 0, .slice none 0 0], Chunk.box b0 54 [.int .i64 m0, .int .i64 m1, .int .i64 m2, .int .i64 m3, .int .i64 m4, .int .i64 m5, .int .i64 m6, .int .i64 m7, .int .i64 m8, .int .i64 e, .int .i64 l, .slice a xs.length c]]) (PI := fun x => x.1 ≤ n2 ∧ x.1 ≤ n3) (m := fun x => n2 - x.1) (0, a11, c11) ⟨Nat.zero_le _, Nat.zero_le _⟩ (Sub.cons rfl (Sub.cons rfl (Sub.cons rfl (Sub.cons rfl (Sub.cons rfl (Sub.cons rfl (Sub.nil _))))))) (fun _ h => h) ?_
  rintro ⟨k, ak, ck⟩ hK
  refine WC.seq ?_
  refine WC.seq ?_
  refine WC.region ?_
  refine Lt.ofWL.step rfl rfl rfl (OpV.move rfl) ?_
  refine Lt.ofWL.step rfl rfl rfl (OpV.move rfl) ?_
  refine Lt.ofWL.step rfl rfl rfl (OpV.len rfl si_55 rfl) ?_
  refine Lt.ofWL.step rfl rfl rfl (OpV.lss rfl rfl) ?_
  refine Lt.ofWL.step rfl rfl rfl (OpV.move rfl) ?_
  refine Lt.ofWL.and 19 24 23 (p := ?pz2) (rest := ?qz2) (B := ?Bz2) rfl ?Tz2 ?Fz2 ?az2 ?bz2 ?cz2 ?dz2 ?ez2
  case Tz2 =>
    intro hc3 hkz2
    refine Lt.ofWL.step rfl rfl rfl (OpV.move rfl) ?_
    refine Lt.ofWL.step rfl rfl rfl (OpV.move rfl) ?_
    refine Lt.ofWL.step rfl rfl rfl (OpV.len rfl si_55 rfl) ?_
    refine Lt.ofWL.step rfl rfl rfl (OpV.lss rfl rfl) ?_
    refine hkz2 _ ?_ ?_
    exact rfl
    repeat (first | exact Sub.refl _ | refine Sub.skip rfl ?_)
  case Fz2 =>
    intro hc4 hkz2
    refine Lt.ofWL.skip rfl rfl rfl ?_
    refine Lt.ofWL.skip rfl rfl rfl ?_
    refine Lt.ofWL.skip rfl rfl rfl ?_
    refine Lt.ofWL.skip rfl rfl rfl ?_
    refine hkz2 _ ?_
    repeat (first | exact Sub.refl _ | refine Sub.skip rfl ?_)
  case az2 => exact rfl
  case bz2 => exact rfl
  case cz2 => exact rfl
  case dz2 => exact rfl
  refine WL.nil ?_
  refine En.next ?_
  refine WC.cond rfl ?_ ?_
  ·
    intro hc5
    have hK2 := hK.2
    have hK1 := hK.1
    dsimp only at hK1 hK2
    have hlt2 : k < n2 ∧ k < n3 := by simp at hc5; omega
    obtain ⟨b, o, p, rfl, hpx, hcell⟩ := hp.get (k := k) (by omega)
    obtain ⟨b2, o2, q, rfl, hqx, hcell2⟩ := hq.get (k := k) (by omega)
    have hlen := runTo_len m0 m1 m2 m3 m4 m5 m6 m7 m8 e l xs ps qs k
    refine WC.skip ?_
    refine En.next ?_
    refine WC.seq ?_
    refine WC.block ?_
    refine WC.seq ?_
    refine WC.drawnH [] ([_, _, _, _]) (fun _ h => h) (by kernel_rfl) ?_
    refine WAE.take (i := 0) rfl (by kernel_rfl) (by kernel_rfl) (by kernel_rfl) rfl rfl rfl (OpV.loadAll rfl (.head _) ag_54) ?_
    refine WAE.take (i := 1) rfl (by kernel_rfl) (by kernel_rfl) (by kernel_rfl) rfl rfl rfl (OpV.move rfl) ?_
    refine WAE.take (i := 2) rfl (by kernel_rfl) (by kernel_rfl) (by kernel_rfl) rfl rfl rfl (OpV.move rfl) ?_
    refine WAE.take (i := 3) rfl (by kernel_rfl) (by kernel_rfl) (by kernel_rfl) rfl rfl rfl (OpV.idx1 rfl rfl se_55 (by omega)) ?_
    refine WAE.take (i := 4) rfl (by kernel_rfl) (by kernel_rfl) (by kernel_rfl) rfl rfl rfl (OpV.load1 rfl pt_4 (fun w hs => hs.cell hcell)) ?_
    refine WAE.take (i := 5) rfl (by kernel_rfl) (by kernel_rfl) (by kernel_rfl) rfl rfl rfl (OpV.move rfl) ?_
    refine WAE.take (i := 6) rfl (by kernel_rfl) (by kernel_rfl) (by kernel_rfl) rfl rfl rfl (OpV.move rfl) ?_
    refine WAE.take (i := 7) rfl (by kernel_rfl) (by kernel_rfl) (by kernel_rfl) rfl rfl rfl (OpV.idx1 rfl rfl se_55 (by omega)) ?_
    refine WAE.take (i := 8) rfl (by kernel_rfl) (by kernel_rfl) (by kernel_rfl) rfl rfl rfl (OpV.load1 rfl pt_4 (fun w hs => hs.cell hcell2)) ?_
    refine WAE.all (rs := [9, 13]) (by kernel_rfl) rfl (AllR.cons rfl rfl rfl rfl ?_ (AllR.cons rfl rfl rfl rfl ?_ AllR.nil))
    ·
      refine OpH.callR (evs.cons rfl (evs.cons rfl (evs.cons rfl (evs.nil)))) ca_47 (fun w hs => s_NextLine _ _ _ _ _ _ _ _ _ _ _ _ _ _ _ _ _ w (RdI.row (hs.mem (.tail _ (.head _))) (runTo_rng hr.rng k)) (by dsimp only; omega)) ?_
      rintro _ _ ⟨a16, c16, rfl, rfl⟩
      refine ⟨[_], rfl, ?_⟩
      refine WAE.take (i := 10) rfl (by kernel_rfl) (by kernel_rfl) (by kernel_rfl) rfl rfl rfl (OpV.move rfl) ?_
      refine WAE.take (i := 11) rfl (by kernel_rfl) (by kernel_rfl) (by kernel_rfl) rfl rfl rfl (OpV.extract rfl rfl) ?_
      refine WAE.take (i := 12) rfl (by kernel_rfl) (by kernel_rfl) (by kernel_rfl) rfl rfl rfl (OpV.extract rfl rfl) ?_
      refine WAE.all (rs := [13]) (by kernel_rfl) rfl (AllR.cons rfl rfl rfl rfl ?_ AllR.nil)
      refine OpH.alloc zc_54 ?_
      intro b5
      refine ⟨[_, _], rfl, ?_⟩
      refine WAE.all (rs := [14]) (by kernel_rfl) rfl (AllR.cons0 rfl rfl rfl ?_ AllR.nil)
      refine OpH.storeTo (A := []) [_, _, _, _, _, _, _, _, _, _, _, _] rfl rfl rfl ts_54 rfl rfl rfl ?_
      refine ⟨[_, _], rfl, ?_⟩
      refine WAE.rebase (H := []) ?_
      refine WAE.take (i := 15) rfl (by kernel_rfl) (by kernel_rfl) (by kernel_rfl) rfl rfl rfl (OpV.assign rfl) ?_
      refine WAE.done (by kernel_rfl) ?_ _
      refine En.next ?_
      refine WC.seq ?_
      refine WC.region ?_
      refine Lt.ofWL.step rfl rfl rfl (OpV.loadAll rfl (.head _) ag_54) ?_
      refine WL.heavy0 rfl rfl (OpH.storeTo (A := [_, _]) [_, _, _, _, _, _, _, _, _, _, _, _] rfl rfl rfl ts_54 rfl rfl rfl ?_)
      refine WL.nil ?_
      refine En.next ?_
      refine WC.seq ?_
      refine WC.region ?_
      refine Lt.ofWL.step rfl rfl rfl (OpV.move rfl) ?_
      refine WL.nil ?_
      refine En.next ?_
      refine WC.cond rfl ?_ ?_
      ·
        intro hc7
        refine WC.region ?_
        refine Lt.ofWL.step rfl rfl rfl (OpV.move rfl) ?_
        refine Lt.ofWL.step rfl rfl rfl (OpV.addW rfl rfl) ?_
        refine Lt.ofWL.step rfl rfl rfl (OpV.assign rfl) ?_
        refine WL.nil ?_
        refine En.block_norm ?_
        refine En.next ?_
        refine WC.region ?_
        refine Lt.ofWL.step rfl rfl rfl (OpV.move rfl) ?_
        refine Lt.ofWL.step rfl rfl rfl (OpV.add rfl rfl ⟨by omega, by omega⟩) ?_
        refine Lt.ofWL.step rfl rfl rfl (OpV.assign rfl) ?_
        refine WL.nil ?_
        have hR : runTo m0 m1 m2 m3 m4 m5 m6 m7 m8 e l xs ps qs (k + 1) = ((nextL m0 m1 m2 m3 m4 m5 m6 m7 m8 e (runTo m0 m1 m2 m3 m4 m5 m6 m7 m8 e l xs ps qs k).1 (runTo m0 m1 m2 m3 m4 m5 m6 m7 m8 e l xs ps qs k).2.1 p q).1, (nextL m0 m1 m2 m3 m4 m5 m6 m7 m8 e (runTo m0 m1 m2 m3 m4 m5 m6 m7 m8 e l xs ps qs k).1 (runTo m0 m1 m2 m3 m4 m5 m6 m7 m8 e l xs ps qs k).2.1 p q).2.1, IntKind.i64.wrap ((runTo m0 m1 m2 m3 m4 m5 m6 m7 m8 e l xs ps qs k).2.2 + 1)) := by rw [runTo_succ hpx hqx]; unfold rstep; rw [if_pos hc7]
        refine En.wk _ _ (Sub.refl _) (fun _ h => h.perm (List.perm_middle (l₁ := [_, _, _, _, _]))) ?_
        refine En.wk _ _ (Sub.refl _) (fun _ h => h.perm (List.perm_middle (l₁ := [_, _, _, _, _]))) ?_
        refine En.wk _ _ (Sub.refl _) (fun _ h => h.perm (List.perm_middle (l₁ := [_, _, _]))) ?_
        refine En.wk _ _ (Sub.refl _) (fun _ h => h.perm (List.perm_middle (l₁ := [_, _, _, _]))) ?_
        refine En.round (k + 1, a16, c16) (by dsimp only; omega) (by dsimp only; omega) ?_ ?_
        · simp only [hR]; exact Sub.cons rfl (Sub.cons rfl (Sub.cons rfl (Sub.cons rfl (Sub.cons rfl (Sub.cons rfl (Sub.nil _))))))
        · simp only [hR]; exact (fun _ h => h.sub (.cons_cons _ (.cons_cons _ (.cons_cons _ (.cons_cons _ (.cons _ (.cons _ (.slnil))))))))
      ·
        intro hc7
        refine WC.skip ?_
        refine En.block_norm ?_
        refine En.next ?_
        refine WC.region ?_
        refine Lt.ofWL.step rfl rfl rfl (OpV.move rfl) ?_
        refine Lt.ofWL.step rfl rfl rfl (OpV.add rfl rfl ⟨by omega, by omega⟩) ?_
        refine Lt.ofWL.step rfl rfl rfl (OpV.assign rfl) ?_
        refine WL.nil ?_
        have hR : runTo m0 m1 m2 m3 m4 m5 m6 m7 m8 e l xs ps qs (k + 1) = ((nextL m0 m1 m2 m3 m4 m5 m6 m7 m8 e (runTo m0 m1 m2 m3 m4 m5 m6 m7 m8 e l xs ps qs k).1 (runTo m0 m1 m2 m3 m4 m5 m6 m7 m8 e l xs ps qs k).2.1 p q).1, (nextL m0 m1 m2 m3 m4 m5 m6 m7 m8 e (runTo m0 m1 m2 m3 m4 m5 m6 m7 m8 e l xs ps qs k).1 (runTo m0 m1 m2 m3 m4 m5 m6 m7 m8 e l xs ps qs k).2.1 p q).2.1, (runTo m0 m1 m2 m3 m4 m5 m6 m7 m8 e l xs ps qs k).2.2) := by rw [runTo_succ hpx hqx]; unfold rstep; rw [if_neg (by rw [hc7]; exact Bool.false_ne_true)]
        refine En.wk _ _ (Sub.refl _) (fun _ h => h.perm (List.perm_middle (l₁ := [_, _, _, _, _]))) ?_
        refine En.wk _ _ (Sub.refl _) (fun _ h => h.perm (List.perm_middle (l₁ := [_, _, _, _, _]))) ?_
        refine En.wk _ _ (Sub.refl _) (fun _ h => h.perm (List.perm_middle (l₁ := [_, _, _]))) ?_
        refine En.wk _ _ (Sub.refl _) (fun _ h => h.perm (List.perm_middle (l₁ := [_, _, _, _]))) ?_
        refine En.round (k + 1, a16, c16) (by dsimp only; omega) (by dsimp only; omega) ?_ ?_
        · simp only [hR]; exact Sub.cons rfl (Sub.cons rfl (Sub.cons rfl (Sub.cons rfl (Sub.cons rfl (Sub.cons rfl (Sub.nil _))))))
        · simp only [hR]; exact (fun _ h => h.sub (.cons_cons _ (.cons_cons _ (.cons_cons _ (.cons_cons _ (.cons _ (.cons _ (.slnil))))))))
    ·
      refine OpH.alloc zc_54 ?_
      intro b6
      refine ⟨[_], rfl, ?_⟩
      refine WAE.all (rs := [9]) (by kernel_rfl) rfl (AllR.cons rfl rfl rfl rfl ?_ AllR.nil)
      refine OpH.callR (evs.cons rfl (evs.cons rfl (evs.cons rfl (evs.nil)))) ca_47 (fun w hs => s_NextLine _ _ _ _ _ _ _ _ _ _ _ _ _ _ _ _ _ w (RdI.row (hs.mem (.tail _ (.tail _ (.head _)))) (runTo_rng hr.rng k)) (by dsimp only; omega)) ?_
      rintro _ _ ⟨a18, c18, rfl, rfl⟩
      refine ⟨[_, _], rfl, ?_⟩
      refine WAE.take (i := 10) rfl (by kernel_rfl) (by kernel_rfl) (by kernel_rfl) rfl rfl rfl (OpV.move rfl) ?_
      refine WAE.take (i := 11) rfl (by kernel_rfl) (by kernel_rfl) (by kernel_rfl) rfl rfl rfl (OpV.extract rfl rfl) ?_
      refine WAE.take (i := 12) rfl (by kernel_rfl) (by kernel_rfl) (by kernel_rfl) rfl rfl rfl (OpV.extract rfl rfl) ?_
      refine WAE.all (rs := [14]) (by kernel_rfl) rfl (AllR.cons0 rfl rfl rfl ?_ AllR.nil)
      refine OpH.storeTo (A := [_]) [_, _, _, _, _, _, _, _, _, _, _, _] rfl rfl rfl ts_54 rfl rfl rfl ?_
      refine ⟨[_, _], rfl, ?_⟩
      refine WAE.rebase (H := []) ?_
      refine WAE.take (i := 15) rfl (by kernel_rfl) (by kernel_rfl) (by kernel_rfl) rfl rfl rfl (OpV.assign rfl) ?_
      refine WAE.done (by kernel_rfl) ?_ _
      refine En.next ?_
      refine WC.seq ?_
      refine WC.region ?_
      refine Lt.ofWL.step rfl rfl rfl (OpV.loadAll rfl (.tail _ (.head _)) ag_54) ?_
      refine WL.heavy0 rfl rfl (OpH.storeTo (A := [_, _]) [_, _, _, _, _, _, _, _, _, _, _, _] rfl rfl rfl ts_54 rfl rfl rfl ?_)
      refine WL.nil ?_
      refine En.next ?_
      refine WC.seq ?_
      refine WC.region ?_
      refine Lt.ofWL.step rfl rfl rfl (OpV.move rfl) ?_
      refine WL.nil ?_
      refine En.next ?_
      refine WC.cond rfl ?_ ?_
      ·
        intro hc9
        refine WC.region ?_
        refine Lt.ofWL.step rfl rfl rfl (OpV.move rfl) ?_
        refine Lt.ofWL.step rfl rfl rfl (OpV.addW rfl rfl) ?_
        refine Lt.ofWL.step rfl rfl rfl (OpV.assign rfl) ?_
        refine WL.nil ?_
        refine En.block_norm ?_
        refine En.next ?_
        refine WC.region ?_
        refine Lt.ofWL.step rfl rfl rfl (OpV.move rfl) ?_
        refine Lt.ofWL.step rfl rfl rfl (OpV.add rfl rfl ⟨by omega, by omega⟩) ?_
        refine Lt.ofWL.step rfl rfl rfl (OpV.assign rfl) ?_
        refine WL.nil ?_
        have hR : runTo m0 m1 m2 m3 m4 m5 m6 m7 m8 e l xs ps qs (k + 1) = ((nextL m0 m1 m2 m3 m4 m5 m6 m7 m8 e (runTo m0 m1 m2 m3 m4 m5 m6 m7 m8 e l xs ps qs k).1 (runTo m0 m1 m2 m3 m4 m5 m6 m7 m8 e l xs ps qs k).2.1 p q).1, (nextL m0 m1 m2 m3 m4 m5 m6 m7 m8 e (runTo m0 m1 m2 m3 m4 m5 m6 m7 m8 e l xs ps qs k).1 (runTo m0 m1 m2 m3 m4 m5 m6 m7 m8 e l xs ps qs k).2.1 p q).2.1, IntKind.i64.wrap ((runTo m0 m1 m2 m3 m4 m5 m6 m7 m8 e l xs ps qs k).2.2 + 1)) := by rw [runTo_succ hpx hqx]; unfold rstep; rw [if_pos hc9]
        refine En.wk _ _ (Sub.refl _) (fun _ h => h.perm (List.perm_middle (l₁ := [_, _, _, _, _]))) ?_
        refine En.wk _ _ (Sub.refl _) (fun _ h => h.perm (List.perm_middle (l₁ := [_, _, _, _, _]))) ?_
        refine En.wk _ _ (Sub.refl _) (fun _ h => h.perm (List.perm_middle (l₁ := [_, _]))) ?_
        refine En.wk _ _ (Sub.refl _) (fun _ h => h.perm (List.perm_middle (l₁ := [_, _, _, _]))) ?_
        refine En.round (k + 1, a18, c18) (by dsimp only; omega) (by dsimp only; omega) ?_ ?_
        · simp only [hR]; exact Sub.cons rfl (Sub.cons rfl (Sub.cons rfl (Sub.cons rfl (Sub.cons rfl (Sub.cons rfl (Sub.nil _))))))
        · simp only [hR]; exact (fun _ h => h.sub (.cons_cons _ (.cons_cons _ (.cons_cons _ (.cons_cons _ (.cons _ (.cons _ (.slnil))))))))
      ·
        intro hc9
        refine WC.skip ?_
        refine En.block_norm ?_
        refine En.next ?_
        refine WC.region ?_
        refine Lt.ofWL.step rfl rfl rfl (OpV.move rfl) ?_
        refine Lt.ofWL.step rfl rfl rfl (OpV.add rfl rfl ⟨by omega, by omega⟩) ?_
        refine Lt.ofWL.step rfl rfl rfl (OpV.assign rfl) ?_
        refine WL.nil ?_
        have hR : runTo m0 m1 m2 m3 m4 m5 m6 m7 m8 e l xs ps qs (k + 1) = ((nextL m0 m1 m2 m3 m4 m5 m6 m7 m8 e (runTo m0 m1 m2 m3 m4 m5 m6 m7 m8 e l xs ps qs k).1 (runTo m0 m1 m2 m3 m4 m5 m6 m7 m8 e l xs ps qs k).2.1 p q).1, (nextL m0 m1 m2 m3 m4 m5 m6 m7 m8 e (runTo m0 m1 m2 m3 m4 m5 m6 m7 m8 e l xs ps qs k).1 (runTo m0 m1 m2 m3 m4 m5 m6 m7 m8 e l xs ps qs k).2.1 p q).2.1, (runTo m0 m1 m2 m3 m4 m5 m6 m7 m8 e l xs ps qs k).2.2) := by rw [runTo_succ hpx hqx]; unfold rstep; rw [if_neg (by rw [hc9]; exact Bool.false_ne_true)]
        refine En.wk _ _ (Sub.refl _) (fun _ h => h.perm (List.perm_middle (l₁ := [_, _, _, _, _]))) ?_
        refine En.wk _ _ (Sub.refl _) (fun _ h => h.perm (List.perm_middle (l₁ := [_, _, _, _, _]))) ?_
        refine En.wk _ _ (Sub.refl _) (fun _ h => h.perm (List.perm_middle (l₁ := [_, _]))) ?_
        refine En.wk _ _ (Sub.refl _) (fun _ h => h.perm (List.perm_middle (l₁ := [_, _, _, _]))) ?_
        refine En.round (k + 1, a18, c18) (by dsimp only; omega) (by dsimp only; omega) ?_ ?_
        · simp only [hR]; exact Sub.cons rfl (Sub.cons rfl (Sub.cons rfl (Sub.cons rfl (Sub.cons rfl (Sub.cons rfl (Sub.nil _))))))
        · simp only [hR]; exact (fun _ h => h.sub (.cons_cons _ (.cons_cons _ (.cons_cons _ (.cons_cons _ (.cons _ (.cons _ (.slnil))))))))
  ·
    intro hc5
    have hK2 := hK.2
    have hK1 := hK.1
    dsimp only at hK1 hK2
    have hge : ¬ (k < n2 ∧ k < n3) := by simp at hc5; omega
    have hkk : k = Nat.min ps.length qs.length := by show k = min _ _; omega
    rw [hkk]
    refine WC.exit ?_
    refine En.then_exit ?_
    refine En.then_exit ?_
    refine En.block_exit ?_
    refine En.next ?_
    refine WC.seq ?_
    refine WC.region ?_
    refine Lt.ofWL.step rfl rfl rfl (OpV.loadAll rfl (.head _) ag_54) ?_
    refine Lt.ofWL.step rfl rfl rfl (OpV.move rfl) ?_
    refine WL.heavy0 rfl rfl (OpH.storeTo (A := [_, _]) [_, _, _, _, _, _, _, _, _, _, _, _] rfl rfl rfl ts_54 rfl rfl rfl ?_)
    refine Lt.ofWL.step rfl rfl rfl (OpV.assign rfl) ?_
    refine WL.nil ?_
    refine En.next ?_
    refine WC.ret ?_
    refine En.ret2 rfl (Res.cell rfl (.tail _ (.tail _ (.head _))) ag_54) (Res.tmp rfl) ?_
    intro w' hs
    exact ⟨_, _, rfl, ⟨_, _, rfl, rfl⟩, hs.sub (.cons _ (.cons_cons _ (.cons _ (.cons _ (.slnil)))))⟩

theorem i_RunPace (m0 m1 m2 m3 m4 m5 m6 m7 m8 e l : Int) (a : Option Addr) (n c : Nat) (xs : List Int) (a2 : Option Addr) (n2 c2 : Nat) (ps : List Bool) (a3 : Option Addr) (n3 c3 : Nat) (qs : List Bool) (w : World) (hr : RdI w a n xs) (hp : RdB w a2 n2 ps) (hq : RdB w a3 n3 qs) (hn : n ≤ 2000000) (hn2 : n2 ≤ 2000000):
    Calls Try.prog 35 #[.agg #[.int .i64 m0, .int .i64 m1, .int .i64 m2, .int .i64 m3, .int .i64 m4, .int .i64 m5, .int .i64 m6, .int .i64 m7, .int .i64 m8, .int .i64 e, .int .i64 l, .slice a n c], .slice a2 n2 c2, .slice a3 n3 c3] w fun en w' => ∃ rv G, en = .returned rv ∧ (∃ (a1 : Option Addr) (c1 : Nat), rv = .tuple #[.agg #[.int .i64 m0, .int .i64 m1, .int .i64 m2, .int .i64 m3, .int .i64 m4, .int .i64 m5, .int .i64 m6, .int .i64 m7, .int .i64 m8, .int .i64 e, .int .i64 ((runTo m0 m1 m2 m3 m4 m5 m6 m7 m8 e l xs ps qs (Nat.min ps.length qs.length)).1), .slice a1 (runTo m0 m1 m2 m3 m4 m5 m6 m7 m8 e l xs ps qs (Nat.min ps.length qs.length)).2.1.length c1], .int .i64 ((runTo m0 m1 m2 m3 m4 m5 m6 m7 m8 e l xs ps qs (Nat.min ps.length qs.length)).2.2)] ∧ G = [Chunk.row 3 1 a1 (runTo m0 m1 m2 m3 m4 m5 m6 m7 m8 e l xs ps qs (Nat.min ps.length qs.length)).2.1.length c1 ((runTo m0 m1 m2 m3 m4 m5 m6 m7 m8 e l xs ps qs (Nat.min ps.length qs.length)).2.1.map (Value.int .i64))]) ∧ St w G w' := by
  obtain rfl := hr.len
  have hl2 := hp.len
  have hl3 := hq.len
  have hbq := hq.bd
  refine enter (vs := [_, _, _]) Try.func35 rfl rfl rfl rfl ?_
  refine WC.seq ?_
  refine WC.region ?_
  refine WL.heavy rfl rfl rfl (OpH.box rfl rfl ?_)
  intro b0
  refine WL.heavy rfl rfl rfl (OpH.alloc zc_54 ?_)
  intro b1
  refine Lt.ofWL.step rfl rfl rfl (OpV.assign rfl) ?_
  refine WL.nil ?_
  refine En.next ?_
  refine WC.seq ?_
  refine WC.region ?_
  refine Lt.ofWL.step rfl rfl rfl (OpV.loadAll rfl (.tail _ (.head _)) ag_54) ?_
  refine WL.heavy rfl rfl rfl (OpH.callR (evs.cons rfl (evs.nil)) ca_76 (fun w hs => i_copy _ _ _ _ _ _ _ _ _ _ _ _ _ _ _ w (hr.ext hs.below) (by omega)) ?_)
  rintro _ _ ⟨a11, c11, rfl, rfl⟩
  refine WL.heavy rfl rfl rfl (OpH.alloc zc_54 ?_)
  intro b3
  refine WL.heavy0 rfl rfl (OpH.storeTo (A := []) [_, _, _, _, _, _, _, _, _, _, _, _] rfl rfl rfl ts_54 rfl rfl rfl ?_)
  refine WL.nil ?_
  refine En.next ?_
  refine WC.seq ?_
  refine WC.region ?_
  refine Lt.ofWL.step rfl rfl rfl (OpV.assign rfl) ?_
  refine WL.nil ?_
  refine En.next ?_
  refine WC.seq ?_
  refine WC.seq ?_
  refine WC.region ?_
  refine Lt.ofWL.step rfl rfl rfl (OpV.move rfl) ?_
  refine Lt.ofWL.step rfl rfl rfl (OpV.len rfl si_55 rfl) ?_
  refine Lt.ofWL.step rfl rfl rfl (OpV.move rfl) ?_
  refine Lt.ofWL.step rfl rfl rfl (OpV.len rfl si_55 rfl) ?_
  refine Lt.ofWL.step rfl rfl rfl (OpV.min2 rfl rfl) ?_
  refine Lt.ofWL.step rfl rfl rfl (OpV.move rfl) ?_
  refine WL.nil ?_
  refine En.next ?_
  refine WC.block ?_
  refine WC.loop (EI := fun x : Nat × Option Addr × Nat => [(1, .slice a2 n2 c2), (2, .slice a3 n3 c3), (6, .pointer (some ⟨b1, 0, none⟩)), (8, .pointer (some ⟨b3, 0, none⟩)), (9, .int .i64 (runTo m0 m1 m2 m3 m4 m5 m6 m7 m8 e l xs ps qs x.1).2.2), (17, .int .i64 (min (n2 : Int) n3)), (18, .int .i64 x.1)]) (FI := fun x : Nat × Option Addr × Nat => [Chunk.box b3 54 [.int .i64 m0, .int .i64 m1, .int .i64 m2, .int .i64 m3, .int .i64 m4, .int .i64 m5, .int .i64 m6, .int .i64 m7, .int .i64 m8, .int .i64 e, .int .i64 ((runTo m0 m1 m2 m3 m4 m5 m6 m7 m8 e l xs ps qs x.1).1), .slice x.2.1 (runTo m0 m1 m2 m3 m4 m5 m6 m7 m8 e l xs ps qs x.1).2.1.length x.2.2], Chunk.row 3 1 x.2.1 (runTo m0 m1 m2 m3 m4 m5 m6 m7 m8 e l xs ps qs x.1).2.1.length x.2.2 ((runTo m0 m1 m2 m3 m4 m5 m6 m7 m8 e l xs ps qs x.1).2.1.map (Value.int .i64)), Chunk.box b1 54 [.int .i64 0, .int .i64 0, .int .i64 0, .int .i64 0, .int .i64 0, .int .i64 0, .int .i64 0, .int .i64 0, .int .i64 0, .int .i64 0, .int .i64 0, .slice none 0 0], Chunk.box b0 54 [.int .i64 m0, .int .i64 m1, .int .i64 m2, .int .i64 m3, .int .i64 m4, .int .i64 m5, .int .i64 m6, .int .i64 m7, .int .i64 m8, .int .i64 e, .int .i64 l, .slice a xs.length c]]) (PI := fun x => x.1 ≤ n2 ∧ x.1 ≤ n3) (m := fun x => n2 - x.1) (0, a11, c11) ⟨Nat.zero_le _, Nat.zero_le _⟩ (Sub.cons rfl (Sub.cons rfl (Sub.cons rfl (Sub.cons rfl (Sub.cons rfl (Sub.cons rfl (Sub.cons rfl (Sub.nil _)))))))) (fun _ h => h) ?_
  rintro ⟨k, ak, ck⟩ hK
  refine WC.seq ?_
  refine WC.region ?_
  refine Lt.ofWL.step rfl rfl rfl (OpV.lss rfl rfl) ?_
  refine WL.nil ?_
  refine En.next ?_
  refine WC.seq ?_
  refine WC.cond rfl ?_ ?_
  ·
    intro hc2
    have hK2 := hK.2
    have hK1 := hK.1
    dsimp only at hK1 hK2
    have hlt2 : k < n2 ∧ k < n3 := by have := of_decide_eq_true hc2; omega
    obtain ⟨b, o, p, rfl, hpx, hcell⟩ := hp.get (k := k) (by omega)
    obtain ⟨b2, o2, q, rfl, hqx, hcell2⟩ := hq.get (k := k) (by omega)
    have hlen := runTo_len m0 m1 m2 m3 m4 m5 m6 m7 m8 e l xs ps qs k
    refine WC.skip ?_
    refine En.next ?_
    refine WC.seq ?_
    refine WC.block ?_
    refine WC.seq ?_
    refine WC.region ?_
    refine Lt.ofWL.step rfl rfl rfl (OpV.move rfl) ?_
    refine Lt.ofWL.step rfl rfl rfl (OpV.assign rfl) ?_
    refine WL.nil ?_
    refine En.next ?_
    refine WC.seq ?_
    refine WC.seq ?_
    refine WC.region ?_
    refine Lt.ofWL.step rfl rfl rfl (OpV.loadAll rfl (.head _) ag_54) ?_
    refine Lt.ofWL.step rfl rfl rfl (OpV.call (evs.cons rfl (evs.nil)) ca_39 (fun w hs => i_PaceOk _ _ _ _ _ _ _ _ _ _ _ _ _ _ _ w (RdI.row (hs.mem (.tail _ (.head _))) (runTo_rng hr.rng k)))) ?_
    refine Lt.ofWL.step rfl rfl rfl (OpV.not rfl) ?_
    refine WL.nil ?_
    refine En.next ?_
    refine WC.cond rfl ?_ ?_
    ·
      intro hc3
      have hstop := runTo_stop (k := k) (ps := ps) (qs := qs) (xs := xs) (l := l) (e := e) (m0 := m0) (m1 := m1) (m2 := m2) (m3 := m3) (m4 := m4) (m5 := m5) (m6 := m6) (m7 := m7) (m8 := m8) (by simpa using hc3) (Nat.min ps.length qs.length - k)
      have hkj := add_min (k := k) (a := ps.length) (b := qs.length) (by omega) (by omega)
      rw [hkj] at hstop
      rw [← hstop]
      refine WC.exit ?_
      refine En.then_exit ?_
      refine En.block_exit' rfl ?_
      refine En.then_exit ?_
      refine En.then_exit ?_
      refine En.block_exit ?_
      refine En.next ?_
      refine WC.seq ?_
      refine WC.region ?_
      refine Lt.ofWL.step rfl rfl rfl (OpV.loadAll rfl (.head _) ag_54) ?_
      refine Lt.ofWL.step rfl rfl rfl (OpV.move rfl) ?_
      refine WL.heavy0 rfl rfl (OpH.storeTo (A := [_, _]) [_, _, _, _, _, _, _, _, _, _, _, _] rfl rfl rfl ts_54 rfl rfl rfl ?_)
      refine Lt.ofWL.step rfl rfl rfl (OpV.assign rfl) ?_
      refine WL.nil ?_
      refine En.next ?_
      refine WC.ret ?_
      refine En.ret2 rfl (Res.cell rfl (.tail _ (.tail _ (.head _))) ag_54) (Res.tmp rfl) ?_
      intro w' hs
      exact ⟨_, _, rfl, ⟨_, _, rfl, rfl⟩, hs.sub (.cons _ (.cons_cons _ (.cons _ (.cons _ (.slnil)))))⟩
    ·
      intro hc3
      have hok : paceOk m0 m1 m2 m3 m4 m5 m6 m7 m8 e (runTo m0 m1 m2 m3 m4 m5 m6 m7 m8 e l xs ps qs k).1 (runTo m0 m1 m2 m3 m4 m5 m6 m7 m8 e l xs ps qs k).2.1 = true := by simpa using hc3
      have hnI : nextL m0 m1 m2 m3 m4 m5 m6 m7 m8 e (runTo m0 m1 m2 m3 m4 m5 m6 m7 m8 e l xs ps qs k).1 (runTo m0 m1 m2 m3 m4 m5 m6 m7 m8 e l xs ps qs k).2.1 p q = nextI m0 m1 m2 m3 m4 m5 m6 m7 m8 e (runTo m0 m1 m2 m3 m4 m5 m6 m7 m8 e l xs ps qs k).1 (runTo m0 m1 m2 m3 m4 m5 m6 m7 m8 e l xs ps qs k).2.1 p q := if_pos hok
      refine WC.skip ?_
      refine En.next ?_
      refine WC.seq ?_
      refine WC.drawnH [_, _] ([_, _]) (fun _ h => h) (by kernel_rfl) ?_
      refine WAE.take (i := 0) rfl (by kernel_rfl) (by kernel_rfl) (by kernel_rfl) rfl rfl rfl (OpV.move rfl) ?_
      refine WAE.take (i := 1) rfl (by kernel_rfl) (by kernel_rfl) (by kernel_rfl) rfl rfl rfl (OpV.move rfl) ?_
      refine WAE.take (i := 2) rfl (by kernel_rfl) (by kernel_rfl) (by kernel_rfl) rfl rfl rfl (OpV.idx1 rfl rfl se_55 (by omega)) ?_
      refine WAE.take (i := 3) rfl (by kernel_rfl) (by kernel_rfl) (by kernel_rfl) rfl rfl rfl (OpV.load1 rfl pt_4 (fun w hs => hs.cell hcell)) ?_
      refine WAE.take (i := 4) rfl (by kernel_rfl) (by kernel_rfl) (by kernel_rfl) rfl rfl rfl (OpV.move rfl) ?_
      refine WAE.take (i := 5) rfl (by kernel_rfl) (by kernel_rfl) (by kernel_rfl) rfl rfl rfl (OpV.move rfl) ?_
      refine WAE.take (i := 6) rfl (by kernel_rfl) (by kernel_rfl) (by kernel_rfl) rfl rfl rfl (OpV.idx1 rfl rfl se_55 (by omega)) ?_
      refine WAE.take (i := 7) rfl (by kernel_rfl) (by kernel_rfl) (by kernel_rfl) rfl rfl rfl (OpV.load1 rfl pt_4 (fun w hs => hs.cell hcell2)) ?_
      refine WAE.all (rs := [8]) (by kernel_rfl) rfl (AllR.cons rfl rfl rfl rfl ?_ AllR.nil)
      refine OpH.callX (evs.cons rfl (evs.cons rfl (evs.cons rfl (evs.nil)))) ca_77 (fun w hs => i_next _ _ _ _ _ _ _ _ _ _ _ _ _ _ _ _ _ _ _ w _ hs rfl (by dsimp only; omega)) ?_
      rintro _ _ ⟨a4, c4, rfl, rfl⟩
      refine ⟨[_, _], rfl, ?_⟩
      refine WAE.rebase (H := []) ?_
      refine WAE.done (by kernel_rfl) ?_ _
      refine En.next ?_
      refine WC.cond rfl ?_ ?_
      ·
        intro hc5
        refine WC.region ?_
        refine Lt.ofWL.step rfl rfl rfl (OpV.move rfl) ?_
        refine Lt.ofWL.step rfl rfl rfl (OpV.addW rfl rfl) ?_
        refine Lt.ofWL.step rfl rfl rfl (OpV.assign rfl) ?_
        refine WL.nil ?_
        refine En.block_norm ?_
        refine En.next ?_
        refine WC.region ?_
        refine Lt.ofWL.step rfl rfl rfl (OpV.add rfl rfl ⟨by omega, by omega⟩) ?_
        refine Lt.ofWL.step rfl rfl rfl (OpV.move rfl) ?_
        refine WL.nil ?_
        have hR : runTo m0 m1 m2 m3 m4 m5 m6 m7 m8 e l xs ps qs (k + 1) = ((nextI m0 m1 m2 m3 m4 m5 m6 m7 m8 e (runTo m0 m1 m2 m3 m4 m5 m6 m7 m8 e l xs ps qs k).1 (runTo m0 m1 m2 m3 m4 m5 m6 m7 m8 e l xs ps qs k).2.1 p q).1, (nextI m0 m1 m2 m3 m4 m5 m6 m7 m8 e (runTo m0 m1 m2 m3 m4 m5 m6 m7 m8 e l xs ps qs k).1 (runTo m0 m1 m2 m3 m4 m5 m6 m7 m8 e l xs ps qs k).2.1 p q).2.1, IntKind.i64.wrap ((runTo m0 m1 m2 m3 m4 m5 m6 m7 m8 e l xs ps qs k).2.2 + 1)) := by rw [runTo_succ hpx hqx]; unfold rstep; rw [hnI, if_pos hc5]
        refine En.round (k + 1, a4, c4) (by dsimp only; omega) (by dsimp only; omega) ?_ ?_
        · simp only [hR]; exact Sub.cons rfl (Sub.cons rfl (Sub.cons rfl (Sub.cons rfl (Sub.cons rfl (Sub.cons rfl (Sub.cons rfl (Sub.nil _)))))))
        · simp only [hR]; exact (fun _ h => h.sub (.cons_cons _ (.cons_cons _ (.cons_cons _ (.cons_cons _ (.slnil))))))
      ·
        intro hc5
        refine WC.skip ?_
        refine En.block_norm ?_
        refine En.next ?_
        refine WC.region ?_
        refine Lt.ofWL.step rfl rfl rfl (OpV.add rfl rfl ⟨by omega, by omega⟩) ?_
        refine Lt.ofWL.step rfl rfl rfl (OpV.move rfl) ?_
        refine WL.nil ?_
        have hR : runTo m0 m1 m2 m3 m4 m5 m6 m7 m8 e l xs ps qs (k + 1) = ((nextI m0 m1 m2 m3 m4 m5 m6 m7 m8 e (runTo m0 m1 m2 m3 m4 m5 m6 m7 m8 e l xs ps qs k).1 (runTo m0 m1 m2 m3 m4 m5 m6 m7 m8 e l xs ps qs k).2.1 p q).1, (nextI m0 m1 m2 m3 m4 m5 m6 m7 m8 e (runTo m0 m1 m2 m3 m4 m5 m6 m7 m8 e l xs ps qs k).1 (runTo m0 m1 m2 m3 m4 m5 m6 m7 m8 e l xs ps qs k).2.1 p q).2.1, (runTo m0 m1 m2 m3 m4 m5 m6 m7 m8 e l xs ps qs k).2.2) := by rw [runTo_succ hpx hqx]; unfold rstep; rw [hnI, if_neg (by rw [hc5]; exact Bool.false_ne_true)]
        refine En.round (k + 1, a4, c4) (by dsimp only; omega) (by dsimp only; omega) ?_ ?_
        · simp only [hR]; exact Sub.cons rfl (Sub.cons rfl (Sub.cons rfl (Sub.cons rfl (Sub.cons rfl (Sub.cons rfl (Sub.cons rfl (Sub.nil _)))))))
        · simp only [hR]; exact (fun _ h => h.sub (.cons_cons _ (.cons_cons _ (.cons_cons _ (.cons_cons _ (.slnil))))))
  ·
    intro hc2
    have hK2 := hK.2
    have hK1 := hK.1
    dsimp only at hK1 hK2
    have hge : ¬ (k < n2 ∧ k < n3) := by have := of_decide_eq_false hc2; omega
    have hkk : k = Nat.min ps.length qs.length := by show k = min _ _; omega
    rw [hkk]
    refine WC.exit ?_
    refine En.then_exit ?_
    refine En.then_exit ?_
    refine En.block_exit ?_
    refine En.next ?_
    refine WC.seq ?_
    refine WC.region ?_
    refine Lt.ofWL.step rfl rfl rfl (OpV.loadAll rfl (.head _) ag_54) ?_
    refine Lt.ofWL.step rfl rfl rfl (OpV.move rfl) ?_
    refine WL.heavy0 rfl rfl (OpH.storeTo (A := [_, _]) [_, _, _, _, _, _, _, _, _, _, _, _] rfl rfl rfl ts_54 rfl rfl rfl ?_)
    refine Lt.ofWL.step rfl rfl rfl (OpV.assign rfl) ?_
    refine WL.nil ?_
    refine En.next ?_
    refine WC.ret ?_
    refine En.ret2 rfl (Res.cell rfl (.tail _ (.tail _ (.head _))) ag_54) (Res.tmp rfl) ?_
    intro w' hs
    exact ⟨_, _, rfl, ⟨_, _, rfl, rfl⟩, hs.sub (.cons _ (.cons_cons _ (.cons _ (.cons _ (.slnil)))))⟩

theorem w_RunPace (m0 m1 m2 m3 m4 m5 m6 m7 m8 e l : Int) (a : Option Addr) (n c : Nat) (xs : List Int) (a2 : Option Addr) (n2 c2 : Nat) (ps : List Bool) (a3 : Option Addr) (n3 c3 : Nat) (qs : List Bool) (w : World) (hr : RdI w a n xs) (hp : RdB w a2 n2 ps) (hq : RdB w a3 n3 qs):
    Calls Try.prog 14 #[.agg #[.int .i64 m0, .int .i64 m1, .int .i64 m2, .int .i64 m3, .int .i64 m4, .int .i64 m5, .int .i64 m6, .int .i64 m7, .int .i64 m8, .int .i64 e, .int .i64 l, .slice a n c], .slice a2 n2 c2, .slice a3 n3 c3] w fun en w' => en = .returned (.bool true) ∧ Ext w w' := by
  obtain rfl := hr.len
  have hl2 := hp.len
  have hl3 := hq.len
  have hbd := hr.bd
  have hbp := hp.bd
  have hbq := hq.bd
  refine enter (vs := [_, _, _]) Try.func14 rfl rfl rfl rfl ?_
  refine WC.seq ?_
  refine WC.region ?_
  refine WL.heavy rfl rfl rfl (OpH.box rfl rfl ?_)
  intro b0
  refine Lt.ofWL.step rfl rfl rfl (OpV.assign rfl) ?_
  refine WL.nil ?_
  refine En.next ?_
  refine WC.seq ?_
  refine WC.seq ?_
  refine WC.region ?_
  refine Lt.ofWL.step rfl rfl rfl (OpV.move rfl) ?_
  refine Lt.ofWL.step rfl rfl rfl (OpV.len rfl si_55 rfl) ?_
  refine Lt.ofWL.step rfl rfl rfl (OpV.gtr rfl rfl) ?_
  refine WL.nil ?_
  refine En.next ?_
  refine WC.cond rfl ?_ ?_
  ·
    intro hc1
    refine WC.seq ?_
    refine WC.region ?_
    refine Lt.ofWL.step rfl rfl rfl (OpV.assign rfl) ?_
    refine WL.nil ?_
    refine En.next ?_
    refine WC.ret ?_
    refine En.then_ret ?_
    refine En.ret1 rfl (Res.tmp rfl) ?_
    intro w' hs
    exact ⟨rfl, hs.below⟩
  ·
    intro hc1
    have hn2 : n2 ≤ 1048576 := by have := of_decide_eq_false hc1; omega
    refine WC.skip ?_
    refine En.next ?_
    refine WC.seq ?_
    refine WC.seq ?_
    refine WC.region ?_
    refine Lt.ofWL.step rfl rfl rfl (OpV.move rfl) ?_
    refine Lt.ofWL.step rfl rfl rfl (OpV.len rfl si_55 rfl) ?_
    refine Lt.ofWL.step rfl rfl rfl (OpV.gtr rfl rfl) ?_
    refine WL.nil ?_
    refine En.next ?_
    refine WC.cond rfl ?_ ?_
    ·
      intro hc2
      refine WC.seq ?_
      refine WC.region ?_
      refine Lt.ofWL.step rfl rfl rfl (OpV.assign rfl) ?_
      refine WL.nil ?_
      refine En.next ?_
      refine WC.ret ?_
      refine En.then_ret ?_
      refine En.ret1 rfl (Res.tmp rfl) ?_
      intro w' hs
      exact ⟨rfl, hs.below⟩
    ·
      intro hc2
      have hn3 : n3 ≤ 1048576 := by have := of_decide_eq_false hc2; omega
      refine WC.skip ?_
      refine En.next ?_
      refine WC.seq ?_
      refine WC.region ?_
      refine Lt.ofWL.step rfl rfl rfl (OpV.assign rfl) ?_
      refine WL.nil ?_
      refine En.next ?_
      refine WC.seq ?_
      refine WC.region ?_
      refine Lt.ofWL.step rfl rfl rfl (OpV.loadAll rfl (.head _) ag_64) ?_
      refine Lt.ofWL.step rfl rfl rfl (OpV.move rfl) ?_
      refine Lt.ofWL.step rfl rfl rfl (OpV.call (evs.cons rfl (evs.cons rfl (evs.nil))) ca_40 (fun w hs => l_szPace _ _ _ _ _ _ _ _ _ _ _ _ _ _ _ w ⟨by omega, by omega⟩ (by omega))) ?_
      refine Lt.ofWL.step rfl rfl rfl (OpV.assign rfl) ?_
      refine WL.nil ?_
      refine En.next ?_
      refine WC.seq ?_
      refine WC.seq ?_
      refine WC.region ?_
      refine Lt.ofWL.step rfl rfl rfl (OpV.move rfl) ?_
      refine Lt.ofWL.step rfl rfl rfl (OpV.lss rfl rfl) ?_
      refine WL.nil ?_
      refine En.next ?_
      refine WC.cond rfl ?_ ?_
      ·
        intro hc3
        refine WC.seq ?_
        refine WC.region ?_
        refine Lt.ofWL.step rfl rfl rfl (OpV.assign rfl) ?_
        refine WL.nil ?_
        refine En.next ?_
        refine WC.ret ?_
        refine En.then_ret ?_
        refine En.ret1 rfl (Res.tmp rfl) ?_
        intro w' hs
        exact ⟨rfl, hs.below⟩
      ·
        intro hc3
        have hn := szs_le (of_decide_eq_false hc3)
        have hnm : Nat.min ps.length qs.length ≤ 1048576 := Nat.le_trans (Nat.min_le_left _ _) (by omega)
        have hnx : (runTo m0 m1 m2 m3 m4 m5 m6 m7 m8 e l xs ps qs (Nat.min ps.length qs.length)).2.1.length ≤ 4000000000 := by have := runTo_len m0 m1 m2 m3 m4 m5 m6 m7 m8 e l xs ps qs (Nat.min ps.length qs.length); omega
        refine WC.skip ?_
        refine En.next ?_
        refine WC.seq ?_
        refine WC.region ?_
        refine Lt.ofWL.step rfl rfl rfl (OpV.loadAll rfl (.head _) ag_64) ?_
        refine WL.heavy rfl rfl rfl (OpH.callR (evs.cons rfl (evs.nil)) ca_42 (fun w hs => l_toPace _ _ _ _ _ _ _ _ _ _ _ _ _ _ _ w (hr.ext hs.below) (by omega)) ?_)
        rintro _ _ ⟨a14, c14, rfl, rfl⟩
        refine Lt.ofWL.step rfl rfl rfl (OpV.move rfl) ?_
        refine WL.heavy rfl rfl rfl (OpH.callR (evs.cons rfl (evs.nil)) ca_52 (fun w hs => l_toBoolS _ _ _ _ w (hp.ext hs.below) (by omega)) ?_)
        rintro _ _ ⟨a15, c15, rfl, rfl⟩
        refine Lt.ofWL.step rfl rfl rfl (OpV.move rfl) ?_
        refine WL.heavy rfl rfl rfl (OpH.callR (evs.cons rfl (evs.nil)) ca_52 (fun w hs => l_toBoolS _ _ _ _ w (hq.ext hs.below) (by omega)) ?_)
        rintro _ _ ⟨a16, c16, rfl, rfl⟩
        refine WL.heavy rfl rfl rfl (OpH.callR (evs.cons rfl (evs.cons rfl (evs.cons rfl (evs.nil)))) ca_51 (fun w hs => s_RunPace _ _ _ _ _ _ _ _ _ _ _ _ _ _ _ _ _ _ _ _ _ _ _ w (RdI.row (hs.mem (.tail _ (.tail _ (.head _)))) hr.rng) (RdB.row (hs.mem (.tail _ (.head _)))) (RdB.row (hs.mem (.head _))) (by omega) (by omega)) ?_)
        rintro _ _ ⟨a17, c17, rfl, rfl⟩
        refine Lt.ofWL.step rfl rfl rfl (OpV.move rfl) ?_
        refine Lt.ofWL.step rfl rfl rfl (OpV.extract rfl rfl) ?_
        refine Lt.ofWL.step rfl rfl rfl (OpV.extract rfl rfl) ?_
        refine WL.heavy rfl rfl rfl (OpH.alloc zc_54 ?_)
        intro b5
        refine WL.heavy0 rfl rfl (OpH.storeTo (A := []) [_, _, _, _, _, _, _, _, _, _, _, _] rfl rfl rfl ts_54 rfl rfl rfl ?_)
        refine Lt.ofWL.step rfl rfl rfl (OpV.assign rfl) ?_
        refine WL.nil ?_
        refine En.next ?_
        refine WC.seq ?_
        refine WC.region ?_
        refine Lt.ofWL.step rfl rfl rfl (OpV.loadAll rfl (.tail _ (.tail _ (.tail _ (.tail _ (.tail _ (.head _)))))) ag_64) ?_
        refine WL.heavy rfl rfl rfl (OpH.callR (evs.cons rfl (evs.nil)) ca_42 (fun w hs => l_toPace _ _ _ _ _ _ _ _ _ _ _ _ _ _ _ w (hr.ext hs.below) (by omega)) ?_)
        rintro _ _ ⟨a18, c18, rfl, rfl⟩
        refine WL.heavy rfl rfl rfl (OpH.alloc zc_54 ?_)
        intro b7
        refine WL.heavy0 rfl rfl (OpH.storeTo (A := []) [_, _, _, _, _, _, _, _, _, _, _, _] rfl rfl rfl ts_54 rfl rfl rfl ?_)
        refine WL.nil ?_
        refine En.next ?_
        refine WC.seq ?_
        refine WC.region ?_
        refine Lt.ofWL.step rfl rfl rfl (OpV.move rfl) ?_
        refine WL.heavy rfl rfl rfl (OpH.callR (evs.cons rfl (evs.nil)) ca_52 (fun w hs => l_toBoolS _ _ _ _ w (hp.ext hs.below) (by omega)) ?_)
        rintro _ _ ⟨a19, c19, rfl, rfl⟩
        refine Lt.ofWL.step rfl rfl rfl (OpV.assign rfl) ?_
        refine WL.nil ?_
        refine En.next ?_
        refine WC.seq ?_
        refine WC.region ?_
        refine Lt.ofWL.step rfl rfl rfl (OpV.move rfl) ?_
        refine WL.heavy rfl rfl rfl (OpH.callR (evs.cons rfl (evs.nil)) ca_52 (fun w hs => l_toBoolS _ _ _ _ w (hq.ext hs.below) (by omega)) ?_)
        rintro _ _ ⟨a110, c110, rfl, rfl⟩
        refine Lt.ofWL.step rfl rfl rfl (OpV.assign rfl) ?_
        refine WL.nil ?_
        refine En.next ?_
        refine WC.seq ?_
        refine WC.region ?_
        refine Lt.ofWL.step rfl rfl rfl (OpV.loadAll rfl (.tail _ (.tail _ (.head _))) ag_54) ?_
        refine Lt.ofWL.step rfl rfl rfl (OpV.move rfl) ?_
        refine Lt.ofWL.step rfl rfl rfl (OpV.move rfl) ?_
        refine WL.heavy rfl rfl rfl (OpH.callR (evs.cons rfl (evs.cons rfl (evs.cons rfl (evs.nil)))) ca_35 (fun w hs => i_RunPace _ _ _ _ _ _ _ _ _ _ _ _ _ _ _ _ _ _ _ _ _ _ _ w (RdI.row (hs.mem (.tail _ (.tail _ (.tail _ (.head _))))) hr.rng) (RdB.row (hs.mem (.tail _ (.head _)))) (RdB.row (hs.mem (.head _))) (by omega) (by omega)) ?_)
        rintro _ _ ⟨a111, c111, rfl, rfl⟩
        refine Lt.ofWL.step rfl rfl rfl (OpV.move rfl) ?_
        refine Lt.ofWL.step rfl rfl rfl (OpV.extract rfl rfl) ?_
        refine Lt.ofWL.step rfl rfl rfl (OpV.extract rfl rfl) ?_
        refine WL.heavy rfl rfl rfl (OpH.alloc zc_54 ?_)
        intro b11
        refine WL.heavy0 rfl rfl (OpH.storeTo (A := []) [_, _, _, _, _, _, _, _, _, _, _, _] rfl rfl rfl ts_54 rfl rfl rfl ?_)
        refine Lt.ofWL.step rfl rfl rfl (OpV.assign rfl) ?_
        refine WL.nil ?_
        refine En.next ?_
        refine WC.seq ?_
        refine WC.seq ?_
        refine WC.region ?_
        refine Lt.ofWL.step rfl rfl rfl (OpV.loadAll rfl (.head _) ag_54) ?_
        refine Lt.ofWL.step rfl rfl rfl (OpV.loadAll rfl (.tail _ (.tail _ (.tail _ (.tail _ (.tail _ (.tail _ (.head _))))))) ag_54) ?_
        refine Lt.ofWL.step rfl rfl rfl (OpV.call (evs.cons rfl (evs.cons rfl (evs.nil))) ca_43 (fun w hs => l_eqPace _ _ _ _ _ _ _ _ _ _ _ _ _ _ _ _ _ _ _ _ _ _ _ _ _ _ _ _ _ _ w (RdI.row (hs.mem (.tail _ (.head _))) (runTo_rng hr.rng _)) (RdI.row (hs.mem (.tail _ (.tail _ (.tail _ (.tail _ (.tail _ (.tail _ (.tail _ (.head _))))))))) (runTo_rng hr.rng _)))) ?_
        refine Lt.ofWL.step rfl rfl rfl (OpV.not rfl) ?_
        refine Lt.ofWL.step rfl rfl rfl (OpV.move rfl) ?_
        refine Lt.ofWL.or 58 62 61 (p := ?pz12) (rest := ?qz12) (B := ?Bz12) rfl ?Tz12 ?Fz12 ?az12 ?bz12 ?cz12 ?dz12 ?ez12
        case Tz12 =>
          intro hc13 hkz12
          refine Lt.ofWL.skip rfl rfl rfl ?_
          refine Lt.ofWL.skip rfl rfl rfl ?_
          refine Lt.ofWL.skip rfl rfl rfl ?_
          refine hkz12 _ ?_
          repeat (first | exact Sub.refl _ | refine Sub.skip rfl ?_)
        case Fz12 =>
          intro hc14 hkz12
          refine Lt.ofWL.step rfl rfl rfl (OpV.move rfl) ?_
          refine Lt.ofWL.step rfl rfl rfl (OpV.move rfl) ?_
          refine Lt.ofWL.step rfl rfl rfl (OpV.neq rfl rfl) ?_
          refine hkz12 _ ?_ ?_
          exact rfl
          repeat (first | exact Sub.refl _ | refine Sub.skip rfl ?_)
        case az12 => exact rfl
        case bz12 => exact rfl
        case cz12 => exact rfl
        case dz12 => exact rfl
        refine WL.nil ?_
        refine En.next ?_
        refine WC.cond rfl ?_ ?_
        ·
          intro hc15
          refine WC.seq ?_
          refine WC.region ?_
          refine Lt.ofWL.step rfl rfl rfl (OpV.assign rfl) ?_
          refine WL.nil ?_
          refine En.next ?_
          refine WC.ret ?_
          refine En.then_ret ?_
          refine En.ret1 rfl (Res.tmp rfl) ?_
          intro w' hs
          exfalso
          simp [eqPc_self] at hc15
        ·
          intro hc15
          refine WC.skip ?_
          refine En.next ?_
          refine WC.seq ?_
          refine WC.seq ?_
          refine WC.drawnH [] ([_, _, _, _, _, _, _, _, _, _, _, _]) (fun _ h => h) (by kernel_rfl) ?_
          refine WAE.take (i := 0) rfl (by kernel_rfl) (by kernel_rfl) (by kernel_rfl) rfl rfl rfl (OpV.loadAll rfl (.tail _ (.tail _ (.tail _ (.tail _ (.head _))))) ag_54) ?_
          refine WAE.take (i := 1) rfl (by kernel_rfl) (by kernel_rfl) (by kernel_rfl) rfl rfl rfl (OpV.loadAll rfl (.tail _ (.tail _ (.tail _ (.tail _ (.tail _ (.tail _ (.tail _ (.tail _ (.tail _ (.tail _ (.tail _ (.head _)))))))))))) ag_64) ?_
          refine WAE.all (rs := [2]) (by kernel_rfl) rfl (AllR.cons rfl rfl rfl rfl ?_ AllR.nil)
          refine OpH.callR (evs.cons rfl (evs.nil)) ca_42 (fun w hs => l_toPace _ _ _ _ _ _ _ _ _ _ _ _ _ _ _ w (hr.ext hs.below) (by omega)) ?_
          rintro _ _ ⟨a116, c116, rfl, rfl⟩
          refine ⟨[_], rfl, ?_⟩
          refine WAE.rebase (H := []) ?_
          refine WAE.take (i := 3) rfl (by kernel_rfl) (by kernel_rfl) (by kernel_rfl) rfl rfl rfl (OpV.call (evs.cons rfl (evs.cons rfl (evs.nil))) ca_43 (fun w hs => l_eqPace _ _ _ _ _ _ _ _ _ _ _ _ _ _ _ _ _ _ _ _ _ _ _ _ _ _ _ _ _ _ w (RdI.row (hs.mem (.tail _ (.tail _ (.tail _ (.tail _ (.tail _ (.tail _ (.head _)))))))) hr.rng) (RdI.row (hs.mem (.head _)) hr.rng))) ?_
          refine WAE.take (i := 4) rfl (by kernel_rfl) (by kernel_rfl) (by kernel_rfl) rfl rfl rfl (OpV.not rfl) ?_
          refine WAE.done (by kernel_rfl) ?_ _
          refine En.next ?_
          refine WC.cond rfl ?_ ?_
          ·
            intro hc17
            refine WC.seq ?_
            refine WC.region ?_
            refine Lt.ofWL.step rfl rfl rfl (OpV.assign rfl) ?_
            refine WL.nil ?_
            refine En.next ?_
            refine WC.ret ?_
            refine En.then_ret ?_
            refine En.ret1 rfl (Res.tmp rfl) ?_
            intro w' hs
            exfalso
            simp [eqPc_self] at hc17
          ·
            intro hc17
            refine WC.skip ?_
            refine En.next ?_
            refine WC.seq ?_
            refine WC.seq ?_
            refine WC.region ?_
            refine Lt.ofWL.step rfl rfl rfl (OpV.move rfl) ?_
            refine Lt.ofWL.step rfl rfl rfl (OpV.move rfl) ?_
            refine WL.heavy rfl rfl rfl (OpH.callR (evs.cons rfl (evs.nil)) ca_52 (fun w hs => l_toBoolS _ _ _ _ w (hp.ext hs.below) (by omega)) ?_)
            rintro _ _ ⟨a118, c118, rfl, rfl⟩
            refine Lt.ofWL.step rfl rfl rfl (OpV.call (evs.cons rfl (evs.cons rfl (evs.nil))) ca_53 (fun w hs => l_eqBoolS _ _ _ _ _ _ _ _ w (RdB.row (hs.mem (.tail _ (.tail _ (.tail _ (.tail _ (.tail _ (.head _)))))))) (RdB.row (hs.mem (.head _))))) ?_
            refine Lt.ofWL.step rfl rfl rfl (OpV.not rfl) ?_
            refine WL.nil ?_
            refine En.next ?_
            refine WC.cond rfl ?_ ?_
            ·
              intro hc19
              refine WC.seq ?_
              refine WC.region ?_
              refine Lt.ofWL.step rfl rfl rfl (OpV.assign rfl) ?_
              refine WL.nil ?_
              refine En.next ?_
              refine WC.ret ?_
              refine En.then_ret ?_
              refine En.ret1 rfl (Res.tmp rfl) ?_
              intro w' hs
              exfalso
              simp at hc19
            ·
              intro hc19
              refine WC.skip ?_
              refine En.next ?_
              refine WC.seq ?_
              refine WC.seq ?_
              refine WC.region ?_
              refine Lt.ofWL.step rfl rfl rfl (OpV.move rfl) ?_
              refine Lt.ofWL.step rfl rfl rfl (OpV.move rfl) ?_
              refine WL.heavy rfl rfl rfl (OpH.callR (evs.cons rfl (evs.nil)) ca_52 (fun w hs => l_toBoolS _ _ _ _ w (hq.ext hs.below) (by omega)) ?_)
              rintro _ _ ⟨a120, c120, rfl, rfl⟩
              refine Lt.ofWL.step rfl rfl rfl (OpV.call (evs.cons rfl (evs.cons rfl (evs.nil))) ca_53 (fun w hs => l_eqBoolS _ _ _ _ _ _ _ _ w (RdB.row (hs.mem (.tail _ (.tail _ (.tail _ (.tail _ (.tail _ (.head _)))))))) (RdB.row (hs.mem (.head _))))) ?_
              refine Lt.ofWL.step rfl rfl rfl (OpV.not rfl) ?_
              refine WL.nil ?_
              refine En.next ?_
              refine WC.cond rfl ?_ ?_
              ·
                intro hc21
                refine WC.seq ?_
                refine WC.region ?_
                refine Lt.ofWL.step rfl rfl rfl (OpV.assign rfl) ?_
                refine WL.nil ?_
                refine En.next ?_
                refine WC.ret ?_
                refine En.then_ret ?_
                refine En.ret1 rfl (Res.tmp rfl) ?_
                intro w' hs
                exfalso
                simp at hc21
              ·
                intro hc21
                refine WC.skip ?_
                refine En.next ?_
                refine WC.seq ?_
                refine WC.region ?_
                refine Lt.ofWL.step rfl rfl rfl (OpV.assign rfl) ?_
                refine WL.nil ?_
                refine En.next ?_
                refine WC.seq ?_
                refine WC.region ?_
                refine Lt.ofWL.step rfl rfl rfl (OpV.loadAll rfl (.tail _ (.tail _ (.tail _ (.tail _ (.tail _ (.tail _ (.tail _ (.head _)))))))) ag_54) ?_
                refine Lt.ofWL.step rfl rfl rfl (OpV.move rfl) ?_
                refine WL.wkF (fun _ h => h.perm (List.perm_middle (l₁ := [_, _, _, _, _, _, _, _]))) ?_
                refine WL.heavy rfl rfl rfl (OpH.callM (evs.cons rfl (evs.cons rfl (evs.nil))) ca_49 (fun w hs => l_markPace _ _ _ _ _ _ _ _ _ _ _ _ _ _ _ _ _ w _ hs) ?_)
                refine Lt.ofWL.step rfl rfl rfl (OpV.assign rfl) ?_
                refine WL.nil ?_
                refine En.next ?_
                refine WC.seq ?_
                refine WC.region ?_
                refine Lt.ofWL.step rfl rfl rfl (OpV.move rfl) ?_
                refine Lt.ofWL.step rfl rfl rfl (OpV.move rfl) ?_
                refine WL.wkF (fun _ h => h.perm (List.perm_middle (l₁ := [_, _, _, _, _, _, _]))) ?_
                refine WL.heavy rfl rfl rfl (OpH.callM (evs.cons rfl (evs.cons rfl (evs.nil))) ca_54 (fun w hs => l_markBoolS _ _ _ _ _ _ w _ hs) ?_)
                refine Lt.ofWL.step rfl rfl rfl (OpV.assign rfl) ?_
                refine WL.nil ?_
                refine En.next ?_
                refine WC.seq ?_
                refine WC.region ?_
                refine Lt.ofWL.step rfl rfl rfl (OpV.move rfl) ?_
                refine Lt.ofWL.step rfl rfl rfl (OpV.move rfl) ?_
                refine WL.wkF (fun _ h => h.perm (List.perm_middle (l₁ := [_, _, _, _, _, _, _]))) ?_
                refine WL.heavy rfl rfl rfl (OpH.callM (evs.cons rfl (evs.cons rfl (evs.nil))) ca_54 (fun w hs => l_markBoolS _ _ _ _ _ _ w _ hs) ?_)
                refine Lt.ofWL.step rfl rfl rfl (OpV.assign rfl) ?_
                refine WL.nil ?_
                refine En.next ?_
                refine WC.seq ?_
                refine WC.seq ?_
                refine WC.region ?_
                refine Lt.ofWL.step rfl rfl rfl (OpV.move rfl) ?_
                refine Lt.ofWL.step rfl rfl rfl (OpV.lss rfl rfl) ?_
                refine Lt.ofWL.step rfl rfl rfl (OpV.move rfl) ?_
                refine Lt.ofWL.or 89 94 93 (p := ?pz22) (rest := ?qz22) (B := ?Bz22) rfl ?Tz22 ?Fz22 ?az22 ?bz22 ?cz22 ?dz22 ?ez22
                case Tz22 =>
                  intro hc23 hkz22
                  refine Lt.ofWL.skip rfl rfl rfl ?_
                  refine Lt.ofWL.skip rfl rfl rfl ?_
                  refine Lt.ofWL.skip rfl rfl rfl ?_
                  refine Lt.ofWL.skip rfl rfl rfl ?_
                  refine hkz22 _ ?_
                  repeat (first | exact Sub.refl _ | refine Sub.skip rfl ?_)
                case Fz22 =>
                  intro hc24 hkz22
                  refine Lt.ofWL.step rfl rfl rfl (OpV.loadAll rfl (.tail _ (.tail _ (.tail _ (.tail _ (.tail _ (.tail _ (.head _))))))) ag_54) ?_
                  refine Lt.ofWL.step rfl rfl rfl (OpV.loadAll rfl (.tail _ (.tail _ (.tail _ (.tail _ (.tail _ (.tail _ (.tail _ (.tail _ (.tail _ (.head _)))))))))) ag_54) ?_
                  refine Lt.ofWL.step rfl rfl rfl (OpV.call (evs.cons rfl (evs.cons rfl (evs.nil))) ca_43 (fun w hs => l_eqPace _ _ _ _ _ _ _ _ _ _ _ _ _ _ _ _ _ _ _ _ _ _ _ _ _ _ _ _ _ _ w (RdI.row (hs.mem (.tail _ (.tail _ (.tail _ (.tail _ (.tail _ (.tail _ (.tail _ (.head _))))))))) (runTo_rng hr.rng _)) (RdI.row (hs.mem (.tail _ (.tail _ (.tail _ (.tail _ (.tail _ (.tail _ (.tail _ (.tail _ (.tail _ (.tail _ (.head _)))))))))))) (runTo_rng hr.rng _)))) ?_
                  refine Lt.ofWL.step rfl rfl rfl (OpV.not rfl) ?_
                  refine hkz22 _ ?_ ?_
                  exact rfl
                  repeat (first | exact Sub.refl _ | refine Sub.skip rfl ?_)
                case az22 => exact rfl
                case bz22 => exact rfl
                case cz22 => exact rfl
                case dz22 => exact rfl
                refine Lt.ofWL.step rfl rfl rfl (OpV.move rfl) ?_
                refine Lt.ofWL.or 95 99 98 (p := ?pz25) (rest := ?qz25) (B := ?Bz25) rfl ?Tz25 ?Fz25 ?az25 ?bz25 ?cz25 ?dz25 ?ez25
                case Tz25 =>
                  intro hc26 hkz25
                  refine Lt.ofWL.skip rfl rfl rfl ?_
                  refine Lt.ofWL.skip rfl rfl rfl ?_
                  refine Lt.ofWL.skip rfl rfl rfl ?_
                  refine hkz25 _ ?_
                  repeat (first | exact Sub.refl _ | refine Sub.skip rfl ?_)
                case Fz25 =>
                  intro hc27 hkz25
                  refine Lt.ofWL.step rfl rfl rfl (OpV.move rfl) ?_
                  refine Lt.ofWL.step rfl rfl rfl (OpV.move rfl) ?_
                  refine Lt.ofWL.step rfl rfl rfl (OpV.neq rfl rfl) ?_
                  refine hkz25 _ ?_ ?_
                  exact rfl
                  repeat (first | exact Sub.refl _ | refine Sub.skip rfl ?_)
                case az25 => exact rfl
                case bz25 => exact rfl
                case cz25 => exact rfl
                case dz25 => exact rfl
                refine WL.nil ?_
                refine En.next ?_
                refine WC.cond rfl ?_ ?_
                ·
                  intro hc28
                  refine WC.seq ?_
                  refine WC.region ?_
                  refine Lt.ofWL.step rfl rfl rfl (OpV.assign rfl) ?_
                  refine WL.nil ?_
                  refine En.next ?_
                  refine WC.ret ?_
                  refine En.then_ret ?_
                  refine En.ret1 rfl (Res.tmp rfl) ?_
                  intro w' hs
                  exfalso
                  simp [cnt_pos3 (n := xs.length) (n2 := n2) (n3 := n3) (by omega) (by omega) (by omega), eqPc_self] at hc28
                ·
                  intro hc28
                  refine WC.skip ?_
                  refine En.next ?_
                  refine WC.seq ?_
                  refine WC.region ?_
                  refine Lt.ofWL.step rfl rfl rfl (OpV.assign rfl) ?_
                  refine WL.nil ?_
                  refine En.next ?_
                  refine WC.seq ?_
                  refine WC.region ?_
                  refine Lt.ofWL.step rfl rfl rfl (OpV.loadAll rfl (.tail _ (.tail _ (.tail _ (.tail _ (.tail _ (.tail _ (.head _))))))) ag_54) ?_
                  refine Lt.ofWL.step rfl rfl rfl (OpV.move rfl) ?_
                  refine WL.wkF (fun _ h => h.perm (List.perm_middle (l₁ := [_, _, _, _, _, _, _]))) ?_
                  refine WL.heavy rfl rfl rfl (OpH.callM (evs.cons rfl (evs.cons rfl (evs.nil))) ca_49 (fun w hs => l_markPace _ _ _ _ _ _ _ _ _ _ _ _ _ _ _ _ _ w _ hs) ?_)
                  refine Lt.ofWL.step rfl rfl rfl (OpV.assign rfl) ?_
                  refine WL.nil ?_
                  refine En.next ?_
                  refine WC.seq ?_
                  refine WC.region ?_
                  refine Lt.ofWL.step rfl rfl rfl (OpV.assign rfl) ?_
                  refine WL.nil ?_
                  refine En.next ?_
                  refine WC.seq ?_
                  refine WC.region ?_
                  refine Lt.ofWL.step rfl rfl rfl (OpV.loadAll rfl (.tail _ (.tail _ (.tail _ (.tail _ (.tail _ (.tail _ (.tail _ (.head _)))))))) ag_54) ?_
                  refine Lt.ofWL.step rfl rfl rfl (OpV.move rfl) ?_
                  refine Lt.ofWL.step rfl rfl rfl (OpV.call (evs.cons rfl (evs.cons rfl (evs.nil))) ca_50 (fun w hs => l_heldPace _ _ _ _ _ _ _ _ _ _ _ _ _ _ _ _ w (RdI.row (hs.mem (.head _)) (marked_rng ⟨by decide, by decide⟩ _)))) ?_
                  refine Lt.ofWL.step rfl rfl rfl (OpV.assign rfl) ?_
                  refine WL.nil ?_
                  refine En.next ?_
                  refine WC.seq ?_
                  refine WC.seq ?_
                  refine WC.region ?_
                  refine Lt.ofWL.step rfl rfl rfl (OpV.move rfl) ?_
                  refine Lt.ofWL.step rfl rfl rfl (OpV.lss rfl rfl) ?_
                  refine WL.nil ?_
                  refine En.next ?_
                  refine WC.cond rfl ?_ ?_
                  ·
                    intro hc29
                    refine WC.seq ?_
                    refine WC.region ?_
                    refine Lt.ofWL.step rfl rfl rfl (OpV.assign rfl) ?_
                    refine WL.nil ?_
                    refine En.next ?_
                    refine WC.ret ?_
                    refine En.then_ret ?_
                    refine En.ret1 rfl (Res.tmp rfl) ?_
                    intro w' hs
                    exfalso
                    simp [heldN_marked hnx, cnt_pos hnx] at hc29
                  ·
                    intro hc29
                    refine WC.skip ?_
                    refine En.next ?_
                    refine WC.seq ?_
                    refine WC.seq ?_
                    refine WC.region ?_
                    refine Lt.ofWL.step rfl rfl rfl (OpV.move rfl) ?_
                    refine Lt.ofWL.step rfl rfl rfl (OpV.move rfl) ?_
                    refine Lt.ofWL.step rfl rfl rfl (OpV.neq rfl rfl) ?_
                    refine WL.nil ?_
                    refine En.next ?_
                    refine WC.cond rfl ?_ ?_
                    ·
                      intro hc30
                      refine WC.seq ?_
                      refine WC.region ?_
                      refine Lt.ofWL.step rfl rfl rfl (OpV.assign rfl) ?_
                      refine WL.nil ?_
                      refine En.next ?_
                      refine WC.ret ?_
                      refine En.then_ret ?_
                      refine En.ret1 rfl (Res.tmp rfl) ?_
                      intro w' hs
                      exfalso
                      simp [heldN_marked hnx] at hc30
                    ·
                      intro hc30
                      refine WC.skip ?_
                      refine En.next ?_
                      refine WC.seq ?_
                      refine WC.region ?_
                      refine Lt.ofWL.step rfl rfl rfl (OpV.loadAll rfl (.tail _ (.tail _ (.tail _ (.tail _ (.tail _ (.tail _ (.tail _ (.tail _ (.tail _ (.tail _ (.tail _ (.tail _ (.tail _ (.tail _ (.head _))))))))))))))) ag_64) ?_
                      refine WL.heavy rfl rfl rfl (OpH.callR (evs.cons rfl (evs.nil)) ca_42 (fun w hs => l_toPace _ _ _ _ _ _ _ _ _ _ _ _ _ _ _ w (hr.ext hs.below) (by omega)) ?_)
                      rintro _ _ ⟨a131, c131, rfl, rfl⟩
                      refine Lt.ofWL.step rfl rfl rfl (OpV.move rfl) ?_
                      refine WL.heavy rfl rfl rfl (OpH.callR (evs.cons rfl (evs.nil)) ca_52 (fun w hs => l_toBoolS _ _ _ _ w (hp.ext hs.below) (by omega)) ?_)
                      rintro _ _ ⟨a132, c132, rfl, rfl⟩
                      refine Lt.ofWL.step rfl rfl rfl (OpV.move rfl) ?_
                      refine WL.heavy rfl rfl rfl (OpH.callR (evs.cons rfl (evs.nil)) ca_52 (fun w hs => l_toBoolS _ _ _ _ w (hq.ext hs.below) (by omega)) ?_)
                      rintro _ _ ⟨a133, c133, rfl, rfl⟩
                      refine WL.heavy rfl rfl rfl (OpH.callR (evs.cons rfl (evs.cons rfl (evs.cons rfl (evs.nil)))) ca_35 (fun w hs => i_RunPace _ _ _ _ _ _ _ _ _ _ _ _ _ _ _ _ _ _ _ _ _ _ _ w (RdI.row (hs.mem (.tail _ (.tail _ (.head _)))) hr.rng) (RdB.row (hs.mem (.tail _ (.head _)))) (RdB.row (hs.mem (.head _))) (by omega) (by omega)) ?_)
                      rintro _ _ ⟨a134, c134, rfl, rfl⟩
                      refine Lt.ofWL.step rfl rfl rfl (OpV.move rfl) ?_
                      refine Lt.ofWL.step rfl rfl rfl (OpV.extract rfl rfl) ?_
                      refine Lt.ofWL.step rfl rfl rfl (OpV.extract rfl rfl) ?_
                      refine WL.heavy rfl rfl rfl (OpH.alloc zc_54 ?_)
                      intro b19
                      refine WL.heavy0 rfl rfl (OpH.storeTo (A := []) [_, _, _, _, _, _, _, _, _, _, _, _] rfl rfl rfl ts_54 rfl rfl rfl ?_)
                      refine Lt.ofWL.step rfl rfl rfl (OpV.assign rfl) ?_
                      refine WL.nil ?_
                      refine En.next ?_
                      refine WC.seq ?_
                      refine WC.seq ?_
                      refine WC.region ?_
                      refine Lt.ofWL.step rfl rfl rfl (OpV.loadAll rfl (.head _) ag_54) ?_
                      refine Lt.ofWL.step rfl rfl rfl (OpV.loadAll rfl (.tail _ (.tail _ (.tail _ (.tail _ (.tail _ (.tail _ (.tail _ (.tail _ (.tail _ (.tail _ (.tail _ (.tail _ (.tail _ (.tail _ (.head _))))))))))))))) ag_54) ?_
                      refine Lt.ofWL.step rfl rfl rfl (OpV.call (evs.cons rfl (evs.cons rfl (evs.nil))) ca_43 (fun w hs => l_eqPace _ _ _ _ _ _ _ _ _ _ _ _ _ _ _ _ _ _ _ _ _ _ _ _ _ _ _ _ _ _ w (RdI.row (hs.mem (.tail _ (.head _))) (runTo_rng hr.rng _)) (RdI.row (hs.mem (.tail _ (.tail _ (.tail _ (.tail _ (.tail _ (.tail _ (.tail _ (.tail _ (.tail _ (.tail _ (.tail _ (.tail _ (.tail _ (.tail _ (.tail _ (.head _))))))))))))))))) (runTo_rng hr.rng _)))) ?_
                      refine Lt.ofWL.step rfl rfl rfl (OpV.not rfl) ?_
                      refine Lt.ofWL.step rfl rfl rfl (OpV.move rfl) ?_
                      refine Lt.ofWL.or 125 129 128 (p := ?pz35) (rest := ?qz35) (B := ?Bz35) rfl ?Tz35 ?Fz35 ?az35 ?bz35 ?cz35 ?dz35 ?ez35
                      case Tz35 =>
                        intro hc36 hkz35
                        refine Lt.ofWL.skip rfl rfl rfl ?_
                        refine Lt.ofWL.skip rfl rfl rfl ?_
                        refine Lt.ofWL.skip rfl rfl rfl ?_
                        refine hkz35 _ ?_
                        repeat (first | exact Sub.refl _ | refine Sub.skip rfl ?_)
                      case Fz35 =>
                        intro hc37 hkz35
                        refine Lt.ofWL.step rfl rfl rfl (OpV.move rfl) ?_
                        refine Lt.ofWL.step rfl rfl rfl (OpV.move rfl) ?_
                        refine Lt.ofWL.step rfl rfl rfl (OpV.neq rfl rfl) ?_
                        refine hkz35 _ ?_ ?_
                        exact rfl
                        repeat (first | exact Sub.refl _ | refine Sub.skip rfl ?_)
                      case az35 => exact rfl
                      case bz35 => exact rfl
                      case cz35 => exact rfl
                      case dz35 => exact rfl
                      refine WL.nil ?_
                      refine En.next ?_
                      refine WC.cond rfl ?_ ?_
                      ·
                        intro hc38
                        refine WC.seq ?_
                        refine WC.region ?_
                        refine Lt.ofWL.step rfl rfl rfl (OpV.assign rfl) ?_
                        refine WL.nil ?_
                        refine En.next ?_
                        refine WC.ret ?_
                        refine En.then_ret ?_
                        refine En.ret1 rfl (Res.tmp rfl) ?_
                        intro w' hs
                        exfalso
                        simp [eqPc_self] at hc38
                      ·
                        intro hc38
                        refine WC.skip ?_
                        refine En.next ?_
                        refine WC.seq ?_
                        refine WC.region ?_
                        refine Lt.ofWL.step rfl rfl rfl (OpV.assign rfl) ?_
                        refine WL.nil ?_
                        refine En.next ?_
                        refine WC.seq ?_
                        refine WC.region ?_
                        refine Lt.ofWL.step rfl rfl rfl (OpV.loadAll rfl (.tail _ (.tail _ (.tail _ (.tail _ (.tail _ (.tail _ (.tail _ (.tail _ (.tail _ (.tail _ (.tail _ (.tail _ (.head _))))))))))))) ag_54) ?_
                        refine Lt.ofWL.step rfl rfl rfl (OpV.move rfl) ?_
                        refine Lt.ofWL.step rfl rfl rfl (OpV.call (evs.cons rfl (evs.cons rfl (evs.nil))) ca_50 (fun w hs => l_heldPace _ _ _ _ _ _ _ _ _ _ _ _ _ _ _ _ w (RdI.row (hs.mem (.tail _ (.tail _ (.tail _ (.tail _ (.tail _ (.head _))))))) (marked_rng ⟨by decide, by decide⟩ _)))) ?_
                        refine Lt.ofWL.step rfl rfl rfl (OpV.assign rfl) ?_
                        refine WL.nil ?_
                        refine En.next ?_
                        refine WC.seq ?_
                        refine WC.seq ?_
                        refine WC.region ?_
                        refine Lt.ofWL.step rfl rfl rfl (OpV.move rfl) ?_
                        refine Lt.ofWL.step rfl rfl rfl (OpV.lss rfl rfl) ?_
                        refine WL.nil ?_
                        refine En.next ?_
                        refine WC.cond rfl ?_ ?_
                        ·
                          intro hc39
                          refine WC.seq ?_
                          refine WC.region ?_
                          refine Lt.ofWL.step rfl rfl rfl (OpV.assign rfl) ?_
                          refine WL.nil ?_
                          refine En.next ?_
                          refine WC.ret ?_
                          refine En.then_ret ?_
                          refine En.ret1 rfl (Res.tmp rfl) ?_
                          intro w' hs
                          exfalso
                          simp [heldN_marked hnx, cnt_pos hnx] at hc39
                        ·
                          intro hc39
                          refine WC.skip ?_
                          refine En.next ?_
                          refine WC.seq ?_
                          refine WC.seq ?_
                          refine WC.region ?_
                          refine Lt.ofWL.step rfl rfl rfl (OpV.move rfl) ?_
                          refine Lt.ofWL.step rfl rfl rfl (OpV.move rfl) ?_
                          refine Lt.ofWL.step rfl rfl rfl (OpV.neq rfl rfl) ?_
                          refine WL.nil ?_
                          refine En.next ?_
                          refine WC.cond rfl ?_ ?_
                          ·
                            intro hc40
                            refine WC.seq ?_
                            refine WC.region ?_
                            refine Lt.ofWL.step rfl rfl rfl (OpV.assign rfl) ?_
                            refine WL.nil ?_
                            refine En.next ?_
                            refine WC.ret ?_
                            refine En.then_ret ?_
                            refine En.ret1 rfl (Res.tmp rfl) ?_
                            intro w' hs
                            exfalso
                            simp [heldN_marked hnx] at hc40
                          ·
                            intro hc40
                            refine WC.skip ?_
                            refine En.next ?_
                            refine WC.seq ?_
                            refine WC.region ?_
                            refine Lt.ofWL.step rfl rfl rfl (OpV.assign rfl) ?_
                            refine WL.nil ?_
                            refine En.next ?_
                            refine WC.ret ?_
                            refine En.ret1 rfl (Res.tmp rfl) ?_
                            intro w' hs
                            exact ⟨rfl, hs.below⟩

end Go.Proofs.Ytbcaoilghmcaeaa
