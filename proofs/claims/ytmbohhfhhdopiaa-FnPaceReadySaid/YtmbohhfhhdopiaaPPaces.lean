/- Frames are neither shorter nor longer than their mode allows. -/
import Derived.Test.YtmbohhfhhdopiaaPModes
namespace Go.Proofs.Ytmbohhfhhdopiaa
open Go.RowKit K
/-- The lines of a short frame. -/
def sh (m : ModeT) : Int := m.H + (m.VFront + m.VSync + m.VBack)
theorem sh_in {m : ModeT} (h : ModeIn m) : 4 ≤ sh m ∧ sh m ≤ 17 := by
  obtain ⟨_, _, _, _, _, a, b, c, d⟩ := h
  unfold sh; omega
theorem i_short {m : ModeT} (h : ModeIn m) (st l : Int) (fs : List Int) : impl_shortFrame (PaceT.mk m st l fs) = some (sh m) := by
  obtain ⟨_, _, _, _, _, a, b, c, d⟩ := id h
  simp only [impl_shortFrame, impl_BlankLines, i_ModeOk, h.ok, bnd_s, Bool.not_true, ifO_false]
  rw [wr_in (n := m.VFront + m.VSync) (by omega) (by omega), wr_in (n := m.VFront + m.VSync + m.VBack) (by omega) (by omega), wr_in (by omega) (by omega)]
  rfl
theorem i_PaceOk {m : ModeT} (h : ModeIn m) {st l : Int} {fs : List Int} (hst : 0 ≤ st ∧ st ≤ 5) (hl : 0 ≤ l ∧ l < sh m + st) (hn : fs.length ≤ 1000) (hf : ∀ f ∈ fs, 1 ≤ f ∧ f ≤ 1000) : impl_PaceOk (PaceT.mk m st l fs) = some true := by
  have hs := sh_in h
  have hloop : loopO (fun v_0 => impl_PaceOk_L0 (PaceT.mk m st l fs) v_0) 0 = some (.inl ()) := by
    have := allList (L := fun v_0 => impl_PaceOk_L0 (PaceT.mk m st l fs) v_0) fs (by omega) (fun _ => true) false (fun k hk => by
      have := hf _ (List.getElem_mem hk)
      simp only [impl_PaceOk_L0, idx_lt hk, bnd_s, within_eq, inR_t.2 this, Bool.not_true, ifO_false]
      rw [ifO_pos (by simpa using hk)]; rfl) (by simp [impl_PaceOk_L0])
    simpa using this
  simp only [impl_PaceOk, i_ModeOk, h.ok, within_eq, inR_t.2 (show 0 ≤ st ∧ st ≤ 255 by omega), i_short h, bnd_s, orO_some]
  rw [wr_in (n := sh m + st) (by omega) (by omega), wr_in (n := sh m + st - 1) (by omega) (by omega), inR_t.2 (show 0 ≤ l ∧ l ≤ sh m + st - 1 by omega), ifO_neg (by simp; omega), hloop]
  rfl
/-- What holds of a pace behind k lines. -/
def PI (lo hi cap : Int) (k : Nat) (l : Int) (fs : List Int) (e : Int) : Prop := (0 ≤ l ∧ l < cap) ∧ (∀ f ∈ fs, lo ≤ f ∧ f ≤ hi) ∧ l + fs.sum = k ∧ e = fs.length ∧ fs.length ≤ k
/-- What is known of the lists, and what frames they make. -/
def Kn (m : ModeT) (st lo hi cap : Int) (R B : List Bool) : Prop := (lo = sh m ∧ hi = sh m + st ∧ cap = sh m + st) ∨ (lo = sh m ∧ hi = sh m ∧ cap = sh m ∧ ∀ (k : Nat) r b, R[k]? = some r → B[k]? = some b → (r || !b) = true) ∨ (lo = sh m + st ∧ hi = sh m + st ∧ cap = sh m + st ∧ ∀ (k : Nat) r b, R[k]? = some r → B[k]? = some b → (!r && b) = true)
theorem next_ok {m : ModeT} (hm : ModeIn m) {st lo hi cap : Int} (hst : 0 ≤ st ∧ st ≤ 5) {R B : List Bool} (hK : Kn m st lo hi cap R B) {k : Nat} (hk : k ≤ 1000) {r b : Bool} (hr : R[k]? = some r) (hb : B[k]? = some b) {l : Int} {fs : List Int} {e : Int} (h : PI lo hi cap k l fs e) :
    ∃ q l' fs', impl_Pace_next (PaceT.mk m st l fs) r b = some (q, PaceT.mk m st l' fs') ∧ PI lo hi cap (k + 1) l' fs' (if q = true then e + 1 else e) := by
  obtain ⟨⟨l0, l1⟩, hf, hsum, rfl, hlen⟩ := h
  have hs := sh_in hm
  have hcap : cap ≤ sh m + st ∧ sh m ≤ cap := by rcases hK with h | h | h <;> omega
  have w1 : wr (l + 1) = l + 1 := wr_in (by omega) (by omega)
  have w2 : wr (sh m + st) = sh m + st := wr_in (by omega) (by omega)
  simp only [impl_Pace_next, i_short hm, bnd_s, w1, w2, andO_some]
  cases hq : (decide (l + 1 < sh m + st) && (decide (l + 1 < sh m) || (!r && b))) with
  | true =>
    refine ⟨false, _, _, rfl, ⟨by omega, ?_⟩, hf, by omega, by simp, by omega⟩
    simp only [Bool.and_eq_true, Bool.or_eq_true, decide_eq_true_eq, Bool.not_eq_true'] at hq
    rcases hK with h | ⟨h1, h2, h3, h4⟩ | h
    · omega
    · rcases hq.2 with h | ⟨rfl, rfl⟩
      · omega
      · have := h4 k _ _ hr hb; cases this
    · omega
  | false =>
    rw [ifO_false, app_le (by simp; omega), bnd_s]
    refine ⟨true, _, _, rfl, ⟨by omega, by omega⟩, ?_, ?_, by simp, ?_⟩
    · intro f hf'
      rcases List.mem_append.1 hf' with hf' | hf'
      · exact hf f hf'
      · obtain rfl := List.mem_singleton.1 hf'
        rw [Bool.and_eq_false_iff, Bool.or_eq_false_iff] at hq
        simp only [decide_eq_false_iff_not] at hq
        rcases hK with ⟨h1, h2, h3⟩ | ⟨h1, h2, h3, h4⟩ | ⟨h1, h2, h3, h4⟩
        · omega
        · omega
        · rcases hq with h | ⟨_, h⟩
          · omega
          · rw [h4 k _ _ hr hb] at h; cases h
    · simp only [List.sum_append, List.sum_cons, List.sum_nil]; omega
    · simp only [List.length_append, List.length_cons, List.length_nil]; omega
theorem run_ok {m : ModeT} (hm : ModeIn m) {st lo hi cap : Int} (hst : 0 ≤ st ∧ st ≤ 5) {R B : List Bool} (hK : Kn m st lo hi cap R B) (hn : R.length ≤ 100) (hl : B.length = R.length) :
    ∃ l fs e, impl_RunPace (PaceT.mk m st 0 []) R B = some (PaceT.mk m st l fs, e) ∧ PI lo hi cap R.length l fs e := by
  have hs := sh_in hm
  have hcap : cap ≤ sh m + st ∧ sh m ≤ cap ∧ sh m ≤ lo ∧ hi ≤ sh m + st := by rcases hK with h | h | h <;> omega
  have step : ∀ (j k : Nat) (l : Int) (fs : List Int) (e : Int), k + j = R.length → PI lo hi cap k l fs e → ∃ l' fs' e', loopO (fun (out_0, out1_0, out2_0, out3_0, out4_0, out5_0, out6_0, out7_0, out8_0, out9_0, out10_0, out11_0, ended_0, v_0) => impl_RunPace_L0 R B out_0 out1_0 out2_0 out3_0 out4_0 out5_0 out6_0 out7_0 out8_0 out9_0 out10_0 out11_0 ended_0 v_0) (m.Clock, m.W, m.HFront, m.HSync, m.HBack, m.H, m.VFront, m.VSync, m.VBack, st, l, fs, e, (k : Int)) = some (m.Clock, m.W, m.HFront, m.HSync, m.HBack, m.H, m.VFront, m.VSync, m.VBack, st, l', fs', e') ∧ PI lo hi cap R.length l' fs' e' := by
    intro j
    induction j with
    | zero =>
      intro k l fs e hk h
      obtain rfl : k = R.length := by omega
      refine ⟨l, fs, e, loopO_inr ?_, h⟩
      show impl_RunPace_L0 R B _ _ _ _ _ _ _ _ _ _ _ _ _ _ = _
      unfold impl_RunPace_L0
      rw [ifO_neg (by simp; omega)]
    | succ j ih =>
      intro k l fs e hk h
      have hlt : k < R.length := by omega
      obtain ⟨q, l', fs', e1, h'⟩ := next_ok hm hst hK (by omega) (List.getElem?_eq_getElem hlt) (List.getElem?_eq_getElem (show k < B.length by omega)) h
      obtain ⟨⟨l0, l1⟩, hf, _, he, hlen⟩ := h
      have hok := i_PaceOk hm hst (show 0 ≤ l ∧ l < sh m + st by omega) (show fs.length ≤ 1000 by omega) (fun f hf' => by have := hf f hf'; omega)
      obtain ⟨l2, fs2, e2, r1, r2⟩ := ih (k + 1) l' fs' _ (by omega) h'
      refine ⟨l2, fs2, e2, ?_, r2⟩
      rw [← r1]
      refine loopO_inl ?_
      show impl_RunPace_L0 R B _ _ _ _ _ _ _ _ _ _ _ _ _ _ = _
      unfold impl_RunPace_L0
      rw [ifO_pos (by simp; omega), show PaceT.mk (ModeT.mk m.Clock m.W m.HFront m.HSync m.HBack m.H m.VFront m.VSync m.VBack) st l fs = PaceT.mk m st l fs from rfl, hok, bnd_s, Bool.not_true, ifO_false, idx_lt hlt, bnd_s, idx_lt (show k < B.length by omega), bnd_s, e1, bnd_s, wr_succ (by omega), wr_in (n := e + 1) (by omega) (by omega)]
      cases q <;> rfl
  obtain ⟨l, fs, e, r1, r2⟩ := step R.length 0 0 [] 0 (by omega) ⟨⟨Int.le_refl _, by omega⟩, fun f hf => (by cases hf), by simp, by simp, by simp⟩
  refine ⟨l, fs, e, ?_, r2⟩
  simp only [impl_RunPace, impl_copyPace, slices_Clone_S_int_int]
  rw [need_t (by simp)]
  simp only [bnd_s]
  rw [show ((0 : Nat) : Int) = 0 from rfl] at r1
  rw [r1]; rfl
theorem i_Short {m : ModeT} (h : ModeIn m) {st : Int} (hst : 0 ≤ st ∧ st ≤ 5) : impl_ShortFrame (PaceT.mk m st 0 []) = some (sh m) ∧ impl_LongFrame (PaceT.mk m st 0 []) = some (sh m + st) := by
  have hs := sh_in h
  have hok := i_PaceOk (fs := []) h hst (show 0 ≤ (0 : Int) ∧ 0 < sh m + st by omega) (by simp) (fun f hf => by cases hf)
  constructor
  · simp only [impl_ShortFrame, hok, i_short h, bnd_s]; rfl
  · simp only [impl_LongFrame, hok, i_short h, bnd_s, Bool.not_true, ifO_false]
    rw [wr_in (by omega) (by omega)]
section Draw
variable (b : List Int) (hb : b.length ≤ 1048576)
include hb
theorem once_ok (i h n : Int) (hi : 0 ≤ i) (h1 : 1 ≤ n) (h2 : n ≤ 256) : ∃ q i' h', spec_l01Once (L01CurT.mk b i h) n = some (q, L01CurT.mk b i' h') ∧ 0 ≤ i' := by
  obtain ⟨r, i1, g1, e1, r0, r1, hi1⟩ := below_ok b hb i h n hi h1 h2
  unfold spec_l01Once
  rw [e1]
  exact ⟨_, i1, g1, rfl, hi1⟩
theorem lists_loop : ∀ (k : Nat) (c c1 : Int) (R B : List Bool) (c0 : L01CurT), c0.b = b → 0 ≤ c → R.length = B.length → R.length + k ≤ 59 → ∃ R' B' i' g', loopO (fun (c_0, c1_0, a_0, b_0, k_0) => spec_l24Lists_L0 c0 c_0 c1_0 a_0 b_0 k_0) (c, c1, R, B, (k : Int)) = some (R', B', i', g') ∧ R'.length = B'.length ∧ R'.length ≤ 59 := by
  intro k
  induction k with
  | zero =>
    intro c c1 R B c0 _ hc hl hk
    refine ⟨R, B, c, c1, loopO_inr ?_, hl, by omega⟩
    show spec_l24Lists_L0 c0 c c1 R B _ = _
    unfold spec_l24Lists_L0
    rw [ifO_neg (by simp)]
  | succ k ih =>
    intro c c1 R B c0 h0 hc hl hk
    obtain ⟨x, i1, g1, e1, hi1⟩ := once_ok b hb c c1 3 hc (by omega) (by omega)
    obtain ⟨y, i2, g2, e2, _, _, hi2⟩ := below_ok b hb i1 g1 3 hi1 (by omega) (by omega)
    have hs : spec_l24Lists_L0 c0 c c1 R B ((k + 1 : Nat) : Int) = some (.inl (i2, g2, R ++ [x], B ++ [decide (0 < y)], (k : Int))) := by
      unfold spec_l24Lists_L0
      rw [ifO_pos (by simp), h0, e1]
      simp only [bnd_s]
      rw [app_le (by simp; omega), bnd_s, e2]
      simp only [bnd_s]
      rw [app_le (by simp; omega), bnd_s, wr_pred (by omega)]
    rw [@loopO_inl _ _ (fun (c_0, c1_0, a_0, b_0, k_0) => spec_l24Lists_L0 c0 c_0 c1_0 a_0 b_0 k_0) (c, c1, R, B, ((k + 1 : Nat) : Int)) _ hs]
    exact ih i2 g2 _ _ c0 h0 hi2 (by simp [hl]) (by simp; omega)
theorem DrawPace_ok : ∃ m st R B, spec_DrawPace b = some (PaceT.mk m st 0 [], R, B) ∧ ModeIn m ∧ (0 ≤ st ∧ st ≤ 5) ∧ B.length = R.length ∧ R.length ≤ 59 := by
  obtain ⟨g, e0⟩ := new_ok b
  obtain ⟨m, i1, g1, e1, hm, hi1⟩ := mode_ok b hb 0 g (by omega)
  obtain ⟨st, i2, g2, e2, m2, hi2⟩ := pick_ok b hb i1 g1 [0, 1, 5] hi1 (by simp) (by simp)
  obtain ⟨k, i3, g3, e3, a3, b3, hi3⟩ := below_ok b hb i2 g2 60 hi2 (by omega) (by omega)
  obtain ⟨k, rfl⟩ : ∃ n : Nat, k = n := ⟨k.toNat, by omega⟩
  obtain ⟨R, B, i4, g4, e4, hl, hn⟩ := lists_loop b hb k i3 g3 [] [] (L01CurT.mk b i2 g2) rfl hi3 rfl (by simp; omega)
  refine ⟨m, st, R, B, ?_, hm, ?_, hl.symm, hn⟩
  · unfold spec_DrawPace spec_l24Lists
    rw [e0]; simp only [bnd_s]
    rw [e1]; simp only [bnd_s]
    rw [e2]; simp only [bnd_s]
    rw [e3]; simp only [bnd_s]
    rw [e4]; simp only [bnd_s]
  · simp only [List.mem_cons, List.not_mem_nil, or_false] at m2; omega
end Draw
theorem FnPaces_true (code : List Int) (o : code.length ≤ 9223372036854775807 ∧ ∀ y ∈ code, 0 ≤ y ∧ y ≤ 255) : laws_FnPaces code = some true := by
  unfold laws_FnPaces laws_big
  rw [bnd_s]
  by_cases hbig : 1048576 < code.length
  · rw [ifO_pos (by simp only [decide_eq_true_eq]; omega)]
  · rw [ifO_neg (by simp only [decide_eq_false_iff_not]; omega)]
    have hc : code.length ≤ 1048576 := by omega
    obtain ⟨m, st, R, B, e0, hm, hst, hl, hn⟩ := DrawPace_ok code hc
    obtain ⟨l, fs, e, e1, h⟩ := run_ok (lo := sh m) (hi := sh m + st) (cap := sh m + st) hm hst (Or.inl ⟨rfl, rfl, rfl⟩) (R := R) (B := B) (by omega) hl
    obtain ⟨hS, hL⟩ := i_Short hm hst
    have hs := sh_in hm
    obtain ⟨⟨l0, l1⟩, hf, hsum, rfl, hlen⟩ := h
    have hloop : loopO (fun v_0 => laws_FnPaces_L0 (PaceT.mk m st 0 []) (PaceT.mk m st l fs) v_0) 0 = some (.inl ()) := by
      refine loopO_up (f := fun v_0 => laws_FnPaces_L0 (PaceT.mk m st 0 []) (PaceT.mk m st l fs) v_0) (fun k => (k : Int)) fs.length (.inl ()) ?_ (fun k hk => ?_) 0 (by omega)
      · simp [laws_FnPaces_L0]
      · have := hf _ (List.getElem_mem hk)
        simp only [laws_FnPaces_L0, idx_lt hk, hS, hL, bnd_s, orO_some]
        rw [ifO_pos (by simpa using hk), ifO_neg (by simp; omega), wr_succ (by omega)]
    have hok := i_PaceOk (fs := fs) (l := l) hm hst (by omega) (by omega) (fun f hf' => by have := hf f hf'; omega)
    have hbound : ∀ k, k ≤ fs.length → 0 ≤ (fs.take k).sum ∧ (fs.take k).sum ≤ 1000 * k := by
      intro k
      induction k with
      | zero => intro _; simp
      | succ k ih =>
        intro hk
        have h1 := ih (by omega)
        have h2 := hf _ (List.getElem_mem (show k < fs.length by omega))
        rw [List.take_add_one, List.getElem?_eq_getElem (show k < fs.length by omega), List.sum_append]
        simp only [Option.toList_some, List.sum_cons, List.sum_nil]
        omega
    have htime : impl_PaceTime (PaceT.mk m st l fs) = some (R.length : Int) := by
      have := loopO_up (f := fun (q : Int × Int) => impl_PaceTime_L0 (PaceT.mk m st l fs) q.1 q.2) (fun k => (l + (fs.take k).sum, (k : Int))) fs.length (l + fs.sum) ?_ (fun k hk => ?_) 0 (by omega)
      · simp only [impl_PaceTime, hok, bnd_s, Bool.not_true, ifO_false]
        have h' : loopO (fun (n_0, v_0) => impl_PaceTime_L0 (PaceT.mk m st l fs) n_0 v_0) (l, 0) = some (l + fs.sum) := by simpa using this
        rw [h', bnd_s, hsum]
      · simp [impl_PaceTime_L0]
      · have h1 := hbound k (by omega)
        have h2 := hbound (k + 1) (by omega)
        have h3 : (fs.take (k + 1)).sum = (fs.take k).sum + fs[k] := by
          rw [List.take_add_one, List.getElem?_eq_getElem hk, List.sum_append]; simp
        have h4 := hf _ (List.getElem_mem hk)
        simp only [impl_PaceTime_L0, idx_lt hk, bnd_s]
        rw [ifO_pos (by simpa using hk), wr_succ (by omega), wr_in (by omega) (by omega), h3, Int.add_assoc]
    simp only [e0, bnd_s, e1, hloop, fork_inl, htime, hok, hL, hS, andO_some, wr_in (n := sh m + st) (by omega) (by omega)]
    simp
theorem sum_all {fs : List Int} {c : Int} (h : ∀ f ∈ fs, c ≤ f ∧ f ≤ c) : fs.sum = fs.length * c := by
  induction fs with
  | nil => simp
  | cons x r ih =>
    rw [List.sum_cons, ih (fun f hf => h f (by simp [hf])), List.length_cons]
    have := h x (by simp)
    have e : x = c := by omega
    rw [e, show ((r.length + 1 : Nat) : Int) = (r.length : Int) + 1 by omega, Int.add_mul]
    omega
theorem FnPaceReady_true (code : List Int) (o : code.length ≤ 9223372036854775807 ∧ ∀ y ∈ code, 0 ≤ y ∧ y ≤ 255) : laws_FnPaceReady code = some true := by
  unfold laws_FnPaceReady laws_big
  rw [bnd_s]
  by_cases hbig : 1048576 < code.length
  · rw [ifO_pos (by simp only [decide_eq_true_eq]; omega)]
  · rw [ifO_neg (by simp only [decide_eq_false_iff_not]; omega)]
    have hc : code.length ≤ 1048576 := by omega
    obtain ⟨m, st, R, B, e0, hm, hst, _, _⟩ := DrawPace_ok code hc
    obtain ⟨hS, hL⟩ := i_Short hm hst
    have hs := sh_in hm
    obtain ⟨n, hn⟩ : ∃ n : Nat, 3 * (sh m + st) = n := ⟨(3 * (sh m + st)).toNat, by omega⟩
    have hfill : loopO (fun (v_0, v1_0, v2_0) => laws_FnPaceReady_L0 (sh m + st) v_0 v1_0 v2_0) (([] : List Bool), ([] : List Bool), 0) = some (List.replicate n true, List.replicate n false) := by
      have := loopO_up (f := fun (q : List Bool × List Bool × Int) => laws_FnPaceReady_L0 (sh m + st) q.1 q.2.1 q.2.2) (fun k => (List.replicate k true, List.replicate k false, (k : Int))) n (List.replicate n true, List.replicate n false) ?_ (fun k hk => ?_) 0 (by omega)
      · exact this
      · simp only [laws_FnPaceReady_L0]
        rw [hn, wr_in (by omega) (by omega), ifO_neg (by simp)]
      · simp only [laws_FnPaceReady_L0]
        rw [hn, wr_in (n := (n : Int)) (by omega) (by omega), ifO_pos (by simp; omega), app_le (by simp; omega), bnd_s, app_le (by simp; omega), bnd_s, wr_succ (by omega), ← List.replicate_succ', ← List.replicate_succ']
    have rep : ∀ {x y : Bool} {k : Nat}, (List.replicate n x)[k]? = some y → y = x := fun {x y k} h => List.eq_of_mem_replicate (List.mem_of_getElem? h)
    obtain ⟨la, fa, ea, e1, ha⟩ := run_ok (lo := sh m) (hi := sh m) (cap := sh m) hm hst (Or.inr (.inl ⟨rfl, rfl, rfl, fun k r b h1 h2 => by rw [rep h1]; rfl⟩)) (R := List.replicate n true) (B := List.replicate n true) (by simp; omega) (by simp)
    obtain ⟨lb, fb, eb, e2, hb⟩ := run_ok (lo := sh m) (hi := sh m) (cap := sh m) hm hst (Or.inr (.inl ⟨rfl, rfl, rfl, fun k r b h1 h2 => by rw [rep h1, rep h2]; rfl⟩)) (R := List.replicate n false) (B := List.replicate n false) (by simp; omega) (by simp)
    obtain ⟨lc, fc, ec, e3, hc'⟩ := run_ok (lo := sh m + st) (hi := sh m + st) (cap := sh m + st) hm hst (Or.inr (.inr ⟨rfl, rfl, rfl, fun k r b h1 h2 => by rw [rep h1, rep h2]; rfl⟩)) (R := List.replicate n false) (B := List.replicate n true) (by simp; omega) (by simp)
    obtain ⟨⟨a0, a1⟩, af, asum, _, alen⟩ := ha
    obtain ⟨⟨b0, b1⟩, bf, bsum, _, blen⟩ := hb
    obtain ⟨⟨c0, c1⟩, cf, csum, _, clen⟩ := hc'
    rw [sum_all af, List.length_replicate] at asum
    rw [sum_all bf, List.length_replicate] at bsum
    rw [sum_all cf, List.length_replicate] at csum
    rw [List.length_replicate] at alen blen clen
    have lt : ∀ (x y : Nat) (c l l' : Int), 0 < c → 0 ≤ l → l < c → 0 ≤ l' → l' < c → l + x * c = l' + y * c → x = y := by
      intro x y c l l' hc h0 h1 h2 h3 h
      rcases Nat.lt_trichotomy x y with hxy | hxy | hxy
      · have : (x : Int) * c + c ≤ y * c := by
          have := Int.mul_le_mul_of_nonneg_right (show (x : Int) + 1 ≤ y by omega) (show 0 ≤ c by omega)
          rw [Int.add_mul] at this; omega
        omega
      · exact hxy
      · have : (y : Int) * c + c ≤ x * c := by
          have := Int.mul_le_mul_of_nonneg_right (show (y : Int) + 1 ≤ x by omega) (show 0 ≤ c by omega)
          rw [Int.add_mul] at this; omega
        omega
    have hab : fa.length = fb.length := lt _ _ (sh m) _ _ (by omega) a0 a1 b0 b1 (by omega)
    have hc3 : fc.length = 3 := lt _ 3 (sh m + st) lc 0 (by omega) c0 c1 (by omega) (by omega) (by rw [csum, ← hn]; omega)
    have ha3 : 3 ≤ fa.length := by
      rcases Nat.lt_or_ge fa.length 3 with h | h
      · exfalso
        have : fa.length = 0 ∨ fa.length = 1 ∨ fa.length = 2 := by omega
        rcases this with h | h | h <;> (rw [h] at asum; omega)
      · exact h
    have l1 : loopO (fun v_1 => laws_FnPaceReady_L1 (PaceT.mk m st 0 []) (PaceT.mk m st la fa) (PaceT.mk m st lb fb) v_1) 0 = some (.inl ()) := by
      refine loopO_up (f := fun v_1 => laws_FnPaceReady_L1 (PaceT.mk m st 0 []) (PaceT.mk m st la fa) (PaceT.mk m st lb fb) v_1) (fun k => (k : Int)) fa.length (.inl ()) ?_ (fun k hk => ?_) 0 (by omega)
      · simp [laws_FnPaceReady_L1]
      · have hkb : k < fb.length := by omega
        have x1 := af _ (List.getElem_mem hk)
        have x2 := bf _ (List.getElem_mem hkb)
        have y1 : fa[k] = sh m := by omega
        have y2 : fb[k] = sh m := by omega
        simp only [laws_FnPaceReady_L1, laws_get, idx_lt hk, idx_lt hkb, hS, bnd_s, y1, y2]
        rw [ifO_pos (by simpa using hk), ifO_neg (by simp; omega), bnd_s, orO_some, bnd_s, ifO_neg (by simp), wr_succ (by omega)]
    have l2 : loopO (fun v_2 => laws_FnPaceReady_L2 (PaceT.mk m st 0 []) (PaceT.mk m st lc fc) v_2) 0 = some (.inl ()) := by
      refine loopO_up (f := fun v_2 => laws_FnPaceReady_L2 (PaceT.mk m st 0 []) (PaceT.mk m st lc fc) v_2) (fun k => (k : Int)) fc.length (.inl ()) ?_ (fun k hk => ?_) 0 (by omega)
      · simp [laws_FnPaceReady_L2]
      · have x1 := cf _ (List.getElem_mem hk)
        have y1 : fc[k] = sh m + st := by omega
        simp only [laws_FnPaceReady_L2, idx_lt hk, hL, bnd_s, y1]
        rw [ifO_pos (by simpa using hk), ifO_neg (by simp), wr_succ (by omega)]
    simp only [e0, bnd_s, hL, hfill, e1, e2, e3, l1, l2, fork_inl]
    simp [hc3]; omega
end Go.Proofs.Ytmbohhfhhdopiaa
