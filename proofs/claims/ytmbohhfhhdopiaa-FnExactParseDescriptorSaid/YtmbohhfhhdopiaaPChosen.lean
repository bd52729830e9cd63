/- The chosen mode is one of the monitor, and has the wanted size if there is such a one. -/
import Derived.Test.YtmbohhfhhdopiaaPModes
namespace Go.Proofs.Ytmbohhfhhdopiaa
open Go.RowKit K
def nameOk (s : ByteArray) : Bool := (List.range s.size).all fun k => inR (s[k]!).toNat 33 126
def monOk (m : MonitorT) : Bool := inR m.Name.size 1 8 && inR m.Modes.length 1 4 && inR m.Stretch 0 255 && nameOk m.Name && m.Modes.all modeOk
theorem u8_lt (x : UInt8) : x.toNat < 256 := x.toNat_lt
theorem i_MonitorOk (m : MonitorT) (hs : m.Name.size ≤ 1048576) (hl : m.Modes.length ≤ 1048576) : impl_MonitorOk m = some (monOk m) := by
  have h0 : loopO (fun k => impl_MonitorOk_L0 m k) 0 = some (if nameOk m.Name then .inl () else .inr false) := by
    refine allLoop m.Name.size (by omega) _ false (fun k hk ho => ?_) (fun k hk ho => ?_) ?_
    · have := u8_lt m.Name[k]!
      simp only [impl_MonitorOk_L0, sidx_lt hk, within_eq, bnd_s, wr_in (n := ((m.Name[k]!).toNat : Int)) (by omega) (by omega), ho]
      rw [ifO_pos (by simpa using hk)]; rfl
    · have := u8_lt m.Name[k]!
      simp only [impl_MonitorOk_L0, sidx_lt hk, within_eq, bnd_s, wr_in (n := ((m.Name[k]!).toNat : Int)) (by omega) (by omega), ho]
      rw [ifO_pos (by simpa using hk)]; rfl
    · simp [impl_MonitorOk_L0]
  have h1 : loopO (fun k => impl_MonitorOk_L1 m k) 0 = some (if m.Modes.all modeOk then .inl () else .inr false) := by
    refine allList m.Modes (by omega) _ false (fun k hk => ?_) ?_
    · simp only [impl_MonitorOk_L1, idx_lt hk, bnd_s, i_ModeOk]
      rw [ifO_pos (by simpa using hk)]
      cases modeOk m.Modes[k] <;> rfl
    · simp [impl_MonitorOk_L1]
  simp only [impl_MonitorOk, within_eq, bnd_s, orO_some, h0, h1, monOk]
  cases inR m.Name.size 1 8 <;> cases inR m.Modes.length 1 4 <;> cases inR m.Stretch 0 255 <;> cases nameOk m.Name <;> cases m.Modes.all modeOk <;> rfl
/-- A drawn monitor. -/
def MonIn (m : MonitorT) : Prop := monOk m = true ∧ (1 ≤ m.Modes.length ∧ m.Modes.length ≤ 4) ∧ m.Name.size ≤ 8 ∧ ∀ x ∈ m.Modes, ModeIn x
section Draw
variable (b : List Int) (hb : b.length ≤ 1048576)
include hb
theorem modes_loop : ∀ (k : Nat) (c c1 : Int) (ms : List ModeT) (c0 : L01CurT), c0.b = b → k ≤ 4 → 0 ≤ c → (∀ x ∈ ms, ModeIn x) → ms.length + k ≤ 4 → ∃ ms' i' g', loopO (fun (c_0, c1_0, m_0, k_0) => spec_l18Monitor_L0 c0 c_0 c1_0 m_0 k_0) (c, c1, ms, (k : Int)) = some (ms', i', g') ∧ ms'.length = ms.length + k ∧ (∀ x ∈ ms', ModeIn x) ∧ 0 ≤ i' := by
  intro k
  induction k with
  | zero =>
    intro c c1 ms c0 _ _ hc hm _
    refine ⟨ms, c, c1, loopO_inr ?_, rfl, hm, hc⟩
    show spec_l18Monitor_L0 c0 c c1 ms _ = _
    unfold spec_l18Monitor_L0
    rw [ifO_neg (by simp)]
  | succ k ih =>
    intro c c1 ms c0 h0 hk hc hm hl
    obtain ⟨m, i1, g1, e1, hin, hi1⟩ := mode_ok b hb c c1 hc
    have hs : spec_l18Monitor_L0 c0 c c1 ms ((k + 1 : Nat) : Int) = some (.inl (i1, g1, ms ++ [m], (k : Int))) := by
      unfold spec_l18Monitor_L0
      rw [ifO_pos (by simp), h0, e1]
      simp only [bnd_s]
      rw [app_le (by simp; omega), bnd_s, wr_pred (by omega)]
    rw [@loopO_inl _ _ (fun (c_0, c1_0, m_0, k_0) => spec_l18Monitor_L0 c0 c_0 c1_0 m_0 k_0) (c, c1, ms, ((k + 1 : Nat) : Int)) _ hs]
    obtain ⟨ms', i', g', r1, r2, r3, r4⟩ := ih i1 g1 (ms ++ [m]) c0 h0 (by omega) hi1 (fun x hx => by
      rcases List.mem_append.1 hx with hx | hx
      · exact hm x hx
      · rw [List.mem_singleton.1 hx]; exact hin) (by simp; omega)
    exact ⟨ms', i', g', r1, by rw [r2]; simp; omega, r3, r4⟩
theorem DrawMonitor_ok : ∃ m, spec_DrawMonitor b = some m ∧ MonIn m := by
  obtain ⟨g, e0⟩ := new_ok b
  obtain ⟨r, i1, g1, e1, a1, b1, hi1⟩ := below_ok b hb 0 g 4 (by omega) (by omega) (by omega)
  obtain ⟨v2, i2, g2, e2, m2, hi2⟩ := pick_ok b hb i1 g1 [0, 3, 255] hi1 (by simp) (by simp)
  obtain ⟨k, i3, g3, e3, a3, b3, hi3⟩ := below_ok b hb i2 g2 4 hi2 (by omega) (by omega)
  obtain ⟨k, rfl⟩ : ∃ n : Nat, k = n := ⟨k.toNat, by omega⟩
  obtain ⟨ms, i4, g4, e4, l4, h4, _⟩ := modes_loop b hb (k + 1) i3 g3 [] (L01CurT.mk b 0 g) rfl (by omega) hi3 (fun x hx => by cases hx) (by simp; omega)
  have hname : ∃ s : ByteArray, idx [(⟨#[77]⟩ : ByteArray), (⟨#[80, 65, 78, 69, 76]⟩ : ByteArray), (⟨#[65, 66, 67, 68, 69, 70, 71, 72]⟩ : ByteArray), (⟨#[126, 33]⟩ : ByteArray)] r = some s ∧ inR s.size 1 8 = true ∧ nameOk s = true := by
    have : r = 0 ∨ r = 1 ∨ r = 2 ∨ r = 3 := by omega
    rcases this with rfl | rfl | rfl | rfl
    · exact ⟨_, rfl, by decide, by decide⟩
    · exact ⟨_, rfl, by decide, by decide⟩
    · exact ⟨_, rfl, by decide, by decide⟩
    · exact ⟨_, rfl, by decide, by decide⟩
  obtain ⟨s, hs1, hs2, hs3⟩ := hname
  have c2 : inR v2 0 255 = true := inR_t.2 (by simp only [List.mem_cons, List.not_mem_nil, or_false] at m2; omega)
  refine ⟨MonitorT.mk s ms v2, ?_, ?_, ?_, ?_, h4⟩
  · unfold spec_DrawMonitor spec_l18Monitor spec_l18Pick
    rw [e0]; simp only [bnd_s]
    rw [show (([(⟨#[77]⟩ : ByteArray), (⟨#[80, 65, 78, 69, 76]⟩ : ByteArray), (⟨#[65, 66, 67, 68, 69, 70, 71, 72]⟩ : ByteArray), (⟨#[126, 33]⟩ : ByteArray)].length : Nat) : Int) = 4 from rfl, e1]
    simp only [bnd_s, hs1]
    rw [e2]; simp only [bnd_s]
    rw [e3]; simp only [bnd_s]
    rw [show wr (1 + (k : Int)) = ((k + 1 : Nat) : Int) by rw [wr_in (by omega) (by omega)]; omega, e4]
    simp only [bnd_s]
  · unfold monOk
    have hl : inR (ms.length : Int) 1 4 = true := inR_t.2 (by rw [l4]; simp; omega)
    simp only [hs2, hl, c2, hs3, Bool.and_true, Bool.true_and, List.all_eq_true]
    exact fun x hx => (h4 x hx).ok
  · rw [l4]; simp; omega
  · have := inR_t.1 hs2
    show s.size ≤ 8
    omega
end Draw
/-- What the choice goes by. -/
theorem choose_loop (m : MonitorT) (w h : Int) (hm : ∀ x ∈ m.Modes, ModeIn x) (hl : m.Modes.length ≤ 4) : ∀ (j k : Nat) (best : ModeT), k + j = m.Modes.length → ModeIn best →
    ∃ y, loopO (fun (best, k) => impl_ChooseMode_L0 m w h best k) (best, (k : Int)) = some y ∧ ((∃ x, y = .inr (x, true) ∧ x ∈ m.Modes ∧ x.W = w ∧ x.H = h) ∨ ∃ x, y = .inl x ∧ (x = best ∨ x ∈ m.Modes) ∧ ModeIn x ∧ best.W * best.H ≤ x.W * x.H ∧ ∀ z ∈ m.Modes.drop k, ¬ (z.W = w ∧ z.H = h) ∧ z.W * z.H ≤ x.W * x.H)
  | 0, k, best, hk, hb => by
    have : k = m.Modes.length := by omega
    subst this
    exact ⟨_, loopO_inr (r := .inl best) (by simp [impl_ChooseMode_L0]), .inr ⟨best, rfl, .inl rfl, hb, Int.le_refl _, by simp⟩⟩
  | j + 1, k, best, hk, hb => by
    have hlt : k < m.Modes.length := by omega
    have hin := hm _ (List.getElem_mem hlt)
    have area : ∀ x : ModeT, ModeIn x → wr (x.W * x.H) = x.W * x.H := by
      rintro x ⟨_, ⟨a1, a2⟩, _, _, _, ⟨b1, b2⟩, _⟩
      have h1 := Int.mul_le_mul a2 b2 (by omega) (by omega)
      have h2 := Int.mul_nonneg (show 0 ≤ x.W by omega) (show 0 ≤ x.H by omega)
      exact wr_in (by omega) (by omega)
    have hstep : impl_ChooseMode_L0 m w h best (k : Int) = ifO (decide (m.Modes[k].W = w) && decide (m.Modes[k].H = h)) (some (.inr (.inr (m.Modes[k], true)))) (ifO (decide (best.W * best.H < m.Modes[k].W * m.Modes[k].H)) (some (.inl (m.Modes[k], ((k + 1 : Nat) : Int)))) (some (.inl (best, ((k + 1 : Nat) : Int))))) := by
      simp only [impl_ChooseMode_L0, idx_lt hlt, bnd_s]
      rw [ifO_pos (by simpa using hlt), area _ hb, area _ hin, wr_succ (by omega)]
    cases h1 : (decide (m.Modes[k].W = w) && decide (m.Modes[k].H = h)) with
    | true =>
      rw [h1, ifO_true] at hstep
      simp only [Bool.and_eq_true, decide_eq_true_eq] at h1
      exact ⟨_, loopO_inr hstep, .inl ⟨_, rfl, List.getElem_mem hlt, h1.1, h1.2⟩⟩
    | false =>
      rw [h1, ifO_false] at hstep
      have hne : ¬ (m.Modes[k].W = w ∧ m.Modes[k].H = h) := by
        intro hh
        simp [hh.1, hh.2] at h1
      cases h2 : decide (best.W * best.H < m.Modes[k].W * m.Modes[k].H) with
      | true =>
        rw [h2, ifO_true] at hstep
        simp only [decide_eq_true_eq] at h2
        rw [@loopO_inl _ _ (fun (best, k) => impl_ChooseMode_L0 m w h best k) (best, (k : Int)) _ hstep]
        obtain ⟨y, r1, r2⟩ := choose_loop m w h hm hl j (k + 1) m.Modes[k] (by omega) hin
        refine ⟨y, r1, ?_⟩
        rcases r2 with r2 | ⟨x, q1, q2, q3, q4, q5⟩
        · exact .inl r2
        · refine .inr ⟨x, q1, .inr ?_, q3, by omega, fun z hz => ?_⟩
          · rcases q2 with rfl | q2
            · exact List.getElem_mem hlt
            · exact q2
          · rw [List.drop_eq_getElem_cons hlt] at hz
            rcases List.mem_cons.1 hz with rfl | hz
            · exact ⟨hne, q4⟩
            · exact q5 z hz
      | false =>
        rw [h2, ifO_false] at hstep
        simp only [decide_eq_false_iff_not] at h2
        rw [@loopO_inl _ _ (fun (best, k) => impl_ChooseMode_L0 m w h best k) (best, (k : Int)) _ hstep]
        obtain ⟨y, r1, r2⟩ := choose_loop m w h hm hl j (k + 1) best (by omega) hb
        refine ⟨y, r1, ?_⟩
        rcases r2 with r2 | ⟨x, q1, q2, q3, q4, q5⟩
        · exact .inl r2
        · refine .inr ⟨x, q1, q2, q3, q4, fun z hz => ?_⟩
          rw [List.drop_eq_getElem_cons hlt] at hz
          rcases List.mem_cons.1 hz with rfl | hz
          · exact ⟨hne, by omega⟩
          · exact q5 z hz
def sameM (x y : ModeT) : Bool := decide (x.Clock = y.Clock) && decide (x.W = y.W) && decide (x.HFront = y.HFront) && decide (x.HSync = y.HSync) && decide (x.HBack = y.HBack) && decide (x.H = y.H) && decide (x.VFront = y.VFront) && decide (x.VSync = y.VSync) && decide (x.VBack = y.VBack)
theorem sameM_self (x : ModeT) : sameM x x = true := by simp [sameM]
theorem any_succ {α : Type} {xs : List α} {k : Nat} (h : k < xs.length) (p : α → Bool) : (xs.take (k + 1)).any p = ((xs.take k).any p || p xs[k]) := by
  rw [List.take_add_one, List.getElem?_eq_getElem h, List.any_append]
  simp
theorem FnChosen_true (code : List Int) (o : code.length ≤ 9223372036854775807 ∧ ∀ y ∈ code, 0 ≤ y ∧ y ≤ 255) : laws_FnChosen code = some true := by
  unfold laws_FnChosen laws_big
  rw [bnd_s]
  by_cases hbig : 1048576 < code.length
  · rw [ifO_pos (by simp only [decide_eq_true_eq]; omega)]
  · rw [ifO_neg (by simp only [decide_eq_false_iff_not]; omega)]
    have hc : code.length ≤ 1048576 := by omega
    obtain ⟨m, e1, ok, ⟨l1, l2⟩, hn, hin⟩ := DrawMonitor_ok code hc
    obtain ⟨a, e2, a0, a1⟩ := at_ok code hc o.2 0 (by omega) (by omega)
    obtain ⟨c, e3, c0, c1⟩ := at_ok code hc o.2 1 (by omega) (by omega)
    have hw : wr (4 + Int.tmod a 7) = 4 + a % 7 := by rw [Int.tmod_eq_emod_of_nonneg a0, wr_in (by omega) (by omega)]
    have hh : wr (3 + Int.tmod c 6) = 3 + c % 6 := by rw [Int.tmod_eq_emod_of_nonneg c0, wr_in (by omega) (by omega)]
    generalize hW : 4 + a % 7 = w at hw
    generalize hH : 3 + c % 6 = h at hh
    have h0 : idx m.Modes 0 = some m.Modes[0] := idx_lt (k := 0) (by omega)
    have hin0 := hin _ (List.getElem_mem (show 0 < m.Modes.length by omega))
    obtain ⟨y, r1, r2⟩ := choose_loop m w h hin (by omega) m.Modes.length 0 m.Modes[0] (by omega) hin0
    have r1' : loopO (fun (best, k) => impl_ChooseMode_L0 m w h best k) (m.Modes[0], 0) = some y := r1
    -- the mode x
    obtain ⟨x, hx, hxm, hxin, hxs, hxe⟩ : ∃ x, impl_ChooseMode m w h = some (x, true) ∧ x ∈ m.Modes ∧ ModeIn x ∧ (∀ z ∈ m.Modes, x.W * x.H < z.W * z.H → x.W = w ∧ x.H = h) ∧ ((m.Modes.any fun z => decide (z.W = w) && decide (z.H = h)) = (decide (x.W = w) && decide (x.H = h))) := by
      have hch : impl_ChooseMode m w h = Option.bind (some y) fun y => fork y (fun best_0e => some (best_0e, true)) (fun r => some r) := by
        simp only [impl_ChooseMode, i_MonitorOk m (by omega) (by omega), ok, bnd_s, Bool.not_true, ifO_false, h0]
        rw [r1']; rfl
      rcases r2 with ⟨x, rfl, q1, q2, q3⟩ | ⟨x, rfl, q2, q3, q4, q5⟩
      · refine ⟨x, hch, q1, hin x q1, fun _ _ _ => ⟨q2, q3⟩, ?_⟩
        rw [show (decide (x.W = w) && decide (x.H = h)) = true by simp [q2, q3]]
        exact List.any_eq_true.2 ⟨x, q1, by simp [q2, q3]⟩
      · have hxm : x ∈ m.Modes := by
          rcases q2 with rfl | q2
          · exact List.getElem_mem _
          · exact q2
        rw [List.drop_zero] at q5
        refine ⟨x, hch, hxm, q3, fun z hz hlt => ?_, ?_⟩
        · have := (q5 z hz).2; omega
        · have hxne := (q5 x hxm).1
          have e : (decide (x.W = w) && decide (x.H = h)) = false := by
            rw [Bool.and_eq_false_iff]
            by_cases hh : x.W = w
            · exact .inr (by simp; exact fun h2 => hxne ⟨hh, h2⟩)
            · exact .inl (by simpa using hh)
          rw [e, List.any_eq_false]
          intro z hz hp
          simp only [Bool.and_eq_true, decide_eq_true_eq] at hp
          exact (q5 z hz).1 hp
    have area : ∀ x : ModeT, ModeIn x → wr (x.W * x.H) = x.W * x.H := by
      rintro x ⟨_, ⟨a1, a2⟩, _, _, _, ⟨b1, b2⟩, _⟩
      have h1 := Int.mul_le_mul a2 b2 (by omega) (by omega)
      have h2 := Int.mul_nonneg (show 0 ≤ x.W by omega) (show 0 ≤ x.H by omega)
      exact wr_in (by omega) (by omega)
    have hloop : loopO (fun q => laws_FnChosen_L0 m a c x q.1 q.2.1 q.2.2) (false, false, 0) = some (.inl (m.Modes.any (fun z => sameM z x), m.Modes.any fun z => decide (z.W = w) && decide (z.H = h))) := by
      have := loopO_up (f := fun q => laws_FnChosen_L0 m a c x q.1 q.2.1 q.2.2) (fun k => ((m.Modes.take k).any (fun z => sameM z x), (m.Modes.take k).any (fun z => decide (z.W = w) && decide (z.H = h)), (k : Int))) m.Modes.length (.inl (m.Modes.any (fun z => sameM z x), m.Modes.any fun z => decide (z.W = w) && decide (z.H = h))) ?_ (fun k hk => ?_) 0 (by omega)
      · simpa using this
      · simp [laws_FnChosen_L0]
      · have hz := hin _ (List.getElem_mem hk)
        simp only [laws_FnChosen_L0, idx_lt hk, bnd_s, hw, hh, andO_some, orO_some, area _ hz, area _ hxin]
        rw [ifO_pos (by simpa using hk), ifO_neg ?_, wr_succ (by omega), any_succ hk, any_succ hk]
        · rfl
        · have := hxs _ (List.getElem_mem hk)
          by_cases hlt : x.W * x.H < m.Modes[k].W * m.Modes[k].H
          · simp [this hlt]
          · simp [hlt]
    have hfound : m.Modes.any (fun z => sameM z x) = true := List.any_eq_true.2 ⟨x, hxm, sameM_self x⟩
    simp only [e1, e2, e3, bnd_s, hw, hh, hx]
    have hl2 : loopO (fun (v_0, v1_0, v2_0) => laws_FnChosen_L0 m a c x v_0 v1_0 v2_0) (false, false, 0) = some (.inl (m.Modes.any (fun z => sameM z x), m.Modes.any fun z => decide (z.W = w) && decide (z.H = h))) := hloop
    rw [hl2, hfound, hxe]
    simp [fork]
end Go.Proofs.Ytmbohhfhhdopiaa
