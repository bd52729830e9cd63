/- No divider that is allowed is closer than the best one. -/
import Derived.Test.YtmbohhfhhdopiaaPCur
namespace Go.Proofs.Ytmbohhfhhdopiaa
open Go.RowKit K
theorem mul_in {a b A B : Int} (h0 : 0 ≤ a) (h1 : a ≤ A) (h2 : 0 ≤ b) (h3 : b ≤ B) : 0 ≤ a * b ∧ a * b ≤ A * B :=
  ⟨Int.mul_nonneg h0 h2, Int.mul_le_mul h1 h3 h2 (by omega)⟩
theorem isClock_eq (x : Int) : impl_isClock x = some (inR x 1 1000000) := rfl
def pow4 (p : Int) : Bool := ((decide (p = 1) || decide (p = 2)) || decide (p = 4)) || decide (p = 8)
theorem pow4_t {p : Int} : pow4 p = true ↔ p = 1 ∨ p = 2 ∨ p = 4 ∨ p = 8 := by simp [pow4, or_assoc]
/-- May a divider be used? -/
def okB (d : DividerT) (r lo hi : Int) : Bool := inR d.N 4 64 && inR d.M 1 8 && pow4 d.P && inR r 1 1000000 && inR lo 1 1000000 && inR hi 1 1000000 && decide (wr (lo * d.M) ≤ wr (r * d.N)) && decide (wr (r * d.N) ≤ wr (hi * d.M))
theorem i_DividerOk (d : DividerT) (r lo hi : Int) : impl_DividerOk d r lo hi = some (okB d r lo hi) := by
  simp only [impl_DividerOk, within_eq, isClock_eq, bnd_s, andO_some, okB, pow4]
theorem s_DividerOk (d : DividerT) (r lo hi : Int) : spec_DividerOk d r lo hi = some (okB d r lo hi) := by
  simp only [spec_DividerOk, l01In_eq, spec_l17Power, bnd_s, orO_some, okB]
  rw [show (((decide (d.P = 1) || decide (d.P = 2)) || decide (d.P = 4)) || decide (d.P = 8)) = pow4 d.P from rfl]
  cases inR d.N 4 64 <;> cases inR d.M 1 8 <;> cases pow4 d.P <;> cases inR r 1 1000000 <;> cases inR lo 1 1000000 <;> cases inR hi 1 1000000 <;> simp [ifO]
theorem ErrorOf_eq (d : DividerT) (r t : Int) : impl_ErrorOf d r t = spec_ErrorOf d r t := rfl
theorem Closer_eq (a b : DividerT) (r t : Int) : impl_Closer a b r t = spec_Closer a b r t := rfl
/-- The dividers that are tried. -/
def In (d : DividerT) : Prop := (4 ≤ d.N ∧ d.N ≤ 64) ∧ (1 ≤ d.M ∧ d.M ≤ 8) ∧ (d.P = 1 ∨ d.P = 2 ∨ d.P = 4 ∨ d.P = 8)
theorem okB_in {d : DividerT} {r lo hi : Int} (h : okB d r lo hi = true) : In d := by
  unfold okB at h
  simp only [Bool.and_eq_true, inR_t, pow4_t] at h
  exact ⟨h.1.1.1.1.1.1.1, h.1.1.1.1.1.1.2, h.1.1.1.1.1.2⟩
section
variable (r t : Int) (r1 : 1 ≤ r) (r2 : r ≤ 1000000) (t1 : 1 ≤ t) (t2 : t ≤ 1000000)
/-- How far it is off, times its divisor. -/
def err (d : DividerT) : Int := max (r * d.N - t * d.M * d.P) (0 - (r * d.N - t * d.M * d.P))
def den (d : DividerT) : Int := d.M * d.P
include r1 r2 t1 t2
theorem err_in {d : DividerT} (h : In d) : 0 ≤ err r t d ∧ err r t d ≤ 64000000 := by
  obtain ⟨⟨n1, n2⟩, ⟨m1, m2⟩, hp⟩ := h
  have a := mul_in (show 0 ≤ r by omega) r2 (show 0 ≤ d.N by omega) n2
  have b := mul_in (show 0 ≤ t by omega) t2 (show 0 ≤ d.M by omega) m2
  have c := mul_in b.1 b.2 (show 0 ≤ d.P by omega) (show d.P ≤ 8 by omega)
  unfold err
  omega
omit r1 r2 t1 t2 in
theorem den_in {d : DividerT} (h : In d) : 1 ≤ den d ∧ den d ≤ 64 := by
  obtain ⟨⟨n1, n2⟩, ⟨m1, m2⟩, hp⟩ := h
  unfold den
  have : d.M = 1 ∨ d.M = 2 ∨ d.M = 3 ∨ d.M = 4 ∨ d.M = 5 ∨ d.M = 6 ∨ d.M = 7 ∨ d.M = 8 := by omega
  rcases this with e | e | e | e | e | e | e | e <;> rw [e] <;> omega
theorem ErrorOf_in {d : DividerT} (h : In d) : impl_ErrorOf d r t = some (err r t d) := by
  have hh := h
  obtain ⟨⟨n1, n2⟩, ⟨m1, m2⟩, hp⟩ := h
  have a := mul_in (show 0 ≤ r by omega) r2 (show 0 ≤ d.N by omega) n2
  have b := mul_in (show 0 ≤ t by omega) t2 (show 0 ≤ d.M by omega) m2
  have c := mul_in b.1 b.2 (show 0 ≤ d.P by omega) (show d.P ≤ 8 by omega)
  simp only [impl_ErrorOf, within_eq, isClock_eq, bnd_s, orO_some, inR_t.2 (show 4 ≤ d.N ∧ d.N ≤ 64 from ⟨n1, n2⟩), inR_t.2 (show 1 ≤ d.M ∧ d.M ≤ 8 from ⟨m1, m2⟩), inR_t.2 (show 1 ≤ d.P ∧ d.P ≤ 8 by omega), inR_t.2 (show 1 ≤ r ∧ r ≤ 1000000 from ⟨r1, r2⟩), inR_t.2 (show 1 ≤ t ∧ t ≤ 1000000 from ⟨t1, t2⟩)]
  rw [ifO_neg (by rfl), wr_in (n := r * d.N) (by omega) (by omega), wr_in (n := t * d.M) (by omega) (by omega), wr_in (n := t * d.M * d.P) (by omega) (by omega), wr_in (n := r * d.N - t * d.M * d.P) (by omega) (by omega), wr_in (n := 0 - _) (by omega) (by omega)]
  rfl
/-- Is a closer than b? -/
def clo (a b : DividerT) : Prop := err r t a * den b < err r t b * den a
theorem Closer_in {a b : DividerT} (ha : In a) (hb : In b) : ∃ q, impl_Closer a b r t = some q ∧ (q = true ↔ clo r t a b) := by
  have ea := err_in r t r1 r2 t1 t2 ha
  have eb := err_in r t r1 r2 t1 t2 hb
  have key : ∀ {a b : DividerT}, In a → In b → wr (wr (err r t a * b.M) * b.P) = err r t a * den b := by
    intro a b ha hb
    have ea := err_in r t r1 r2 t1 t2 ha
    obtain ⟨_, ⟨m1, m2⟩, hp⟩ := hb
    have x := mul_in ea.1 ea.2 (show 0 ≤ b.M by omega) m2
    have y := mul_in x.1 x.2 (show 0 ≤ b.P by omega) (show b.P ≤ 8 by omega)
    rw [wr_in (n := err r t a * b.M) (by omega) (by omega), wr_in (n := err r t a * b.M * b.P) (by omega) (by omega), den, Int.mul_assoc]
  simp only [impl_Closer, ErrorOf_in r t r1 r2 t1 t2 ha, ErrorOf_in r t r1 r2 t1 t2 hb, bnd_s, key ha hb, key hb ha]
  refine ⟨_, rfl, ?_⟩
  simp only [ea.1, eb.1, decide_true, Bool.true_and, decide_eq_true_eq]
  rfl
omit r1 r2 t1 t2 in
/-- If d is closer than b, whatever is not closer than b is not closer than d. -/
theorem clo_trans {d b e : DividerT} (hd : In d) (hb : In b) (he : In e) (h1 : clo r t d b) (h2 : ¬ clo r t e b) : ¬ clo r t e d := by
  unfold clo at *
  have d1 := (den_in hd).1
  have d2 := (den_in hb).1
  have d3 := (den_in he).1
  intro h3
  have a1 := Int.mul_lt_mul_of_pos_right h3 (show 0 < den b by omega)
  have a2 := Int.mul_lt_mul_of_pos_right h1 (show 0 < den e by omega)
  have a3 := Int.mul_le_mul_of_nonneg_right (Int.not_lt.1 h2) (show 0 ≤ den d by omega)
  have x1 : err r t e * den d * den b = err r t e * den b * den d := by rw [Int.mul_assoc, Int.mul_comm (den d), ← Int.mul_assoc]
  have x2 : err r t d * den e * den b = err r t d * den b * den e := by rw [Int.mul_assoc, Int.mul_comm (den e), ← Int.mul_assoc]
  have x3 : err r t b * den e * den d = err r t b * den d * den e := by rw [Int.mul_assoc, Int.mul_comm (den e), ← Int.mul_assoc]
  omega
omit r1 r2 t1 t2 in
theorem clo_irr {d : DividerT} : ¬ clo r t d d := by unfold clo; omega
/-- Of those that D names, best is the best (if there is one). -/
def Inv (lo hi : Int) (D : DividerT → Prop) (best : DividerT) (found : Bool) : Prop :=
  (found = true → okB best r lo hi = true ∧ ∀ d, okB d r lo hi = true → D d → ¬ clo r t d best) ∧ (found = false → ∀ d, okB d r lo hi = true → ¬ D d)
omit r1 r2 t1 t2 in
theorem Inv.wk {lo hi : Int} {D D' : DividerT → Prop} {best : DividerT} {found : Bool} (h : Inv r t lo hi D best found) (hD : ∀ d, In d → D' d → D d) : Inv r t lo hi D' best found :=
  ⟨fun hf => ⟨(h.1 hf).1, fun d hd hd' => (h.1 hf).2 d hd (hD d (okB_in hd) hd')⟩, fun hf d hd hd' => h.2 hf d hd (hD d (okB_in hd) hd')⟩
/-- Those that come ahead of (m, p, n). -/
def Done (m p n : Int) (d : DividerT) : Prop := d.M < m ∨ (d.M = m ∧ (d.P < p ∨ (d.P = p ∧ d.N < n)))
variable (lo hi : Int)
theorem best_L2 (m p : Int) (m1 : 1 ≤ m) (m2 : m ≤ 8) (hp : p = 1 ∨ p = 2 ∨ p = 4 ∨ p = 8) (best : DividerT) (found : Bool) (hI : Inv r t lo hi (Done m p 4) best found) :
    ∃ x, loopO (fun (q : DividerT × Bool × Int) => impl_BestDivider_L2 r t lo hi m p q.1 q.2.1 q.2.2) (best, found, 4) = some x ∧ Inv r t lo hi (Done m p 65) x.1 x.2 := by
  refine loopO_inv (f := fun (q : DividerT × Bool × Int) => impl_BestDivider_L2 r t lo hi m p q.1 q.2.1 q.2.2) (fun s => 4 ≤ s.2.2 ∧ s.2.2 ≤ 65 ∧ Inv r t lo hi (Done m p s.2.2) s.1 s.2.1) (fun s => (65 - s.2.2).toNat) _ ?_ (best, found, 4) ⟨by simp, by simp, hI⟩
  rintro ⟨best, found, n⟩ ⟨n1, n2, hI⟩
  simp only [] at n1 n2 hI
  by_cases hn : n ≤ 64
  · left
    have hin : In (DividerT.mk n m p) := ⟨⟨n1, hn⟩, ⟨m1, m2⟩, hp⟩
    simp only [impl_BestDivider_L2, i_DividerOk, bnd_s]
    rw [ifO_pos (by simpa using hn), wr_in (n := n + 1) (by omega) (by omega)]
    have split : ∀ d, In d → Done m p (n + 1) d → Done m p n d ∨ d = DividerT.mk n m p := by
      intro d _ hd
      unfold Done at hd ⊢
      by_cases he : d.M = m ∧ d.P = p ∧ d.N = n
      · right
        cases d
        simp only [] at he
        obtain ⟨rfl, rfl, rfl⟩ := he
        rfl
      · left; omega
    cases hok : okB (DividerT.mk n m p) r lo hi with
    | false =>
      rw [show andO false _ = some false from rfl]
      refine ⟨(best, found, n + 1), rfl, ⟨by simp only []; omega, by simp only []; omega, ?_⟩, by simp only []; omega⟩
      refine ⟨fun hf => ⟨(hI.1 hf).1, fun d hd hD => ?_⟩, fun hf d hd hD => ?_⟩
      · rcases split d (okB_in hd) hD with h | rfl
        · exact (hI.1 hf).2 d hd h
        · rw [hok] at hd; cases hd
      · rcases split d (okB_in hd) hD with h | rfl
        · exact hI.2 hf d hd h
        · rw [hok] at hd; cases hd
    | true =>
      cases found with
      | false =>
        refine ⟨(DividerT.mk n m p, true, n + 1), rfl, ⟨by simp only []; omega, by simp only []; omega, ?_⟩, by simp only []; omega⟩
        refine ⟨fun _ => ⟨hok, fun d hd hD => ?_⟩, fun hf => by cases hf⟩
        rcases split d (okB_in hd) hD with h | rfl
        · exact absurd h (hI.2 rfl d hd)
        · exact clo_irr r t
      | true =>
        have hb := (hI.1 rfl).1
        obtain ⟨q, e, hq⟩ := Closer_in r t r1 r2 t1 t2 hin (okB_in hb)
        have e2 : impl_BestDivider_L2 r t lo hi m p best true n = ifO q (some (.inl (DividerT.mk n m p, true, n + 1))) (some (.inl (best, true, n + 1))) := by
          simp only [impl_BestDivider_L2, i_DividerOk, bnd_s, hok, e]
          rw [ifO_pos (by simpa using hn), wr_in (n := n + 1) (by omega) (by omega)]
          cases q <;> rfl
        have e3 := e2
        simp only [impl_BestDivider_L2, i_DividerOk, bnd_s, hok] at e3
        rw [ifO_pos (by simpa using hn), wr_in (n := n + 1) (by omega) (by omega)] at e3
        rw [e3]
        cases q with
        | true =>
          have hc := hq.1 rfl
          refine ⟨(DividerT.mk n m p, true, n + 1), rfl, ⟨by simp only []; omega, by simp only []; omega, ?_⟩, by simp only []; omega⟩
          refine ⟨fun _ => ⟨hok, fun d hd hD => ?_⟩, fun hf => by cases hf⟩
          rcases split d (okB_in hd) hD with h | rfl
          · exact clo_trans r t hin (okB_in hb) (okB_in hd) hc ((hI.1 rfl).2 d hd h)
          · exact clo_irr r t
        | false =>
          have hc : ¬ clo r t (DividerT.mk n m p) best := fun h => by have := hq.2 h; cases this
          refine ⟨(best, true, n + 1), rfl, ⟨by simp only []; omega, by simp only []; omega, ?_⟩, by simp only []; omega⟩
          refine ⟨fun _ => ⟨hb, fun d hd hD => ?_⟩, fun hf => by cases hf⟩
          rcases split d (okB_in hd) hD with h | rfl
          · exact (hI.1 rfl).2 d hd h
          · exact hc
  · right
    obtain rfl : n = 65 := by omega
    refine ⟨(best, found), ?_, hI⟩
    simp only [impl_BestDivider_L2]
    rw [ifO_neg (by simp)]
theorem best_L1 (m : Int) (m1 : 1 ≤ m) (m2 : m ≤ 8) (best : DividerT) (found : Bool) (hI : Inv r t lo hi (Done m 1 4) best found) :
    ∃ x, loopO (fun (q : DividerT × Bool × Int) => impl_BestDivider_L1 r t lo hi m q.1 q.2.1 q.2.2) (best, found, 1) = some x ∧ Inv r t lo hi (Done m 16 4) x.1 x.2 := by
  refine loopO_inv (f := fun (q : DividerT × Bool × Int) => impl_BestDivider_L1 r t lo hi m q.1 q.2.1 q.2.2) (fun s => (s.2.2 = 1 ∨ s.2.2 = 2 ∨ s.2.2 = 4 ∨ s.2.2 = 8 ∨ s.2.2 = 16) ∧ Inv r t lo hi (Done m s.2.2 4) s.1 s.2.1) (fun s => (16 - s.2.2).toNat) _ ?_ (best, found, 1) ⟨by simp, hI⟩
  rintro ⟨best, found, p⟩ ⟨p1, hI⟩
  simp only [] at p1 hI
  by_cases hp : p ≤ 8
  · left
    obtain ⟨x, e, hx⟩ := best_L2 r t r1 r2 t1 t2 lo hi m p m1 m2 (by omega) best found hI
    have e' : loopO (fun (best_2, found_2, n_2) => impl_BestDivider_L2 r t lo hi m p best_2 found_2 n_2) (best, found, 4) = some x := e
    refine ⟨(x.1, x.2, p * 2), ?_, ⟨by simp only []; omega, ?_⟩, by simp only []; omega⟩
    · simp only [impl_BestDivider_L1]
      rw [ifO_pos (by simpa using hp), e', bnd_s, wr_in (n := p * 2) (by omega) (by omega)]
    · refine Inv.wk r t hx fun d ⟨⟨_, n2⟩, _, h2⟩ hd => ?_
      unfold Done at hd ⊢
      simp only [] at hd
      omega
  · right
    obtain rfl : p = 16 := by omega
    refine ⟨(best, found), ?_, hI⟩
    simp only [impl_BestDivider_L1]
    rw [ifO_neg (by simp)]
theorem best_L0 : ∃ x, loopO (fun (q : DividerT × Bool × Int) => impl_BestDivider_L0 r t lo hi q.1 q.2.1 q.2.2) (DividerT.mk 0 0 0, false, 1) = some x ∧ Inv r t lo hi (Done 9 1 4) x.1 x.2 := by
  have h0 : Inv r t lo hi (Done 1 1 4) (DividerT.mk 0 0 0) false := by
    constructor
    · intro hf; cases hf
    · intro _ d hd hD
      obtain ⟨⟨a, _⟩, ⟨b, _⟩, c⟩ := okB_in hd
      unfold Done at hD
      omega
  refine loopO_inv (f := fun (q : DividerT × Bool × Int) => impl_BestDivider_L0 r t lo hi q.1 q.2.1 q.2.2) (fun s => (1 ≤ s.2.2 ∧ s.2.2 ≤ 9) ∧ Inv r t lo hi (Done s.2.2 1 4) s.1 s.2.1) (fun s => (16 - s.2.2).toNat) _ ?_ (DividerT.mk 0 0 0, false, 1) ⟨by simp, h0⟩
  · rintro ⟨best, found, m⟩ ⟨⟨m1, m2⟩, hI⟩
    simp only [] at m1 m2 hI
    by_cases hm : m ≤ 8
    · left
      obtain ⟨x, e, hx⟩ := best_L1 r t r1 r2 t1 t2 lo hi m m1 hm best found hI
      have e' : loopO (fun (best_1, found_1, p_1) => impl_BestDivider_L1 r t lo hi m best_1 found_1 p_1) (best, found, 1) = some x := e
      refine ⟨(x.1, x.2, m + 1), ?_, ⟨by simp only []; omega, ?_⟩, by simp only []; omega⟩
      · simp only [impl_BestDivider_L0]
        rw [ifO_pos (by simpa using hm), e', bnd_s, wr_in (n := m + 1) (by omega) (by omega)]
      · refine Inv.wk r t hx fun d ⟨_, _, h2⟩ hd => ?_
        unfold Done at hd ⊢
        simp only [] at hd
        omega
    · right
      obtain rfl : m = 9 := by omega
      refine ⟨(best, found), ?_, hI⟩
      simp only [impl_BestDivider_L0]
      rw [ifO_neg (by simp)]
theorem BestDivider_in : ∃ best found, impl_BestDivider r t lo hi = some (best, found) ∧ (found = true → okB best r lo hi = true ∧ ∀ d, okB d r lo hi = true → ¬ clo r t d best) ∧ (found = false → ∀ d, okB d r lo hi = false) := by
  obtain ⟨⟨best, found⟩, e, hI⟩ := best_L0 r t r1 r2 t1 t2 lo hi
  have all : ∀ d, In d → Done 9 1 4 d := fun d ⟨_, ⟨_, h⟩, _⟩ => .inl (by omega)
  refine ⟨best, found, ?_, fun hf => ⟨(hI.1 hf).1, fun d hd => (hI.1 hf).2 d hd (all d (okB_in hd))⟩, fun hf d => ?_⟩
  · simp only [impl_BestDivider, isClock_eq, bnd_s, inR_t.2 (show 1 ≤ t ∧ t ≤ 1000000 from ⟨t1, t2⟩), Bool.not_true, ifO_false]
    have e' : loopO (fun (best_0, found_0, m_0) => impl_BestDivider_L0 r t lo hi best_0 found_0 m_0) (DividerT.mk 0 0 0, false, 1) = some (best, found) := e
    rw [e']; rfl
  · cases hd : okB d r lo hi with
    | false => rfl
    | true => exact absurd (all d (okB_in hd)) (hI.2 hf d hd)
omit r1 r2 in
theorem BestDivider_spec : spec_BestDivider r t lo hi = impl_BestDivider r t lo hi := by
  have ht := inR_t.2 (show 1 ≤ t ∧ t ≤ 1000000 from ⟨t1, t2⟩)
  have e2 : spec_BestDivider_L2 r t lo hi = impl_BestDivider_L2 r t lo hi := by
    funext m p b f n
    simp only [spec_BestDivider_L2, impl_BestDivider_L2, s_DividerOk, i_DividerOk, l01In_eq, ht, Closer_eq, bnd_s, andO_some, Bool.and_true]
  have e1 : spec_BestDivider_L1 r t lo hi = impl_BestDivider_L1 r t lo hi := by
    funext m b f p
    simp only [spec_BestDivider_L1, impl_BestDivider_L1, e2, Int.mul_comm 2 p]
  have e0 : spec_BestDivider_L0 r t lo hi = impl_BestDivider_L0 r t lo hi := by
    funext b f m
    simp only [spec_BestDivider_L0, impl_BestDivider_L0, e1]
  simp only [spec_BestDivider, impl_BestDivider, e0, isClock_eq, ht, bnd_s, Bool.not_true, ifO_false]
end
theorem FnBestClock_true (code : List Int) (o : code.length ≤ 9223372036854775807 ∧ ∀ y ∈ code, 0 ≤ y ∧ y ≤ 255) : laws_FnBestClock code = some true := by
  unfold laws_FnBestClock laws_big
  rw [bnd_s]
  by_cases hbig : 1048576 < code.length
  · rw [ifO_pos (by simp only [decide_eq_true_eq]; omega)]
  · rw [ifO_neg (by simp only [decide_eq_false_iff_not]; omega)]
    have hc : code.length ≤ 1048576 := by omega
    have A := at_ok code hc o.2
    obtain ⟨a0, e0, p0, q0⟩ := A 0 (by omega) (by omega)
    obtain ⟨a1, e1, p1, q1⟩ := A 1 (by omega) (by omega)
    obtain ⟨a2, e2, p2, q2⟩ := A 2 (by omega) (by omega)
    obtain ⟨a3, e3, p3, q3⟩ := A 3 (by omega) (by omega)
    obtain ⟨a4, e4, p4, q4⟩ := A 4 (by omega) (by omega)
    have w0 : wr (1 + wr (a0 * 12)) = 1 + a0 * 12 := by rw [wr_in (n := a0 * 12) (by omega) (by omega), wr_in (by omega) (by omega)]
    have w1 : wr (wr (1 + wr (a1 * 20)) + a2) = 1 + a1 * 20 + a2 := by rw [wr_in (n := a1 * 20) (by omega) (by omega), wr_in (n := 1 + a1 * 20) (by omega) (by omega), wr_in (by omega) (by omega)]
    obtain ⟨best, found, eb, h1, h2⟩ := BestDivider_in (1 + a0 * 12) (1 + a1 * 20 + a2) (by omega) (by omega) (by omega) (by omega) (wr (1 + a3)) (wr (400 + wr (a4 * 40)))
    have es := BestDivider_spec (1 + a0 * 12) (1 + a1 * 20 + a2) (by omega) (by omega) (wr (1 + a3)) (wr (400 + wr (a4 * 40)))
    have hloop : loopO (fun v_0 => laws_FnBestClock_L0 code a0 a1 a2 a3 a4 best found v_0) 0 = some (.inl ()) := by
      refine loopO_up (f := fun v_0 => laws_FnBestClock_L0 code a0 a1 a2 a3 a4 best found v_0) (fun k => (k : Int)) 20 (.inl ()) ?_ (fun k hk => ?_) 0 (by omega)
      · simp [laws_FnBestClock_L0]
      · obtain ⟨x, ex, x0, x1⟩ := A k (by omega) (by omega)
        obtain ⟨y, ey, y0, y1⟩ := A (k + 3) (by omega) (by omega)
        obtain ⟨z, ez, z0, z1⟩ := A (k + 5) (by omega) (by omega)
        have hz : 0 ≤ Int.tmod z 4 := by rw [Int.tmod_eq_emod_of_nonneg z0]; omega
        simp only [laws_FnBestClock_L0, wr_in (n := (k : Int) + 3) (by omega) (by omega), wr_in (n := (k : Int) + 5) (by omega) (by omega), ex, ey, ez, bnd_s, w0, w1, shlO, hz, if_true, i_DividerOk]
        rw [ifO_pos (by simp; omega)]
        generalize hd : DividerT.mk (wr (4 + Int.tmod x 61)) (wr (1 + Int.tmod y 8)) (shl 1 (Int.tmod z 4)) = d
        have : ∃ q, andO (okB d (1 + a0 * 12) (wr (1 + a3)) (wr (400 + wr (a4 * 40)))) (Option.bind (orO (!found) (Option.bind (impl_Closer d best (1 + a0 * 12) (1 + a1 * 20 + a2)) fun x12_13 => some x12_13)) fun q12_14 => some q12_14) = some q ∧ q = false := by
          cases hok : okB d (1 + a0 * 12) (wr (1 + a3)) (wr (400 + wr (a4 * 40))) with
          | false => exact ⟨false, rfl, rfl⟩
          | true =>
            cases found with
            | false => rw [h2 rfl d] at hok; cases hok
            | true =>
              obtain ⟨q, eq, hq⟩ := Closer_in (1 + a0 * 12) (1 + a1 * 20 + a2) (by omega) (by omega) (by omega) (by omega) (okB_in hok) (okB_in (h1 rfl).1)
              refine ⟨q, ?_, ?_⟩
              · rw [eq]; rfl
              · cases q with
                | false => rfl
                | true => exact absurd (hq.1 rfl) ((h1 rfl).2 d hok)
        obtain ⟨q, hq, rfl⟩ := this
        rw [hq, bnd_s, ifO_false, wr_succ (by omega)]
    simp only [e0, e1, e2, e3, e4, bnd_s, w0, w1, eb, hloop, fork_inl, es, i_DividerOk]
    cases found with
    | false => simp [andO, orO]
    | true =>
      have hin := okB_in (h1 rfl).1
      simp [(h1 rfl).1, ← ErrorOf_eq, ErrorOf_in (1 + a0 * 12) (1 + a1 * 20 + a2) (by omega) (by omega) (by omega) (by omega) hin, andO, orO]
end Go.Proofs.Ytmbohhfhhdopiaa
