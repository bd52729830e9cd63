/- The planes that are drawn. -/
import Derived.Test.YtbdpbboonilhhaaPDrawn
namespace Go.Proofs.Ytbdpbboonilhhaa
open Go.RowKit K
def zeroP : PlaneT := PlaneT.mk false 0 0 0 0 0 [] 0 0 0 0
theorem ok_zero {k w h : Int} (hk : 1 ≤ k ∧ k ≤ 3) (hw : inR w 1 16 = true) (hh : inR h 1 16 = true) : spec_PlaneOk k zeroP w h = some true := by
  have c : inR k 0 3 = true := inR_t.2 (by omega)
  have hz : spec_l19Zero zeroP = some true := rfl
  have hk0 : decide (k = 0) = false := by simp; omega
  simp only [spec_PlaneOk, l01In_eq, c, hw, hh, bnd_s, orO_some]
  rw [ifO_neg (by rfl), ifO_pos (by rfl), hz, hk0]
  rfl
theorem ok_over {k w h : Int} {p : PlaneT} {j : ImageT} (hk : k = 1 ∨ k = 2) (hw : inR w 1 16 = true) (hh : inR h 1 16 = true) (hon : p.On = true) (hj : spec_PlaneImage p = some (j, true)) (hx : inR p.X (-32) 32 = true) (hy : inR p.Y (-32) 32 = true) : spec_PlaneOk k p w h = some true := by
  have c : inR k 0 3 = true := inR_t.2 (by omega)
  have k3 : decide (k = 3) = false := by simp; omega
  have k0 : (!decide (k = 0)) = true := by simp; omega
  simp only [spec_PlaneOk, l01In_eq, c, hw, hh, bnd_s, orO_some, hon, hj, hx, hy, k3, k0]
  rfl
theorem ok_cursor {w h : Int} {p : PlaneT} {j : ImageT} (hw : inR w 1 16 = true) (hh : inR h 1 16 = true) (hon : p.On = true) (hj : spec_PlaneImage p = some (j, true)) (hx : inR p.X (-32) 32 = true) (hy : inR p.Y (-32) 32 = true)
    (z0 : p.Orient = 0) (z1 : p.ToW = 0) (z2 : p.ToH = 0) (z3 : p.Alpha = 255) (z4 : p.W ≤ 4) (z5 : p.H ≤ 4) : spec_PlaneOk 3 p w h = some true := by
  have c : inR 3 0 3 = true := rfl
  simp only [spec_PlaneOk, l01In_eq, c, hw, hh, bnd_s, orO_some, hon, hj, hx, hy]
  simp [z0, z1, z2, z3, z4, z5]
theorem ok_primary {w h : Int} {p : PlaneT} {j : ImageT} (hw : inR w 1 16 = true) (hh : inR h 1 16 = true) (hon : p.On = true) (hj : spec_PlaneImage p = some (j, true)) (hl : j.Data.length ≤ 1048576) (hq : ∀ v ∈ j.Data, opq v = true)
    (hx : p.X = 0) (hy : p.Y = 0) (z0 : p.Orient = 0) (z1 : p.ToW = 0) (z2 : p.ToH = 0) (z3 : p.Alpha = 255) (z4 : p.W = w) (z5 : p.H = h) : spec_PlaneOk 0 p w h = some true := by
  have c : inR 0 0 3 = true := rfl
  have cx : inR 0 (-32) 32 = true := rfl
  have ha : j.Data.all opq = true := List.all_eq_true.2 hq
  simp only [spec_PlaneOk, l01In_eq, c, hw, hh, bnd_s, orO_some, hon, hj, hx, hy, cx, allOpaque j hl, ha]
  simp [z0, z1, z2, z3, z4, z5, fork_inl]
section Rects
variable (b : List Int) (hb : b.length ≤ 1048576)
include hb
theorem rect_ok (i h : Int) (hi : 0 ≤ i) : ∃ r i' h', spec_l02Rect (L01CurT.mk b i h) = some (r, L01CurT.mk b i' h') ∧ (-4 ≤ r.X ∧ r.X ≤ 15) ∧ (-4 ≤ r.Y ∧ r.Y ≤ 11) ∧ (0 ≤ r.W ∧ r.W ≤ 11) ∧ (0 ≤ r.H ∧ r.H ≤ 9) ∧ 0 ≤ i' := by
  obtain ⟨x, i1, g1, e1, x0, x1, hi1⟩ := below_ok b hb i h 20 hi (by omega) (by omega)
  obtain ⟨y, i2, g2, e2, y0, y1, hi2⟩ := below_ok b hb i1 g1 16 hi1 (by omega) (by omega)
  obtain ⟨w, i3, g3, e3, w0, w1, hi3⟩ := below_ok b hb i2 g2 12 hi2 (by omega) (by omega)
  obtain ⟨z, i4, g4, e4, z0, z1, hi4⟩ := below_ok b hb i3 g3 10 hi3 (by omega) (by omega)
  unfold spec_l02Rect
  rw [e1]
  simp only [bnd_s]
  rw [e2]
  simp only [bnd_s]
  rw [e3]
  simp only [bnd_s]
  rw [e4]
  simp only [bnd_s]
  refine ⟨_, i4, g4, rfl, ?_, ?_, ?_, ?_, hi4⟩
  · show -4 ≤ wr (x - 4) ∧ wr (x - 4) ≤ 15
    rw [wr_in (by omega) (by omega)]; omega
  · show -4 ≤ wr (y - 4) ∧ wr (y - 4) ≤ 11
    rw [wr_in (by omega) (by omega)]; omega
  · show 0 ≤ w ∧ w ≤ 11
    omega
  · show 0 ≤ z ∧ z ≤ 9
    omega
end Rects
section Draw3
variable (b : List Int) (hb : b.length ≤ 1048576) (w h : Int) (hw : inR w 1 16 = true) (hh : inR h 1 16 = true)
include hb hw hh
theorem plane_step (k : Nat) (hk : 1 ≤ k ∧ k ≤ 3) (c0 : L01CurT) (hc0 : c0.b = b) (i g : Int) (v : List PlaneT) (hi : 0 ≤ i) (hv : v.length ≤ 4) : ∃ p i' g', spec_l19Planes_L4 c0 i g v (k : Int) = some (.inl (i', g', v ++ [p], ((k + 1 : Nat) : Int)))
    ∧ 0 ≤ i' ∧ spec_PlaneOk k p w h = some true ∧ p.Words.length ≤ 512 ∧ (k = 2 → p.ToW = 0) := by
  obtain ⟨q, i1, g1, e1, hi1⟩ := once_ok b hb i g 3 hi (by omega) (by omega)
  have hk4 : decide ((k : Int) < 4) = true := by simp; omega
  have hsucc : wr ((k : Int) + 1) = ((k + 1 : Nat) : Int) := wr_succ (by omega)
  have ap : ∀ p : PlaneT, app v [p] = some (v ++ [p]) := fun p => app_le (by simp only [List.length_singleton]; omega)
  simp only [spec_l19Planes_L4, hk4, ifO_true, hc0, e1, bnd_s, hsucc]
  cases q with
  | true =>
    simp only [Bool.not_true, ifO_false, ap, bnd_s]
    exact ⟨zeroP, i1, g1, rfl, hi1, ok_zero (by omega) hw hh, by simp [zeroP], fun _ => rfl⟩
  | false =>
    obtain ⟨m, i2, g2, e2, hm, mw, mh, hi2⟩ := image_ok b hb i1 g1 4 hi1 (by omega) (by omega)
    obtain ⟨x, i3, g3, e3, x0, x1, hi3⟩ := below_ok b hb i2 g2 10 hi2 (by omega) (by omega)
    obtain ⟨y, i4, g4, e4, y0, y1, hi4⟩ := below_ok b hb i3 g3 8 hi3 (by omega) (by omega)
    obtain ⟨l, i5, g5, e5, l0, l1, hi5⟩ := below_ok b hb i4 g4 3 hi4 (by omega) (by omega)
    have ex : wr (x - 2) = x - 2 := wr_in (by omega) (by omega)
    have ey : wr (y - 2) = y - 2 := wr_in (by omega) (by omega)
    obtain ⟨ws, p1, p2, p3⟩ := PlaneOf_ok (x := x - 2) (y := y - 2) (lay := l) hm (inR_t.2 (by omega))
    have cx : inR (x - 2) (-32) 32 = true := inR_t.2 (by omega)
    have cy : inR (y - 2) (-32) 32 = true := inR_t.2 (by omega)
    simp only [Bool.not_false, ifO_true, e2, bnd_s, e3, e4, e5, ex, ey, p1]
    by_cases h3 : k < 3
    · have hd3 : decide ((k : Int) < 3) = true := by simp; omega
      obtain ⟨a, i6, g6, e6, ha, hi6⟩ := pick_ok b hb i5 g5 [255, 100] hi5 (by simp) (by simp)
      obtain ⟨o, i7, g7, e7, o0, o1, hi7⟩ := below_ok b hb i6 g6 8 hi6 (by omega) (by omega)
      have ha' : inR a 0 255 = true := by
        simp only [List.mem_cons, List.not_mem_nil, or_false] at ha
        exact inR_t.2 (by omega)
      have ho' : inR o 0 7 = true := inR_t.2 (by omega)
      have hk12 : (k : Int) = 1 ∨ (k : Int) = 2 := by omega
      simp only [hd3, ifO_true, e6, bnd_s, e7]
      have plain : ∃ j, spec_PlaneImage (PlaneT.mk true (x - 2) (y - 2) m.W m.H l ws a o 0 0) = some (j, true) := by
        obtain ⟨j, hj, _⟩ := show_ok (p := PlaneT.mk true (x - 2) (y - 2) m.W m.H l ws a o 0 0) rfl hm p3 ha' ho' (.inl ⟨rfl, rfl⟩)
        exact ⟨j, hj⟩
      obtain ⟨j, hj⟩ := plain
      by_cases hk1 : k = 1
      · subst hk1
        obtain ⟨q, i8, g8, e8, hi8⟩ := once_ok b hb i7 g7 2 hi7 (by omega) (by omega)
        have d1 : decide (((1 : Nat) : Int) = 1) = true := rfl
        simp only [d1, ifO_true, e8, bnd_s]
        cases q with
        | false =>
          simp only [ifO_false, ap, bnd_s]
          exact ⟨_, i8, g8, rfl, hi8, ok_over (.inl rfl) hw hh rfl hj cx cy, p2, fun h => by omega⟩
        | true =>
          obtain ⟨tw, i9, g9, e9, tw0, tw1, hi9⟩ := below_ok b hb i8 g8 8 hi8 (by omega) (by omega)
          obtain ⟨th, i10, g10, e10, th0, th1, hi10⟩ := below_ok b hb i9 g9 8 hi9 (by omega) (by omega)
          have et : wr (1 + tw) = 1 + tw := wr_in (by omega) (by omega)
          have eh : wr (1 + th) = 1 + th := wr_in (by omega) (by omega)
          obtain ⟨j2, hj2, _⟩ := show_ok (p := PlaneT.mk true (x - 2) (y - 2) m.W m.H l ws a o (1 + tw) (1 + th)) rfl hm p3 ha' ho' (.inr ⟨inR_t.2 (by simp only []; omega), inR_t.2 (by simp only []; omega)⟩)
          simp only [ifO_true, e9, bnd_s, e10, et, eh, ap]
          exact ⟨_, i10, g10, rfl, hi10, ok_over (.inl rfl) hw hh rfl hj2 cx cy, p2, fun h => by omega⟩
      · have d1 : decide ((k : Int) = 1) = false := by simp; omega
        simp only [d1, ifO_false, bnd_s, ap]
        exact ⟨_, i7, g7, rfl, hi7, ok_over hk12 hw hh rfl hj cx cy, p2, fun _ => rfl⟩
    · have hk3 : k = 3 := by omega
      subst hk3
      have hd3 : decide (((3 : Nat) : Int) < 3) = false := by simp
      obtain ⟨j, hj, _⟩ := show_ok (p := PlaneT.mk true (x - 2) (y - 2) m.W m.H l ws 255 0 0 0) rfl hm p3 rfl rfl (.inl ⟨rfl, rfl⟩)
      simp only [hd3, ifO_false, ap, bnd_s]
      exact ⟨_, i5, g5, rfl, hi5, ok_cursor hw hh rfl hj cx cy rfl rfl rfl rfl mw mh, p2, fun h => by omega⟩
theorem planes_ok (i g : Int) (hi : 0 ≤ i) : ∃ l i' g', spec_l19Planes (L01CurT.mk b i g) w h = some (l, L01CurT.mk b i' g') ∧ spec_PlanesOk l w h = some true ∧ smPlaneS l ∧ 0 ≤ i' := by
  have hw' := inR_t.1 hw
  have hh' := inR_t.1 hh
  obtain ⟨p, i1, g1, e1, hp, hi1⟩ := draw4_ok b hb i g hi
  obtain ⟨q1, q2⟩ := opq_or hp
  obtain ⟨m, n1, _, n3, n4⟩ := s_NewImage w h (or64 p 4278190080)
  obtain ⟨m1, m2, m3⟩ := n3 hw hh q1
  obtain ⟨r, i2, g2, e2, r1, r2, r3, r4, hi2⟩ := rect_ok b hb i1 g1 hi1
  obtain ⟨p', i3, g3, e3, hp', hi3⟩ := draw4_ok b hb i2 g2 hi2
  obtain ⟨q1', q2'⟩ := opq_or hp'
  obtain ⟨j, f1, f2, f3, f4, f5⟩ := FillRect_ok (r := r) m1 ⟨⟨by omega, by omega⟩, ⟨by omega, by omega⟩, ⟨by omega, by omega⟩, by omega, by omega⟩ q1' (fun v => opq v = true) (fun v hv => by rw [n4 v hv]; exact q2) q2'
  obtain ⟨l, i4, g4, e4, l0, l1, hi4⟩ := below_ok b hb i3 g3 3 hi3 (by omega) (by omega)
  obtain ⟨ws, p1, p2, p3⟩ := PlaneOf_ok (x := 0) (y := 0) (lay := l) f2 (inR_t.2 (by omega))
  obtain ⟨z, s1, s2⟩ := show_ok (p := PlaneT.mk true 0 0 j.W j.H l ws 255 0 0 0) rfl f2 p3 rfl rfl (.inl ⟨rfl, rfl⟩)
  have hz := s2 rfl rfl rfl rfl
  subst hz
  have ok0 : spec_PlaneOk 0 (PlaneT.mk true 0 0 z.W z.H l ws 255 0 0 0) w h = some true := ok_primary hw hh rfl s1 (by have := imgOk_le f2; omega) f5 rfl rfl rfl rfl rfl rfl (f3.trans m2) (f4.trans m3)
  generalize hP0 : PlaneT.mk true 0 0 z.W z.H l ws 255 0 0 0 = P0 at *
  have hP0w : P0.Words.length ≤ 512 := by rw [← hP0]; exact p2
  obtain ⟨P1, j1, t1, a1, b1, c1, d1, _⟩ := plane_step b hb w h hw hh 1 (by omega) (L01CurT.mk b i g) rfl i4 g4 [P0] hi4 (by simp)
  obtain ⟨P2, j2, t2, a2, b2, c2, d2, z2⟩ := plane_step b hb w h hw hh 2 (by omega) (L01CurT.mk b i g) rfl j1 t1 ([P0] ++ [P1]) b1 (by simp)
  obtain ⟨P3, j3, t3, a3, b3, c3, d3, _⟩ := plane_step b hb w h hw hh 3 (by omega) (L01CurT.mk b i g) rfl j2 t2 ([P0] ++ [P1] ++ [P2]) b2 (by simp)
  have hl : loopO (fun (x : Int × Int × List PlaneT × Int) => spec_l19Planes_L4 (L01CurT.mk b i g) x.1 x.2.1 x.2.2.1 x.2.2.2) (i4, g4, [P0], 1) = some ([P0, P1, P2, P3], j3, t3) := by
    rw [loopO_inl (f := fun (x : Int × Int × List PlaneT × Int) => spec_l19Planes_L4 (L01CurT.mk b i g) x.1 x.2.1 x.2.2.1 x.2.2.2) (s := (i4, g4, [P0], 1)) a1]
    rw [loopO_inl (f := fun (x : Int × Int × List PlaneT × Int) => spec_l19Planes_L4 (L01CurT.mk b i g) x.1 x.2.1 x.2.2.1 x.2.2.2) (s := (j1, t1, [P0] ++ [P1], ((1 + 1 : Nat) : Int))) a2]
    rw [loopO_inl (f := fun (x : Int × Int × List PlaneT × Int) => spec_l19Planes_L4 (L01CurT.mk b i g) x.1 x.2.1 x.2.2.1 x.2.2.2) (s := (j2, t2, [P0] ++ [P1] ++ [P2], ((2 + 1 : Nat) : Int))) a3]
    exact loopO_inr rfl
  refine ⟨[P0, P1, P2, P3], j3, t3, ?_, ?_, ⟨by simp, fun x hx => ?_⟩, b3⟩
  · unfold spec_l19Planes
    rw [e1]
    simp only [bnd_s, n1]
    rw [e2]
    simp only [bnd_s]
    rw [e3]
    simp only [bnd_s, f1]
    rw [e4]
    simp only [bnd_s, p1]
    rw [hl]; rfl
  · have step : ∀ (k : Nat) (P : PlaneT), k < 4 → [P0, P1, P2, P3][k]? = some P → spec_PlaneOk k P w h = some true → spec_PlanesOk_L0 [P0, P1, P2, P3] w h k = some (.inl ((k + 1 : Nat) : Int)) := by
      intro k P hk hP hok
      unfold spec_PlanesOk_L0
      rw [ifO_pos (by simp; omega), idx_at hP, bnd_s, hok, bnd_s, wr_succ (by omega)]; rfl
    have hll : loopO (fun k => spec_PlanesOk_L0 [P0, P1, P2, P3] w h k) 0 = some (.inl ()) := by
      rw [loopO_inl (f := fun k => spec_PlanesOk_L0 [P0, P1, P2, P3] w h k) (s := 0) (step 0 P0 (by omega) rfl ok0)]
      rw [loopO_inl (f := fun k => spec_PlanesOk_L0 [P0, P1, P2, P3] w h k) (step 1 P1 (by omega) rfl c1)]
      rw [loopO_inl (f := fun k => spec_PlanesOk_L0 [P0, P1, P2, P3] w h k) (step 2 P2 (by omega) rfl c2)]
      rw [loopO_inl (f := fun k => spec_PlanesOk_L0 [P0, P1, P2, P3] w h k) (step 3 P3 (by omega) rfl c3)]
      exact loopO_inr rfl
    have x1 : idx [P0, P1, P2, P3] 1 = some P1 := rfl
    have x2 : idx [P0, P1, P2, P3] 2 = some P2 := rfl
    unfold spec_PlanesOk
    rw [hll, ifO_neg (by simp)]
    simp only [bnd_s, fork_inl, x1, x2, z2 rfl, orO_some]
    simp
  · show x.Words.length ≤ 1048576
    simp only [List.mem_cons, List.not_mem_nil, or_false] at hx
    rcases hx with rfl | rfl | rfl | rfl <;> omega
end Draw3
end Go.Proofs.Ytbdpbboonilhhaa
