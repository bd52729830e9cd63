/- Color maps that are drawn. -/
import Derived.Test.YtbdpbboonilhhaaPDraw
import Derived.Test.YtbdpbboonilhhaaPColorI
import Derived.Test.YtbdpbboonilhhaaPInts
namespace Go.Proofs.Ytbdpbboonilhhaa
open Go.RowKit K
def idCurve : List Int := (List.range 17).map fun k : Nat => 16 * (k : Int)
def idMat : List Int := [256, 0, 0, 0, 256, 0, 0, 0, 256]
theorem s_IdentityC : spec_IdentityColor = some (ColorMapT.mk idMat idCurve) := by
  have h := loopO_up (f := fun x : List Int × Int => spec_IdentityColor_L0 x.1 x.2) (fun k => ((List.range k).map fun k : Nat => 16 * (k : Int), (k : Int))) 17 idCurve rfl (fun k hk => by
    show spec_IdentityColor_L0 _ (k : Int) = _
    unfold spec_IdentityColor_L0
    rw [ifO_pos (by simp; omega), wr_in (n := 16 * (k : Int)) (by omega) (by omega), app_le (by simp; omega), bnd_s, wr_succ (by omega), List.range_succ, List.map_append]; rfl) 0 (by omega)
  have h' : loopO (fun x : List Int × Int => spec_IdentityColor_L0 x.1 x.2) ([], 0) = some idCurve := h
  unfold spec_IdentityColor
  rw [h']; rfl
section DM
variable (b : List Int) (hb : b.length ≤ 1048576)
include hb
theorem place_ok (i h n : Int) (hi : 0 ≤ i) (h1 : 1 ≤ n) (h2 : n ≤ 256) : ∃ r i' h', spec_l01Place (L01CurT.mk b i h) n = some (r, L01CurT.mk b i' h') ∧ 0 ≤ i' := by
  obtain ⟨c, i1, g1, e1, hi1⟩ := once_ok b hb i h 15 hi (by omega) (by omega)
  unfold spec_l01Place
  rw [e1, bnd_s]
  simp only []
  cases c with
  | true =>
    obtain ⟨v, i2, g2, e2, _, hi2⟩ := pick_ok b hb i1 g1 [(-1), n, (wr (n + 1)), 9223372036854775807, (-9223372036854775808)] hi1 (by simp) (by simp)
    rw [ifO_true, e2, bnd_s]
    exact ⟨_, i2, g2, rfl, hi2⟩
  | false =>
    obtain ⟨v, i2, g2, e2, _, _, hi2⟩ := below_ok b hb i1 g1 n hi1 h1 h2
    rw [ifO_false, e2, bnd_s]
    exact ⟨_, i2, g2, rfl, hi2⟩
def RowIn (n : Nat) (lo hi : Int) (m : List Int) : Prop := m.length = n ∧ ∀ v ∈ m, lo ≤ v ∧ v ≤ hi
omit hb in
theorem RowIn.set {n : Nat} {lo hi : Int} {m : List Int} (h : RowIn n lo hi m) (k : Nat) {v : Int} (h0 : lo ≤ v) (h1 : v ≤ hi) : RowIn n lo hi (m.set k v) :=
  ⟨by rw [List.length_set]; exact h.1, fun u hu => (List.mem_or_eq_of_mem_set hu).elim (h.2 u) (fun e => e ▸ ⟨h0, h1⟩)⟩
theorem matLoop (c0 : L01CurT) (hc : c0.b = b) : ∀ (j k : Nat) (i g : Int) (m : List Int), k + j = 9 → 0 ≤ i → RowIn 9 (-1024) 1024 m → ∃ i' g' m', loopO (fun (x : Int × Int × List Int × Int) => spec_l08Map_L0 c0 x.1 x.2.1 x.2.2.1 x.2.2.2) (i, g, m, (k : Int)) = some (i', g', m') ∧ 0 ≤ i' ∧ RowIn 9 (-1024) 1024 m' := by
  intro j
  induction j with
  | zero =>
    intro k i g m hk hi hm
    refine ⟨i, g, m, loopO_inr ?_, hi, hm⟩
    show spec_l08Map_L0 c0 i g m k = _
    unfold spec_l08Map_L0
    rw [ifO_neg (by simp; omega)]
  | succ j ih =>
    intro k i g m hk hi hm
    obtain ⟨v, i1, g1, e1, hv, hi1⟩ := pick_ok b hb i g [0, 85, 256, (-64), 128, 1024, (-1024)] hi (by simp) (by simp)
    have hvr : -1024 ≤ v ∧ v ≤ 1024 := by
      simp only [List.mem_cons, List.not_mem_nil, or_false] at hv
      omega
    have hkm : k < m.length := by rw [hm.1]; omega
    have hst : spec_l08Map_L0 c0 i g m k = some (.inl (i1, g1, m.set k v, ((k + 1 : Nat) : Int))) := by
      unfold spec_l08Map_L0
      rw [ifO_pos (by simp; omega), hc, e1, bnd_s]
      simp only []
      rw [upd_lt hkm, bnd_s, wr_succ (by omega)]
    rw [loopO_inl (f := fun (x : Int × Int × List Int × Int) => spec_l08Map_L0 c0 x.1 x.2.1 x.2.2.1 x.2.2.2) (s := (i, g, m, (k : Int))) hst]
    exact ih (k + 1) i1 g1 _ (by omega) hi1 (hm.set k hvr.1 hvr.2)
theorem curLoop (c0 : L01CurT) (hc : c0.b = b) {L : Int × Int × List Int × Int × Int → Option ((Int × Int × List Int × Int × Int) ⊕ (List Int × Int × Int))} (hL : ∀ i g m v k, L (i, g, m, v, k) = spec_l08Map_L1 c0 i g m v k) : ∀ (j k : Nat) (i g : Int) (m : List Int) (v : Int), k + j = 17 → 0 ≤ i → RowIn 17 0 256 m → (0 ≤ v ∧ v ≤ 256) → ∃ i' g' m', loopO L (i, g, m, v, (k : Int)) = some (m', i', g') ∧ 0 ≤ i' ∧ RowIn 17 0 256 m' := by
  intro j
  induction j with
  | zero =>
    intro k i g m v hk hi hm hv
    refine ⟨i, g, m, loopO_inr ?_, hi, hm⟩
    rw [hL]
    unfold spec_l08Map_L1
    rw [ifO_neg (by simp; omega)]
  | succ j ih =>
    intro k i g m v hk hi hm hv
    obtain ⟨x, i1, g1, e1, x0, x1, hi1⟩ := below_ok b hb i g 40 hi (by omega) (by omega)
    have hkm : k < m.length := by rw [hm.1]; omega
    have hw : wr (v + x) = v + x := wr_in (by omega) (by omega)
    have hst : L (i, g, m, v, (k : Int)) = some (.inl (i1, g1, m.set k (min 256 (v + x)), min 256 (v + x), ((k + 1 : Nat) : Int))) := by
      rw [hL]
      unfold spec_l08Map_L1
      rw [ifO_pos (by simp; omega), hc, e1, bnd_s]
      simp only []
      rw [hw, upd_lt hkm, bnd_s, wr_succ (by omega)]
    rw [loopO_inl hst]
    exact ih (k + 1) i1 g1 _ _ (by omega) hi1 (hm.set k (by omega) (by omega)) (by omega)
theorem map_ok (i g : Int) (hi : 0 ≤ i) : ∃ m i' g', spec_l08Map (L01CurT.mk b i g) = some (m, L01CurT.mk b i' g') ∧ RowIn 9 (-1024) 1024 m.Matrix ∧ RowIn 17 0 256 m.Curve ∧ 0 ≤ i' := by
  obtain ⟨c, i1, g1, e1, hi1⟩ := once_ok b hb i g 2 hi (by omega) (by omega)
  have hM : RowIn 9 (-1024) 1024 idMat := ⟨rfl, fun v hv => by
    simp only [idMat, List.mem_cons, List.not_mem_nil, or_false] at hv
    omega⟩
  have hC : RowIn 17 0 256 idCurve := ⟨by simp [idCurve], fun v hv => by
    simp only [idCurve, List.mem_map, List.mem_range] at hv
    obtain ⟨k, hk, rfl⟩ := hv
    omega⟩
  unfold spec_l08Map
  rw [s_IdentityC, bnd_s, e1, bnd_s]
  simp only []
  cases c with
  | true =>
    obtain ⟨i2, g2, m2, e2, hi2, hm2⟩ := matLoop b hb (L01CurT.mk b i g) rfl 9 0 i1 g1 idMat (by omega) hi1 hM
    have e2' : loopO (fun (x : Int × Int × List Int × Int) => spec_l08Map_L0 (L01CurT.mk b i g) x.1 x.2.1 x.2.2.1 x.2.2.2) (i1, g1, idMat, 0) = some (i2, g2, m2) := e2
    rw [ifO_true, e2', bnd_s]
    simp only []
    obtain ⟨c2, i3, g3, e3, hi3⟩ := once_ok b hb i2 g2 2 hi2 (by omega) (by omega)
    rw [e3, bnd_s]
    simp only []
    cases c2 with
    | true =>
      obtain ⟨i4, g4, m4, e4, hi4, hm4⟩ := curLoop b hb (L01CurT.mk b i g) rfl (L := fun x => spec_l08Map_L1 (L01CurT.mk b i g) x.1 x.2.1 x.2.2.1 x.2.2.2.1 x.2.2.2.2) (fun _ _ _ _ _ => rfl) 17 0 i3 g3 idCurve 0 (by omega) hi3 hC (by omega)
      have e4' : loopO (fun x : Int × Int × List Int × Int × Int => spec_l08Map_L1 (L01CurT.mk b i g) x.1 x.2.1 x.2.2.1 x.2.2.2.1 x.2.2.2.2) (i3, g3, idCurve, 0, 0) = some (m4, i4, g4) := e4
      rw [ifO_true, e4', bnd_s]
      exact ⟨_, i4, g4, rfl, hm2, hm4, hi4⟩
    | false => exact ⟨_, i3, g3, rfl, hm2, hC, hi3⟩
  | false =>
    rw [ifO_false]
    obtain ⟨c2, i3, g3, e3, hi3⟩ := once_ok b hb i1 g1 2 hi1 (by omega) (by omega)
    rw [e3, bnd_s]
    simp only []
    cases c2 with
    | true =>
      obtain ⟨i4, g4, m4, e4, hi4, hm4⟩ := curLoop b hb (L01CurT.mk b i g) rfl (L := fun x => spec_l08Map_L2 (L01CurT.mk b i g) x.1 x.2.1 x.2.2.1 x.2.2.2.1 x.2.2.2.2) (fun _ _ _ _ _ => rfl) 17 0 i3 g3 idCurve 0 (by omega) hi3 hC (by omega)
      have e4' : loopO (fun x : Int × Int × List Int × Int × Int => spec_l08Map_L2 (L01CurT.mk b i g) x.1 x.2.1 x.2.2.1 x.2.2.2.1 x.2.2.2.2) (i3, g3, idCurve, 0, 0) = some (m4, i4, g4) := e4
      rw [ifO_true, e4', bnd_s]
      exact ⟨_, i4, g4, rfl, hM, hm4, hi4⟩
    | false => exact ⟨_, i3, g3, rfl, hM, hC, hi3⟩
theorem anyMap_ok (i g : Int) (hi : 0 ≤ i) : ∃ m i' g', spec_l08Any (L01CurT.mk b i g) = some (m, L01CurT.mk b i' g') ∧ m.Matrix.length ≤ 20 ∧ m.Curve.length ≤ 20 ∧ 0 ≤ i' := by
  obtain ⟨m, i1, g1, e1, hm, hc, hi1⟩ := map_ok b hb i g hi
  obtain ⟨x, i2, g2, e2, x0, x1, hi2⟩ := below_ok b hb i1 g1 12 hi1 (by omega) (by omega)
  have h1 := hm.1
  have h2 := hc.1
  unfold spec_l08Any
  rw [e1, bnd_s]
  simp only []
  rw [e2, bnd_s]
  simp only []
  by_cases c0 : x = 0
  · rw [ifO_pos (by simpa using c0)]
    obtain ⟨y, i3, g3, e3, y0, y1, hi3⟩ := below_ok b hb i2 g2 9 hi2 (by omega) (by omega)
    obtain ⟨v, i4, g4, e4, _, hi4⟩ := pick_ok b hb i3 g3 [(-1025), 1025] hi3 (by simp) (by simp)
    rw [e3, bnd_s]
    simp only []
    rw [e4, bnd_s]
    simp only []
    rw [upd, if_pos ⟨y0, by omega⟩, bnd_s]
    exact ⟨_, i4, g4, rfl, by show (m.Matrix.set y.toNat v).length ≤ 20; rw [List.length_set]; omega, by show m.Curve.length ≤ 20; omega, hi4⟩
  rw [ifO_neg (by simpa using c0)]
  by_cases c1 : x = 1
  · rw [ifO_pos (by simpa using c1)]
    obtain ⟨y, i3, g3, e3, y0, y1, hi3⟩ := below_ok b hb i2 g2 17 hi2 (by omega) (by omega)
    obtain ⟨v, i4, g4, e4, _, hi4⟩ := pick_ok b hb i3 g3 [(-1), 0, 256, 257] hi3 (by simp) (by simp)
    rw [e3, bnd_s]
    simp only []
    rw [e4, bnd_s]
    simp only []
    rw [upd, if_pos ⟨y0, by omega⟩, bnd_s]
    exact ⟨_, i4, g4, rfl, by show m.Matrix.length ≤ 20; omega, by show (m.Curve.set y.toNat v).length ≤ 20; rw [List.length_set]; omega, hi4⟩
  rw [ifO_neg (by simpa using c1)]
  by_cases c2 : x = 2
  · rw [ifO_pos (by simpa using c2), subO, if_pos ⟨by omega, by omega, by omega⟩, bnd_s]
    exact ⟨_, i2, g2, rfl, by show m.Matrix.length ≤ 20; omega, by
      show (List.drop _ (List.take _ m.Curve)).length ≤ 20
      rw [List.length_drop, List.length_take]; omega, hi2⟩
  rw [ifO_neg (by simpa using c2)]
  by_cases c3 : x = 3
  · rw [ifO_pos (by simpa using c3), app_le (by simp; omega), bnd_s]
    exact ⟨_, i2, g2, rfl, by show (m.Matrix ++ [0]).length ≤ 20; simp; omega, by show m.Curve.length ≤ 20; omega, hi2⟩
  · rw [ifO_neg (by simpa using c3)]
    exact ⟨_, i2, g2, rfl, by omega, by omega, hi2⟩
end DM
theorem RowIn.col {m : ColorMapT} (h1 : RowIn 9 (-1024) 1024 m.Matrix) (h2 : RowIn 17 0 256 m.Curve) : colOk m = true := by
  unfold colOk
  have a1 : (m.Matrix.all fun x => inR x (-1024) 1024) = true := List.all_eq_true.2 fun v hv => inR_t.2 (h1.2 v hv)
  have a2 : (m.Curve.all fun x => inR x 0 256) = true := List.all_eq_true.2 fun v hv => inR_t.2 (h2.2 v hv)
  rw [h1.1, h2.1, a1, a2]; rfl
end Go.Proofs.Ytbdpbboonilhhaa
