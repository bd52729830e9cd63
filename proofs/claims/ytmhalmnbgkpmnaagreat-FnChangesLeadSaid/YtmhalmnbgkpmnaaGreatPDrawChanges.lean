/- The state and the changes that are drawn. -/
import Derived.Test.YtmhalmnbgkpmnaaGreatPDrawMap
import Derived.Test.YtmhalmnbgkpmnaaGreatPLay
namespace Go.Proofs.YtmhalmnbgkpmnaaGreat
open Go.RowKit K
section DC
variable (b : List Int) (hb : b.length ≤ 1048576)
include hb
theorem chLoop (c0 : L01CurT) (hc0 : c0.b = b) (P : List PlaneT) (hP : P.length = 4) (hsm : smPlaneS P) : ∀ (k : Nat) (i g : Int) (out : List ChangeT), k ≤ 3 → 0 ≤ i → out.length + k ≤ 3 → (∀ x ∈ out, smChange x) →
    ∃ i' g' out', loopO (fun (x : Int × Int × List ChangeT × Int) => spec_l22Changes_L0 c0 P x.1 x.2.1 x.2.2.1 x.2.2.2) (i, g, out, (k : Int)) = some (i', g', out') ∧ 0 ≤ i' ∧ out'.length ≤ 3 ∧ ∀ x ∈ out', smChange x := by
  intro k
  induction k with
  | zero =>
    intro i g out _ hi ho hs
    refine ⟨i, g, out, loopO_inr ?_, hi, by omega, hs⟩
    show spec_l22Changes_L0 c0 P i g out _ = _
    unfold spec_l22Changes_L0
    rw [ifO_neg (by simp)]
  | succ k ih =>
    intro i g out hk hi ho hs
    obtain ⟨x, i1, g1, e1, x0, x1, hi1⟩ := below_ok b hb i g 5 hi (by omega) (by omega)
    have hw : wr (x - 1) = x - 1 := wr_in (by omega) (by omega)
    have hpos : decide (0 < ((k + 1 : Nat) : Int)) = true := by simp only [decide_eq_true_eq]; omega
    by_cases hneg : x - 1 < 0
    · obtain ⟨m, i2, g2, e2, m1, m2, hi2⟩ := anyMap_ok b hb i1 g1 hi1
      have hst : spec_l22Changes_L0 c0 P i g out ((k + 1 : Nat) : Int) = some (.inl (i2, g2, out ++ [ChangeT.mk (-1) (PlaneT.mk false 0 0 0 0 0 [] 0 0 0 0) m], (k : Int))) := by
        unfold spec_l22Changes_L0
        rw [hpos, ifO_true, hc0, e1, bnd_s]
        simp only []
        rw [hw, ifO_pos (by simpa using hneg), e2, bnd_s]
        simp only []
        rw [app_le (by simp; omega), bnd_s, bnd_s]
        simp only []
        rw [wr_pred (by omega)]
      rw [loopO_inl (f := fun (x : Int × Int × List ChangeT × Int) => spec_l22Changes_L0 c0 P x.1 x.2.1 x.2.2.1 x.2.2.2) (s := (i, g, out, ((k + 1 : Nat) : Int))) hst]
      refine ih i2 g2 _ (by omega) hi2 (by simp; omega) (fun y hy => ?_)
      rcases List.mem_append.1 hy with hy | hy
      · exact hs y hy
      · rw [List.mem_singleton.1 hy]
        exact ⟨Nat.zero_le _, by show m.Matrix.length ≤ 1048576; omega, by show m.Curve.length ≤ 1048576; omega⟩
    · have hlt : (x - 1).toNat < P.length := by omega
      have hst : spec_l22Changes_L0 c0 P i g out ((k + 1 : Nat) : Int) = some (.inl (i1, g1, out ++ [ChangeT.mk (x - 1) (P[(x - 1).toNat]) (ColorMapT.mk [] [])], (k : Int))) := by
        unfold spec_l22Changes_L0
        rw [hpos, ifO_true, hc0, e1, bnd_s]
        simp only []
        rw [hw, ifO_neg (by simpa using hneg), idx_of (by omega) (by omega), bnd_s, app_le (by simp; omega), bnd_s, bnd_s]
        simp only []
        rw [wr_pred (by omega)]
      rw [loopO_inl (f := fun (x : Int × Int × List ChangeT × Int) => spec_l22Changes_L0 c0 P x.1 x.2.1 x.2.2.1 x.2.2.2) (s := (i, g, out, ((k + 1 : Nat) : Int))) hst]
      refine ih i1 g1 _ (by omega) hi1 (by simp; omega) (fun y hy => ?_)
      rcases List.mem_append.1 hy with hy | hy
      · exact hs y hy
      · rw [List.mem_singleton.1 hy]
        exact ⟨hsm.2 _ (List.getElem_mem hlt), Nat.zero_le _, Nat.zero_le _⟩
theorem DrawChanges_ok : ∃ c l, spec_DrawChanges b = some (c, l) ∧ smCrtc c ∧ spec_PlanesOk c.Planes c.W c.H = some true ∧ colOk c.Color = true ∧ l.length ≤ 4 ∧ ∀ x ∈ l, smChange x := by
  obtain ⟨g, e0⟩ := new_ok b
  obtain ⟨x, i1, g1, e1, x0, x1, hi1⟩ := below_ok b hb 0 g 6 (by omega) (by omega) (by omega)
  obtain ⟨y, i2, g2, e2, y0, y1, hi2⟩ := below_ok b hb i1 g1 4 hi1 (by omega) (by omega)
  have ex : wr (3 + x) = 3 + x := wr_in (by omega) (by omega)
  have ey : wr (3 + y) = 3 + y := wr_in (by omega) (by omega)
  have hw : inR (3 + x) 1 16 = true := inR_t.2 (by omega)
  have hh : inR (3 + y) 1 16 = true := inR_t.2 (by omega)
  obtain ⟨P, i3, g3, e3, ok, sm, hi3⟩ := planes_ok b hb (3 + x) (3 + y) hw hh i2 g2 hi2
  obtain ⟨m, i4, g4, e4, m1, m2, hi4⟩ := map_ok b hb i3 g3 hi3
  have hc : spec_l22Crtc (L01CurT.mk b 0 g) = some (CrtcT.mk (3 + x) (3 + y) P m, L01CurT.mk b i4 g4) := by
    unfold spec_l22Crtc
    rw [e1, bnd_s]
    simp only []
    rw [e2, bnd_s]
    simp only []
    rw [ex, ey, e3, bnd_s]
    simp only []
    rw [e4, bnd_s]
  obtain ⟨Q, i5, g5, e5, okq, smq, hi5⟩ := planes_ok b hb (3 + x) (3 + y) hw hh i4 g4 hi4
  obtain ⟨Q0, Q1, Q2, Q3, hQ, _⟩ := planesOk_parts smq okq
  have hQ4 : Q.length = 4 := by rw [hQ]; rfl
  obtain ⟨n, i6, g6, e6, n0, n1, hi6⟩ := below_ok b hb i5 g5 4 hi5 (by omega) (by omega)
  obtain ⟨n, rfl⟩ : ∃ k : Nat, n = k := ⟨n.toNat, by omega⟩
  obtain ⟨i7, g7, out, e7, hi7, ho, hs⟩ := chLoop b hb (L01CurT.mk b i4 g4) rfl Q hQ4 smq n i6 g6 [] (by omega) hi6 (by simp; omega) (by simp)
  obtain ⟨q, i8, g8, e8, hi8⟩ := once_ok b hb i7 g7 6 hi7 (by omega) (by omega)
  have hl : ∃ l r, spec_l22Changes (L01CurT.mk b i4 g4) (CrtcT.mk (3 + x) (3 + y) P m) = some (l, r) ∧ l.length ≤ 4 ∧ ∀ x ∈ l, smChange x := by
    unfold spec_l22Changes
    simp only []
    rw [e5, bnd_s]
    simp only []
    rw [e6, bnd_s]
    simp only []
    rw [e7, bnd_s]
    simp only []
    rw [e8, bnd_s]
    simp only []
    cases q with
    | true =>
      obtain ⟨u, i9, g9, e9, hi9⟩ := place_ok b hb i8 g8 4 hi8 (by omega) (by omega)
      obtain ⟨v, i10, g10, e10, v0, v1, _⟩ := below_ok b hb i9 g9 4 hi9 (by omega) (by omega)
      rw [ifO_true, e9, bnd_s]
      simp only []
      rw [e10, bnd_s]
      simp only []
      have hv : v.toNat < Q.length := by omega
      rw [idx_of v0 (by omega), bnd_s, app_le (by simp; omega), bnd_s]
      refine ⟨_, _, rfl, by simp; omega, fun y hy => ?_⟩
      rcases List.mem_append.1 hy with hy | hy
      · exact hs y hy
      · rw [List.mem_singleton.1 hy]
        exact ⟨smq.2 _ (List.getElem_mem hv), Nat.zero_le _, Nat.zero_le _⟩
    | false => exact ⟨_, _, rfl, by omega, hs⟩
  obtain ⟨l, r, h1, h2, h3⟩ := hl
  refine ⟨CrtcT.mk (3 + x) (3 + y) P m, l, ?_, ⟨sm, by show m.Matrix.length ≤ 1048576; rw [m1.1]; omega, by show m.Curve.length ≤ 1048576; rw [m2.1]; omega⟩, ok, RowIn.col m1 m2, h2, h3⟩
  unfold spec_DrawChanges
  rw [e0, bnd_s]
  simp only []
  rw [hc, bnd_s]
  simp only []
  rw [h1]; rfl
end DC
end Go.Proofs.YtmhalmnbgkpmnaaGreat
