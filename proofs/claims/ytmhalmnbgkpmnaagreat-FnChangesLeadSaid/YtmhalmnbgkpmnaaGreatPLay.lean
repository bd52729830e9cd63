/- Planes put together, and what they show. -/
import Derived.Test.YtmhalmnbgkpmnaaGreatPPlaneOk
import Derived.Test.YtmhalmnbgkpmnaaGreatPPlanesDrawn
namespace Go.Proofs.YtmhalmnbgkpmnaaGreat
open Go.RowKit K
theorem PlaneOk_some {k w h : Int} {p : PlaneT} (hp : p.Words.length ≤ 1048576) : ∃ b, spec_PlaneOk k p w h = some b ∧ impl_PlaneOk k p w h = some b := by
  obtain ⟨b, e1, e2, _⟩ := PlaneOk_eq k p w h hp
  exact ⟨b, e1, e2⟩
theorem planesOk_mk {P0 P1 P2 P3 : PlaneT} {w h : Int} (c0 : spec_PlaneOk 0 P0 w h = some true) (c1 : spec_PlaneOk 1 P1 w h = some true) (c2 : spec_PlaneOk 2 P2 w h = some true) (c3 : spec_PlaneOk 3 P3 w h = some true) (hz : P1.ToW = 0 ∨ P2.ToW = 0) : spec_PlanesOk [P0, P1, P2, P3] w h = some true := by
  have step : ∀ (k : Nat) (P : PlaneT), k < 4 → [P0, P1, P2, P3][k]? = some P → spec_PlaneOk k P w h = some true → spec_PlanesOk_L0 [P0, P1, P2, P3] w h k = some (.inl ((k + 1 : Nat) : Int)) := by
    intro k P hk hP hok
    unfold spec_PlanesOk_L0
    rw [ifO_pos (by simp; omega), idx_at hP, bnd_s, hok, bnd_s, wr_succ (by omega)]; rfl
  have hll : loopO (fun k => spec_PlanesOk_L0 [P0, P1, P2, P3] w h k) 0 = some (.inl ()) := by
    rw [loopO_inl (f := fun k => spec_PlanesOk_L0 [P0, P1, P2, P3] w h k) (s := 0) (step 0 P0 (by omega) rfl c0)]
    rw [loopO_inl (f := fun k => spec_PlanesOk_L0 [P0, P1, P2, P3] w h k) (step 1 P1 (by omega) rfl c1)]
    rw [loopO_inl (f := fun k => spec_PlanesOk_L0 [P0, P1, P2, P3] w h k) (step 2 P2 (by omega) rfl c2)]
    rw [loopO_inl (f := fun k => spec_PlanesOk_L0 [P0, P1, P2, P3] w h k) (step 3 P3 (by omega) rfl c3)]
    exact loopO_inr rfl
  have x1 : idx [P0, P1, P2, P3] 1 = some P1 := rfl
  have x2 : idx [P0, P1, P2, P3] 2 = some P2 := rfl
  unfold spec_PlanesOk
  rw [hll, ifO_neg (by simp)]
  simp only [bnd_s, fork_inl, x1, x2, orO_some]
  rcases hz with hz | hz <;> simp [hz]
theorem planesOk_parts {l : List PlaneT} {w h : Int} (hs : smPlaneS l) (hok : spec_PlanesOk l w h = some true) : ∃ P0 P1 P2 P3, l = [P0, P1, P2, P3] ∧ spec_PlaneOk 0 P0 w h = some true ∧ spec_PlaneOk 1 P1 w h = some true ∧ spec_PlaneOk 2 P2 w h = some true ∧ spec_PlaneOk 3 P3 w h = some true ∧ (P1.ToW = 0 ∨ P2.ToW = 0) := by
  obtain ⟨b, e1, _, e3⟩ := PlanesOk_eq l w h hs
  rw [hok] at e1
  obtain rfl := Option.some.inj e1
  obtain ⟨P0, P1, P2, P3, rfl, _⟩ := e3 rfl
  refine ⟨P0, P1, P2, P3, rfl, ?_⟩
  have sm : ∀ x ∈ [P0, P1, P2, P3], x.Words.length ≤ 1048576 := hs.2
  obtain ⟨b0, c0, _⟩ := PlaneOk_some (k := 0) (w := w) (h := h) (sm P0 (by simp))
  obtain ⟨b1, c1, _⟩ := PlaneOk_some (k := 1) (w := w) (h := h) (sm P1 (by simp))
  obtain ⟨b2, c2, _⟩ := PlaneOk_some (k := 2) (w := w) (h := h) (sm P2 (by simp))
  obtain ⟨b3, c3, _⟩ := PlaneOk_some (k := 3) (w := w) (h := h) (sm P3 (by simp))
  let f : Nat → Bool := fun k => match k with | 0 => b0 | 1 => b1 | 2 => b2 | _ => b3
  have hf : ∀ (k : Nat) (hk : k < 4), spec_PlaneOk k [P0, P1, P2, P3][k] w h = some (f k) := fun k hk => match k, hk with
    | 0, _ => c0
    | 1, _ => c1
    | 2, _ => c2
    | 3, _ => c3
  have hl := allLoop (L := fun k => spec_PlanesOk_L0 [P0, P1, P2, P3] w h k) 4 (by omega) f false (fun k hk ho => by
      show spec_PlanesOk_L0 [P0, P1, P2, P3] w h k = _
      unfold spec_PlanesOk_L0
      have hk' : k < [P0, P1, P2, P3].length := hk
      rw [ifO_pos (by simp; omega), idx_lt hk', bnd_s, hf k hk, bnd_s, ho]; rfl) (fun k hk ho => by
      show spec_PlanesOk_L0 [P0, P1, P2, P3] w h k = _
      unfold spec_PlanesOk_L0
      have hk' : k < [P0, P1, P2, P3].length := hk
      rw [ifO_pos (by simp; omega), idx_lt hk', bnd_s, hf k hk, bnd_s, ho]; rfl) rfl
  have e4 : (List.range 4).all f = (b0 && (b1 && (b2 && b3))) := by
    show (f 0 && (f 1 && (f 2 && (f 3 && true)))) = _
    rw [Bool.and_true]; rfl
  rw [e4] at hl
  have x1 : idx [P0, P1, P2, P3] 1 = some P1 := rfl
  have x2 : idx [P0, P1, P2, P3] 2 = some P2 := rfl
  unfold spec_PlanesOk at hok
  rw [hl, ifO_neg (by simp)] at hok
  cases hb : (b0 && (b1 && (b2 && b3))) with
  | false =>
    rw [hb] at hok
    have := Option.some.inj (show some false = some true from hok)
    cases this
  | true =>
    rw [hb] at hok
    simp only [Bool.and_eq_true] at hb
    obtain ⟨rfl, rfl, rfl, rfl⟩ := hb
    refine ⟨c0, c1, c2, c3, ?_⟩
    simp only [if_true, bnd_s, fork_inl, x1, x2, orO_some] at hok
    have := Option.some.inj hok
    simpa using this
theorem goodOf {l : List PlaneT} {w h : Int} (hs : smPlaneS l) (hok : spec_PlanesOk l w h = some true) : goodPlanes l w h ∧ impl_PlanesOk l w h = some true := by
  obtain ⟨b, e1, e2, e3⟩ := PlanesOk_eq l w h hs
  rw [hok] at e1
  obtain rfl := Option.some.inj e1
  exact ⟨e3 rfl, e2⟩
end Go.Proofs.YtmhalmnbgkpmnaaGreat
