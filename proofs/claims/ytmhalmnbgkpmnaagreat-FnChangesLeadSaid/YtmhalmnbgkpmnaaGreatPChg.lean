/- The changes that lead from a state to another. -/
import Derived.Test.YtmhalmnbgkpmnaaGreatPSame
import Derived.Test.YtmhalmnbgkpmnaaGreatPCopies
namespace Go.Proofs.YtmhalmnbgkpmnaaGreat
open Go.RowKit K
theorem samePl_comm (a b : PlaneT) : samePl a b = samePl b a := by
  unfold samePl eqInts
  have c : ∀ x y : Int, decide (x = y) = decide (y = x) := fun x y => decide_eq_decide.2 ⟨Eq.symm, Eq.symm⟩
  have d : decide (a.Words = b.Words) = decide (b.Words = a.Words) := decide_eq_decide.2 ⟨Eq.symm, Eq.symm⟩
  have e : (a.On == b.On) = (b.On == a.On) := by cases a.On <;> cases b.On <;> rfl
  rw [c a.X, c a.Y, c a.W, c a.H, c a.Layout, c a.Alpha, c a.Orient, c a.ToW, c a.ToH, d, e]
def zeroP0 : PlaneT := PlaneT.mk false 0 0 0 0 0 [] 0 0 0 0
def chg1 (a b : List PlaneT) (k : Nat) : List ChangeT := match a[k]?, b[k]? with
  | some x, some y => if samePl x y then [] else [ChangeT.mk (k : Int) y (ColorMapT.mk [] [])]
  | _, _ => []
def chgs (a b : List PlaneT) : Nat → List ChangeT
  | 0 => []
  | k + 1 => chgs a b k ++ chg1 a b k
theorem chg1_same {a b : List PlaneT} {k : Nat} (ha : k < a.length) (hb : k < b.length) (h : samePl a[k] b[k] = true) : chg1 a b k = [] := by
  unfold chg1; rw [List.getElem?_eq_getElem ha, List.getElem?_eq_getElem hb]; simp only [h, if_true]
theorem chg1_diff {a b : List PlaneT} {k : Nat} (ha : k < a.length) (hb : k < b.length) (h : samePl a[k] b[k] = false) : chg1 a b k = [ChangeT.mk (k : Int) b[k] (ColorMapT.mk [] [])] := by
  unfold chg1; rw [List.getElem?_eq_getElem ha, List.getElem?_eq_getElem hb]; simp only [h]; rfl
theorem chg1_none {a b : List PlaneT} {k : Nat} (h : a.length ≤ k ∨ b.length ≤ k) : chg1 a b k = [] := by
  unfold chg1
  rcases h with h | h
  · rw [List.getElem?_eq_none h]
  · cases a[k]? with
    | none => rfl
    | some x => rw [List.getElem?_eq_none h]
theorem chg1_len (a b : List PlaneT) (k : Nat) : (chg1 a b k).length ≤ 1 := by
  unfold chg1
  split
  · split <;> simp
  · simp
theorem chgs_len (a b : List PlaneT) : ∀ k, (chgs a b k).length ≤ k
  | 0 => Nat.le_refl _
  | k + 1 => by
    have := chgs_len a b k
    have := chg1_len a b k
    unfold chgs
    rw [List.length_append]; omega
theorem chgs_sm (a : List PlaneT) {b : List PlaneT} (hb : smPlaneS b) : ∀ k, ∀ x ∈ chgs a b k, smChange x
  | 0, x, h => by simp [chgs] at h
  | k + 1, x, h => by
    unfold chgs at h
    rcases List.mem_append.1 h with h | h
    · exact chgs_sm a hb k x h
    · unfold chg1 at h
      split at h
      · rename_i y hx hy
        split at h
        · simp at h
        · rw [List.mem_singleton.1 h]
          exact ⟨hb.2 _ (List.mem_of_getElem? hy), by simp [smColorMap, smIntS]⟩
      · simp at h
theorem chgs_stop (a b : List PlaneT) (n : Nat) (h : a.length ≤ n ∨ b.length ≤ n) : ∀ j, chgs a b (n + j) = chgs a b n
  | 0 => rfl
  | j + 1 => by
    have e : chg1 a b (n + j) = [] := chg1_none (h.imp (fun h => by omega) (fun h => by omega))
    show chgs a b (n + j) ++ chg1 a b (n + j) = _
    rw [e, List.append_nil]; exact chgs_stop a b n h j
def chgFor (c : CrtcT) (p : List PlaneT) (m : ColorMapT) : List ChangeT := chgs c.Planes p (min c.Planes.length p.length) ++ if sameCol c.Color m then [] else [ChangeT.mk (-1) zeroP0 m]
theorem chgFor_sm (c : CrtcT) (p : List PlaneT) (m : ColorMapT) (hp : smPlaneS p) (hm : smColorMap m) : (chgFor c p m).length ≤ p.length + 1 ∧ (chgFor c p m).length ≤ c.Planes.length + 1 ∧ ∀ x ∈ chgFor c p m, smChange x := by
  unfold chgFor
  have hle := chgs_len c.Planes p (min c.Planes.length p.length)
  refine ⟨?_, ?_, ?_⟩
  · rw [List.length_append]
    split <;> simp <;> omega
  · rw [List.length_append]
    split <;> simp <;> omega
  · intro x hx
    rcases List.mem_append.1 hx with hx | hx
    · exact chgs_sm _ hp _ x hx
    · split at hx
      · simp at hx
      · rw [List.mem_singleton.1 hx]
        exact ⟨Nat.zero_le _, hm⟩
theorem i_ChangesFor (c : CrtcT) (p : List PlaneT) (m : ColorMapT) (hc : smCrtc c) (hp : smPlaneS p) (hm : smColorMap m) : impl_ChangesFor c p m = some (chgFor c p m) := by
  have hl1 : c.Planes.length ≤ 1048576 := hc.1.1
  have hl2 : p.length ≤ 1048576 := hp.1
  have he : chgs c.Planes p p.length = chgs c.Planes p (min c.Planes.length p.length) := by
    rcases Nat.le_total p.length c.Planes.length with h | h
    · rw [Nat.min_eq_right h]
    · rw [Nat.min_eq_left h]
      have := chgs_stop c.Planes p c.Planes.length (.inl (Nat.le_refl _)) (p.length - c.Planes.length)
      rwa [show c.Planes.length + (p.length - c.Planes.length) = p.length by omega] at this
  have h := loopO_up (f := fun x : List ChangeT × Int => impl_ChangesFor_L0 c p x.1 x.2) (fun k => (chgs c.Planes p k, (k : Int))) p.length (chgs c.Planes p p.length) (by
    show impl_ChangesFor_L0 c p _ _ = _
    unfold impl_ChangesFor_L0
    rw [ifO_neg (by simp)]) (fun k hk => by
    have hle := chgs_len c.Planes p k
    show impl_ChangesFor_L0 c p (chgs c.Planes p k) k = some (.inl (chgs c.Planes p k ++ chg1 c.Planes p k, _))
    unfold impl_ChangesFor_L0
    rw [ifO_pos (by simpa using hk), idx_lt hk, bnd_s]
    rcases Nat.lt_or_ge k c.Planes.length with k1 | k1
    · rw [decide_eq_true (show (k : Int) < (c.Planes.length : Int) by omega), idx_lt k1, bnd_s, i_SamePlane _ _ (hp.2 _ (List.getElem_mem hk)), bnd_s, andO_some, bnd_s, samePl_comm]
      cases he : samePl c.Planes[k] p[k] with
      | true => rw [chg1_same k1 hk he, wr_succ (by omega), List.append_nil]; rfl
      | false =>
        rw [chg1_diff k1 hk he, Bool.not_false, Bool.and_self, ifO_true, app_le (by simp only [List.length_singleton]; omega), bnd_s, bnd_s, wr_succ (by omega)]
    · rw [chg1_none (.inl k1), decide_eq_false (show ¬ (k : Int) < (c.Planes.length : Int) by omega)]
      simp only [andO, Bool.false_eq_true, if_false, bnd_s, ifO_false]
      rw [wr_succ (by omega), List.append_nil]) 0 (by omega)
  have h' : loopO (fun x : List ChangeT × Int => impl_ChangesFor_L0 c p x.1 x.2) ([], 0) = some (chgs c.Planes p p.length) := h
  have hle := chgs_len c.Planes p p.length
  rw [he] at h' hle
  unfold impl_ChangesFor chgFor
  rw [i_copyPlanes _ hp, bnd_s, h', bnd_s, i_SameColor _ _ hc.2, bnd_s]
  cases sameCol c.Color m with
  | true => simp
  | false => rw [Bool.not_false, ifO_true, i_copyColor _ hm, bnd_s, app_le (by simp only [List.length_singleton]; omega), bnd_s]; rfl
end Go.Proofs.YtmhalmnbgkpmnaaGreat
