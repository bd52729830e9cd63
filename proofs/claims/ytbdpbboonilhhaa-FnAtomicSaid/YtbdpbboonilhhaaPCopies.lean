/- Copies. -/
import Derived.Test.YtbdpbboonilhhaaPBase
namespace Go.Proofs.Ytbdpbboonilhhaa
open Go.RowKit K
theorem cloneI {xs : List Int} (h : xs.length ≤ 1048576) : slices_Clone_S_int_int xs = some xs := need_t (by omega) _
theorem appI {α : Type} {xs : List α} (h : xs.length ≤ 1048576) : app ([] : List α) xs = some xs := by rw [app_le (by simp only [List.length_nil]; omega)]; rfl
theorem copyLoop {α : Type} {L : List α × Int → Option ((List α × Int) ⊕ List α)} (xs : List α) (hn : xs.length ≤ 1048576)
    (hgo : ∀ (k : Nat) (hk : k < xs.length) (out : List α), out.length = k → L (out, (k : Int)) = some (.inl (out ++ [xs[k]], ((k + 1 : Nat) : Int)))) (hend : ∀ out, L (out, (xs.length : Int)) = some (.inr out)) : loopO L ([], 0) = some xs := by
  have h := loopO_up (f := L) (fun k => (xs.take k, (k : Int))) xs.length xs (by simp only [List.take_length]; exact hend xs) (fun k hk => by
    rw [hgo k hk (xs.take k) (by rw [List.length_take]; omega), List.take_add_one, List.getElem?_eq_getElem hk]; rfl) 0 (by omega)
  exact h
theorem i_copyPlanes (l : List PlaneT) (h : smPlaneS l) : impl_copyPlanes l = some l :=
  need_t ⟨by have := h.1; omega, fun p hp => by have : p.Words.length ≤ 1048576 := h.2 p hp; omega⟩ _
theorem i_copyColor (m : ColorMapT) (h : smColorMap m) : impl_copyColor m = some m := by
  have h1 : m.Matrix.length ≤ 1048576 := h.1
  have h2 : m.Curve.length ≤ 1048576 := h.2
  simp only [impl_copyColor, cloneI h1, cloneI h2, bnd_s]
theorem i_copyCrtc (c : CrtcT) (h : smCrtc c) : impl_copyCrtc c = some c := by
  simp only [impl_copyCrtc, i_copyPlanes _ h.1, i_copyColor _ h.2, bnd_s]
end Go.Proofs.Ytbdpbboonilhhaa
