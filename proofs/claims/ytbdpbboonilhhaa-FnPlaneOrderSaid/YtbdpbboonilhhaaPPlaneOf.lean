/- A plane of an image. -/
import Derived.Test.YtbdpbboonilhhaaPPlane
namespace Go.Proofs.Ytbdpbboonilhhaa
open Go.RowKit K

theorem PlaneOf_eq (i : ImageT) (x y lay : Int) (h : i.Data.length ≤ 1048576) : ∃ p, spec_PlaneOf i x y lay = some p ∧ impl_PlaneOf i x y lay = some p ∧ p.Words.length ≤ 512 := by
  obtain ⟨w, b, e1, e2, e3⟩ := StoreImage_eq i lay h
  simp only [spec_PlaneOf, impl_PlaneOf, e1, e2, bnd_s]
  cases b with
  | true => exact ⟨_, rfl, rfl, e3⟩
  | false => exact ⟨_, rfl, rfl, by simp⟩
end Go.Proofs.Ytbdpbboonilhhaa
