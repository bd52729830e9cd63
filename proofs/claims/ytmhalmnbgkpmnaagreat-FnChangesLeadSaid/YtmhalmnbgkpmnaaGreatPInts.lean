/- Lists of ints held against each other. -/
import Derived.Test.YtmhalmnbgkpmnaaGreatPBase
namespace Go.Proofs.YtmhalmnbgkpmnaaGreat
open Go.RowKit K

def eqInts (xs ys : List Int) : Bool := decide (xs = ys)
theorem zip_all : ∀ (xs ys : List Int), xs.length = ys.length → (List.zipWith (fun x y => decide (x = y)) xs ys).all id = decide (xs = ys)
  | [], [], _ => rfl
  | x :: xs, y :: ys, h => by
    rw [List.zipWith_cons_cons, List.all_cons, zip_all xs ys (by simpa using h)]
    by_cases e : x = y <;> simp [e]
theorem s_Ints (xs ys : List Int) (h : xs.length ≤ 1048576) : spec_l05Ints xs ys = some (eqInts xs ys) := by
  by_cases hl : xs.length = ys.length
  · have := eqList (L := fun k => spec_l05Ints_L0 xs ys k) xs ys hl (by omega) (fun x y => decide (x = y)) (fun k hk hk' => by
      simp only [spec_l05Ints_L0, idx_lt hk, idx_lt hk', bnd_s]
      rw [ifO_pos (by simpa using hk)]
      cases decide (xs[k] = ys[k]) <;> rfl) (by simp [spec_l05Ints_L0])
    simp only [spec_l05Ints, this, zip_all xs ys hl, eqInts]
    rw [ifO_neg (by simp [hl]), bnd_s]
    cases decide (xs = ys) <;> rfl
  · have hne : ¬ xs = ys := fun e => hl (by rw [e])
    rw [spec_l05Ints, ifO_pos (by simp; omega), eqInts]; simp [hne]
theorem i_Ints (xs ys : List Int) (h : xs.length ≤ 1048576) : slices_Equal_S_int_int xs ys = some (eqInts xs ys) := by
  have e : slices_Equal_S_int_int xs ys = spec_l05Ints xs ys := rfl
  rw [e, s_Ints xs ys h]
end Go.Proofs.YtmhalmnbgkpmnaaGreat
