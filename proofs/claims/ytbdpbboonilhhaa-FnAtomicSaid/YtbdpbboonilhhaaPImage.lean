/- Images. -/
import Derived.Test.YtbdpbboonilhhaaPBase
namespace Go.Proofs.Ytbdpbboonilhhaa
open Go.RowKit K

theorem isPixel_eq (x : Int) : impl_isPixel x = some (inR x 0 4294967295) := rfl
theorem l04Pixel_eq (x : Int) : spec_l04Pixel x = some (inR x 0 4294967295) := rfl
def pixOk (p : Int) : Bool := inR p 0 4294967295
def imgOk (i : ImageT) : Bool := inR i.W 1 16 && inR i.H 1 16 && decide ((i.Data.length : Int) = wr (i.W * i.H)) && i.Data.all pixOk
theorem s_ImageOk (i : ImageT) (h : i.Data.length ≤ 1048576) : spec_ImageOk i = some (imgOk i) := by
  have h1 : loopO (fun k => spec_ImageOk_L0 i k) 0 = some (if i.Data.all pixOk then .inl () else .inr false) := by
    refine allList i.Data (by omega) _ false (fun k hk => ?_) ?_
    · simp only [spec_ImageOk_L0, idx_lt hk, bnd_s, l04Pixel_eq]
      rw [ifO_pos (by simpa using hk)]
      unfold pixOk
      cases inR i.Data[k] 0 4294967295 <;> rfl
    · simp [spec_ImageOk_L0]
  simp only [spec_ImageOk, l01In_eq, bnd_s, orO_some, h1, imgOk]
  cases inR i.W 1 16 <;> cases inR i.H 1 16 <;> cases decide ((i.Data.length : Int) = wr (i.W * i.H)) <;> cases i.Data.all pixOk <;> rfl
theorem i_ImageOk (i : ImageT) (h : i.Data.length ≤ 1048576) : impl_ImageOk i = some (imgOk i) := by
  have h1 : loopO (fun k => impl_ImageOk_L0 i k) 0 = some (if i.Data.all pixOk then .inl () else .inr false) := by
    refine allList i.Data (by omega) _ false (fun k hk => ?_) ?_
    · simp only [impl_ImageOk_L0, idx_lt hk, bnd_s, isPixel_eq]
      rw [ifO_pos (by simpa using hk)]
      unfold pixOk
      cases inR i.Data[k] 0 4294967295 <;> rfl
    · simp [impl_ImageOk_L0]
  simp only [impl_ImageOk, isSide_eq, bnd_s, orO_some, h1, imgOk]
  cases inR i.W 1 16 <;> cases inR i.H 1 16 <;> cases decide ((i.Data.length : Int) = wr (i.W * i.H)) <;> cases i.Data.all pixOk <;> rfl
end Go.Proofs.Ytbdpbboonilhhaa
