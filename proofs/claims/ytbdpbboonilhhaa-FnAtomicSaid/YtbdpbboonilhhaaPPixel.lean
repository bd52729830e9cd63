/- Opaque pixels. -/
import Derived.Test.YtbdpbboonilhhaaPImage
namespace Go.Proofs.Ytbdpbboonilhhaa
open Go.RowKit K

def opq (p : Int) : Bool := pixOk p && decide (and64 (shr p 24) 255 = 255)
theorem shr24 (p : Int) : shrO p (wr (24 - wr (8 * 0))) = some (shr p 24) := rfl
theorem s_Opaque (p : Int) : spec_l10Opaque p = some (opq p) := by
  simp only [spec_l10Opaque, spec_ChannelOf, l04Pixel_eq, l01In_eq, bnd_s, orO_some, shr24]
  unfold opq pixOk
  cases inR p 0 4294967295 <;> rfl
theorem i_Opaque (p : Int) : impl_isOpaquePixel p = some (opq p) := by
  simp only [impl_isOpaquePixel, impl_channel, isPixel_eq, bnd_s, shr24]
  unfold opq pixOk
  cases inR p 0 4294967295 <;> rfl
end Go.Proofs.Ytbdpbboonilhhaa
