/- Flips copied. -/
import Derived.Test.YtgkflkecnmnipaaGreatPFlipsX
import Derived.Test.YtgkflkecnmnipaaGreatPCopies
namespace Go.Proofs.YtgkflkecnmnipaaGreat
open Go.RowKit K
theorem s_copyFlips (f : FlipsT) (h : smFlips f) : spec_l23Copy f = some f := by
  have hl : f.Pending.length ≤ 1048576 := h.1.1
  have h1 : f.Signalled.length ≤ 1048576 := h.2.1
  have h2 : f.Events.length ≤ 1048576 := h.2.2
  have := copyLoop (L := fun x => spec_l23Copy_L0 f x.1 x.2) f.Pending hl (fun k hk out ho => by
    show spec_l23Copy_L0 f out k = _
    unfold spec_l23Copy_L0 spec_l23CopyFlip
    rw [ifO_pos (by simpa using hk), idx_lt hk, bnd_s, s_copyCrtc _ (smPend h hk), bnd_s, bnd_s, app_le (by simp only [List.length_singleton]; omega), bnd_s, wr_succ (by omega)]) (fun out => by
    show spec_l23Copy_L0 f out _ = _
    unfold spec_l23Copy_L0
    rw [ifO_neg (by simp)])
  simp only [spec_l23Copy, appI h1, appI h2, bnd_s]
  rw [this]; rfl
theorem i_copyFlips (f : FlipsT) (h : smFlips f) : impl_copyFlips f = some f := by
  have hl : f.Pending.length ≤ 1048576 := h.1.1
  have h1 : f.Signalled.length ≤ 1048576 := h.2.1
  have h2 : f.Events.length ≤ 1048576 := h.2.2
  have := copyLoop (L := fun x => impl_copyFlips_L0 f x.1 x.2) f.Pending hl (fun k hk out ho => by
    show impl_copyFlips_L0 f out k = _
    unfold impl_copyFlips_L0
    rw [ifO_pos (by simpa using hk), idx_lt hk, bnd_s, i_copyCrtc _ (smPend h hk), bnd_s, app_le (by simp only [List.length_singleton]; omega), bnd_s, wr_succ (by omega)]) (fun out => by
    show impl_copyFlips_L0 f out _ = _
    unfold impl_copyFlips_L0
    rw [ifO_neg (by simp)])
  simp only [impl_copyFlips, cloneI h1, cloneI h2, bnd_s]
  rw [this]; rfl
end Go.Proofs.YtgkflkecnmnipaaGreat
