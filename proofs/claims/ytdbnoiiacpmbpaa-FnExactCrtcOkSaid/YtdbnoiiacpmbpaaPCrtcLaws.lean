/- The law about states. -/
import Derived.Test.YtdbnoiiacpmbpaaPCrtc
namespace Go.Proofs.Ytdbnoiiacpmbpaa
open Go.RowKit K
theorem FnExactCrtcOk_true (c : CrtcT) (o : okCrtc c) : laws_FnExactCrtcOk c = some true := by
  obtain ⟨v, hv, _, hb⟩ := szCrtc_ok c o 1048576 (by decide) (by decide)
  simp only [laws_FnExactCrtcOk, hv, bnd_s]
  by_cases hneg : v < 0
  · rw [ifO_pos (by simpa using hneg)]
  · have hs := hb (by omega)
    rw [ifO_neg (by simpa using hneg)]
    simp [toCrtc_eq c hs, s_CrtcOk c hs, i_CrtcOk c hs, eqCrtc_self c hs]
end Go.Proofs.Ytdbnoiiacpmbpaa
