/- Modes and monitors: what the program and the reference compute. -/
import Derived.Test.YtfgkgkkcaclfpaaPBase
namespace Go.Proofs.Ytfgkgkkcaclfpaa
open Go.RowKit K

def modeOk (m : ModeT) : Bool := inR m.Clock 1 1000000 && inR m.W 1 16 && inR m.H 1 16 && inR m.HSync 1 40 && inR m.VSync 1 40 && inR m.HFront 0 40 && inR m.HBack 0 40 && inR m.VFront 0 40 && inR m.VBack 0 40
theorem s_ModeOk (m : ModeT) : spec_ModeOk m = some (modeOk m) := by
  simp only [spec_ModeOk, l01In_eq, bnd_s, andO_some, modeOk]
theorem i_ModeOk (m : ModeT) : impl_ModeOk m = some (modeOk m) := by
  simp only [impl_ModeOk, within_eq, isSide_eq, bnd_s, andO_some, modeOk]
def nameOk (s : ByteArray) : Bool := (List.range s.size).all fun k => inR (s[k]!).toNat 33 126
def monOk (m : MonitorT) : Bool := inR m.Name.size 1 8 && inR m.Modes.length 1 4 && inR m.Stretch 0 255 && nameOk m.Name && m.Modes.all modeOk
theorem u8_lt (x : UInt8) : x.toNat < 256 := x.toNat_lt
theorem s_MonitorOk (m : MonitorT) (hs : m.Name.size ≤ 1048576) (hl : m.Modes.length ≤ 1048576) : spec_MonitorOk m = some (monOk m) := by
  have h0 : loopO (fun k => spec_MonitorOk_L0 m k) 0 = some (if nameOk m.Name then .inl () else .inr false) := by
    refine allLoop m.Name.size (by omega) _ false (fun k hk ho => ?_) (fun k hk ho => ?_) ?_
    · simp [spec_MonitorOk_L0, sidx_lt hk, orO_some, hk, inR] at ho ⊢
      rw [ifO_neg]; simp; omega
    · simp [spec_MonitorOk_L0, sidx_lt hk, orO_some, hk, inR] at ho ⊢
      rw [ifO_pos]; simp; omega
    · simp [spec_MonitorOk_L0]
  have h1 : loopO (fun k => spec_MonitorOk_L1 m k) 0 = some (if m.Modes.all modeOk then .inl () else .inr false) := by
    refine allList m.Modes (by omega) _ false (fun k hk => ?_) ?_
    · simp only [spec_MonitorOk_L1, idx_lt hk, bnd_s, s_ModeOk]
      rw [ifO_pos (by simpa using hk)]
      cases modeOk m.Modes[k] <;> rfl
    · simp [spec_MonitorOk_L1]
  simp only [spec_MonitorOk, l01In_eq, bnd_s, orO_some, h0, h1, monOk]
  cases inR m.Name.size 1 8 <;> cases inR m.Modes.length 1 4 <;> cases inR m.Stretch 0 255 <;> cases nameOk m.Name <;> cases m.Modes.all modeOk <;> rfl
theorem i_MonitorOk (m : MonitorT) (hs : m.Name.size ≤ 1048576) (hl : m.Modes.length ≤ 1048576) : impl_MonitorOk m = some (monOk m) := by
  have h0 : loopO (fun k => impl_MonitorOk_L0 m k) 0 = some (if nameOk m.Name then .inl () else .inr false) := by
    refine allLoop m.Name.size (by omega) _ false (fun k hk ho => ?_) (fun k hk ho => ?_) ?_
    · have := u8_lt m.Name[k]!
      simp only [impl_MonitorOk_L0, sidx_lt hk, within_eq, bnd_s, wr_in (n := ((m.Name[k]!).toNat : Int)) (by omega) (by omega), ho]
      rw [ifO_pos (by simpa using hk)]; rfl
    · have := u8_lt m.Name[k]!
      simp only [impl_MonitorOk_L0, sidx_lt hk, within_eq, bnd_s, wr_in (n := ((m.Name[k]!).toNat : Int)) (by omega) (by omega), ho]
      rw [ifO_pos (by simpa using hk)]; rfl
    · simp [impl_MonitorOk_L0]
  have h1 : loopO (fun k => impl_MonitorOk_L1 m k) 0 = some (if m.Modes.all modeOk then .inl () else .inr false) := by
    refine allList m.Modes (by omega) _ false (fun k hk => ?_) ?_
    · simp only [impl_MonitorOk_L1, idx_lt hk, bnd_s, i_ModeOk]
      rw [ifO_pos (by simpa using hk)]
      cases modeOk m.Modes[k] <;> rfl
    · simp [impl_MonitorOk_L1]
  simp only [impl_MonitorOk, within_eq, bnd_s, orO_some, h0, h1, monOk]
  cases inR m.Name.size 1 8 <;> cases inR m.Modes.length 1 4 <;> cases inR m.Stretch 0 255 <;> cases nameOk m.Name <;> cases m.Modes.all modeOk <;> rfl
theorem smMonitor_two {m : MonitorT} (h : smMonitor m) : m.Name.size ≤ 1048576 ∧ m.Modes.length ≤ 1048576 := h
theorem FnExactMonitorOk_true (m : MonitorT) (o : okMonitor m) : laws_FnExactMonitorOk m = some true := by
  obtain ⟨v, hv, _, hb⟩ := szMonitor_ok m o 1048576 (by decide) (by decide)
  simp only [laws_FnExactMonitorOk, hv, bnd_s]
  by_cases hneg : v < 0
  · rw [ifO_pos (by simpa using hneg)]
  · have hs := hb (by omega)
    obtain ⟨b0, b1⟩ := smMonitor_two hs
    rw [ifO_neg (by simpa using hneg)]
    simp [toMonitor_eq m hs, s_MonitorOk m b0 b1, i_MonitorOk m b0 b1, eqMonitor_self m hs]
theorem ChooseMode_eq (m : MonitorT) (w h : Int) (hs : m.Name.size ≤ 1048576) (hl : m.Modes.length ≤ 1048576) : impl_ChooseMode m w h = spec_ChooseMode m w h := by
  have e : impl_ChooseMode_L0 = spec_ChooseMode_L0 := rfl
  simp only [impl_ChooseMode, spec_ChooseMode, s_MonitorOk m hs hl, i_MonitorOk m hs hl, e]
theorem chooseLoop (m : MonitorT) (w h : Int) (hl : m.Modes.length ≤ 1048576) : ∀ (j k : Nat) (best : ModeT), k + j = m.Modes.length → ∃ y, loopO (fun (best, k) => spec_ChooseMode_L0 m w h best k) (best, (k : Int)) = some y
  | 0, k, best, hk => by
    have : k = m.Modes.length := by omega
    subst this
    exact ⟨_, loopO_inr (r := .inl best) (by simp [spec_ChooseMode_L0])⟩
  | j + 1, k, best, hk => by
    have hlt : k < m.Modes.length := by omega
    have hstep : spec_ChooseMode_L0 m w h best (k : Int) = ifO (decide (m.Modes[k].W = w) && decide (m.Modes[k].H = h)) (some (.inr (.inr (m.Modes[k], true)))) (ifO (decide (wr (best.W * best.H) < wr (m.Modes[k].W * m.Modes[k].H))) (some (.inl (m.Modes[k], wr ((k : Int) + 1)))) (some (.inl (best, wr ((k : Int) + 1))))) := by
      simp only [spec_ChooseMode_L0, idx_lt hlt, bnd_s]
      rw [ifO_pos (by simpa using hlt)]
    cases h1 : (decide (m.Modes[k].W = w) && decide (m.Modes[k].H = h)) with
    | true => rw [h1, ifO_true] at hstep; exact ⟨_, loopO_inr hstep⟩
    | false =>
      rw [h1, ifO_false] at hstep
      cases h2 : decide (wr (best.W * best.H) < wr (m.Modes[k].W * m.Modes[k].H)) with
      | true =>
        rw [h2, ifO_true, wr_succ (by omega)] at hstep
        have e := @loopO_inl _ _ (fun (best, k) => spec_ChooseMode_L0 m w h best k) (best, (k : Int)) _ hstep
        rw [e]
        exact chooseLoop m w h hl j (k + 1) _ (by omega)
      | false =>
        rw [h2, ifO_false, wr_succ (by omega)] at hstep
        have e := @loopO_inl _ _ (fun (best, k) => spec_ChooseMode_L0 m w h best k) (best, (k : Int)) _ hstep
        rw [e]
        exact chooseLoop m w h hl j (k + 1) _ (by omega)
theorem ChooseMode_some (m : MonitorT) (w h : Int) (hs : m.Name.size ≤ 1048576) (hl : m.Modes.length ≤ 1048576) : ∃ r, spec_ChooseMode m w h = some r := by
  simp only [spec_ChooseMode, s_MonitorOk m hs hl, bnd_s]
  cases hm : monOk m with
  | false => exact ⟨_, rfl⟩
  | true =>
    have hpos : 0 < m.Modes.length := by
      unfold monOk at hm
      simp only [Bool.and_eq_true, inR_t] at hm
      omega
    have h0 : idx m.Modes 0 = some m.Modes[0] := idx_lt (k := 0) hpos
    obtain ⟨y, hy⟩ := chooseLoop m w h hl m.Modes.length 0 m.Modes[0] (by omega)
    have hy' : loopO (fun (best, k) => spec_ChooseMode_L0 m w h best k) (m.Modes[0], 0) = some y := hy
    simp only [Bool.not_true, ifO_false, h0, bnd_s, hy']
    cases y <;> exact ⟨_, rfl⟩
theorem FnExactChooseMode_true (m : MonitorT) (w h : Int) (o : okMonitor m) (_ : I64 w) (_ : I64 h) : laws_FnExactChooseMode m w h = some true := by
  obtain ⟨v, hv, _, hb⟩ := szMonitor_ok m o 1048576 (by decide) (by decide)
  simp only [laws_FnExactChooseMode, hv, bnd_s]
  by_cases hneg : v < 0
  · rw [ifO_pos (by simpa using hneg)]
  · have hs := hb (by omega)
    obtain ⟨b0, b1⟩ := smMonitor_two hs
    obtain ⟨⟨x, b⟩, hr⟩ := ChooseMode_some m w h b0 b1
    rw [ifO_neg (by simpa using hneg)]
    simp [toMonitor_eq m hs, ChooseMode_eq m w h b0 b1, hr, eqMode_self, eqMonitor_self m hs]
end Go.Proofs.Ytfgkgkkcaclfpaa
