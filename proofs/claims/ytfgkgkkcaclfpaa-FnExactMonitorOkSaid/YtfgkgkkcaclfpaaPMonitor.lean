/- Modes and monitors: what the program and the reference compute. -/
import Derived.Test.YtfgkgkkcaclfpaaDefs
import Derived.Test.YtfgkgkkcaclfpaaLib
namespace Go.Proofs.Ytfgkgkkcaclfpaa
open Go.RowKit K

def inR (x lo hi : Int) : Bool := decide (lo ≤ x) && decide (x ≤ hi)
theorem inR_t {x lo hi : Int} : inR x lo hi = true ↔ lo ≤ x ∧ x ≤ hi := by simp [inR]
theorem l01In_eq (x lo hi : Int) : spec_l01In x lo hi = some (inR x lo hi) := rfl
theorem within_eq (x lo hi : Int) : impl_within x lo hi = some (inR x lo hi) := rfl
theorem isSide_eq (x : Int) : impl_isSide x = some (inR x 1 16) := rfl
def modeOk (m : ModeT) : Bool := inR m.Clock 1 1000000 && inR m.W 1 16 && inR m.H 1 16 && inR m.HSync 1 40 && inR m.VSync 1 40 && inR m.HFront 0 40 && inR m.HBack 0 40 && inR m.VFront 0 40 && inR m.VBack 0 40
theorem s_ModeOk (m : ModeT) : spec_ModeOk m = some (modeOk m) := by
  simp only [spec_ModeOk, l01In_eq, bnd_s, andO_some, modeOk]
theorem i_ModeOk (m : ModeT) : impl_ModeOk m = some (modeOk m) := by
  simp only [impl_ModeOk, within_eq, isSide_eq, bnd_s, andO_some, modeOk]
def nameOk (s : ByteArray) : Bool := (List.range s.size).all fun k => inR (s[k]!).toNat 33 126
def monOk (m : MonitorT) : Bool := inR m.Name.size 1 8 && inR m.Modes.length 1 4 && inR m.Stretch 0 255 && nameOk m.Name && m.Modes.all modeOk
theorem u8_lt (x : UInt8) : x.toNat < 256 := x.toNat_lt
theorem s_MonitorOk (m : MonitorT) (hs : m.Name.size ≤ 1048576) (hl : m.Modes.length ≤ 1048576) : spec_MonitorOk m = some (monOk m) := by
  have h0 : loopO (fun k => spec_MonitorOk_L0 m k) 0 = some (if nameOk m.Name then .inl () else .inr false) := by
    refine allLoop m.Name.size (by omega) _ false (fun k hk ho => ?_) (fun k hk ho => ?_) ?_
    · simp [spec_MonitorOk_L0, sidx_lt hk, orO_some, hk, inR] at ho ⊢
      rw [ifO_neg]; simp; omega
    · simp [spec_MonitorOk_L0, sidx_lt hk, orO_some, hk, inR] at ho ⊢
      rw [ifO_pos]; simp; omega
    · simp [spec_MonitorOk_L0]
  have h1 : loopO (fun k => spec_MonitorOk_L1 m k) 0 = some (if m.Modes.all modeOk then .inl () else .inr false) := by
    refine allList m.Modes (by omega) _ false (fun k hk => ?_) ?_
    · simp only [spec_MonitorOk_L1, idx_lt hk, bnd_s, s_ModeOk]
      rw [ifO_pos (by simpa using hk)]
      cases modeOk m.Modes[k] <;> rfl
    · simp [spec_MonitorOk_L1]
  simp only [spec_MonitorOk, l01In_eq, bnd_s, orO_some, h0, h1, monOk]
  cases inR m.Name.size 1 8 <;> cases inR m.Modes.length 1 4 <;> cases inR m.Stretch 0 255 <;> cases nameOk m.Name <;> cases m.Modes.all modeOk <;> rfl
theorem i_MonitorOk (m : MonitorT) (hs : m.Name.size ≤ 1048576) (hl : m.Modes.length ≤ 1048576) : impl_MonitorOk m = some (monOk m) := by
  have h0 : loopO (fun k => impl_MonitorOk_L0 m k) 0 = some (if nameOk m.Name then .inl () else .inr false) := by
    refine allLoop m.Name.size (by omega) _ false (fun k hk ho => ?_) (fun k hk ho => ?_) ?_
    · have := u8_lt m.Name[k]!
      simp only [impl_MonitorOk_L0, sidx_lt hk, within_eq, bnd_s, wr_in (n := ((m.Name[k]!).toNat : Int)) (by omega) (by omega), ho]
      rw [ifO_pos (by simpa using hk)]; rfl
    · have := u8_lt m.Name[k]!
      simp only [impl_MonitorOk_L0, sidx_lt hk, within_eq, bnd_s, wr_in (n := ((m.Name[k]!).toNat : Int)) (by omega) (by omega), ho]
      rw [ifO_pos (by simpa using hk)]; rfl
    · simp [impl_MonitorOk_L0]
  have h1 : loopO (fun k => impl_MonitorOk_L1 m k) 0 = some (if m.Modes.all modeOk then .inl () else .inr false) := by
    refine allList m.Modes (by omega) _ false (fun k hk => ?_) ?_
    · simp only [impl_MonitorOk_L1, idx_lt hk, bnd_s, i_ModeOk]
      rw [ifO_pos (by simpa using hk)]
      cases modeOk m.Modes[k] <;> rfl
    · simp [impl_MonitorOk_L1]
  simp only [impl_MonitorOk, within_eq, bnd_s, orO_some, h0, h1, monOk]
  cases inR m.Name.size 1 8 <;> cases inR m.Modes.length 1 4 <;> cases inR m.Stretch 0 255 <;> cases nameOk m.Name <;> cases m.Modes.all modeOk <;> rfl
theorem toMode_eq (x : ModeT) : laws_toMode x = some x := rfl
theorem toModeS_eq (xs : List ModeT) (h : xs.length ≤ 1048576) : laws_toModeS xs = some xs := by
  have := fillLoop (L := fun (out, i) => laws_toModeS_L0 xs out i) xs id (ModeT.mk 0 0 0 0 0 0 0 0 0) (by omega) (fun k hk out ho => by
    simp only [laws_toModeS_L0, idx_lt hk, bnd_s, toMode_eq, upd_lt (ho ▸ hk)]
    rw [ifO_pos (by simpa using hk)]; rfl) (fun out => by simp [laws_toModeS_L0])
  simp only [laws_toModeS, mkO_nat (show xs.length ≤ 1073741824 by omega), bnd_s, this, List.map_id]
theorem toMonitor_eq (m : MonitorT) (h : m.Modes.length ≤ 1048576) : laws_toMonitor m = some m := by
  simp only [laws_toMonitor, toModeS_eq m.Modes h, bnd_s]
theorem eqMode_self (x : ModeT) : laws_eqMode x x = some true := by simp [laws_eqMode]
theorem eqModeS_self (xs : List ModeT) (h : xs.length ≤ 1048576) : laws_eqModeS xs xs = some true := by
  have := allList (L := fun i => laws_eqModeS_L0 xs xs i) xs (by omega) (fun _ => true) false (fun k hk => by
    simp only [laws_eqModeS_L0, idx_lt hk, bnd_s, eqMode_self]
    rw [ifO_pos (by simpa using hk)]; rfl) (by simp [laws_eqModeS_L0])
  simp [laws_eqModeS, this, fork]
theorem eqMonitor_self (m : MonitorT) (h : m.Modes.length ≤ 1048576) : laws_eqMonitor m m = some true := by
  simp [laws_eqMonitor, eqModeS_self m.Modes h]
/-- What is within the law's bound. -/
theorem szMonitor_ok (m : MonitorT) (h0 : m.Name.size ≤ 9223372036854775807) (h1 : m.Modes.length ≤ 9223372036854775807) : ∃ v, laws_szMonitor m 1048576 = some v ∧ (0 ≤ v → m.Name.size ≤ 1048576 ∧ m.Modes.length ≤ 1048576) := by
  simp only [laws_szMonitor, laws_szModeS]
  rw [wr_in (n := 1048576 - (m.Name.size : Int)) (by omega) (by omega)]
  by_cases hn : (1048576 - (m.Name.size : Int)) < 0
  · exact ⟨-1, by rw [ifO_pos (by simpa using hn)], by omega⟩
  · rw [ifO_neg (by simpa using hn), wr_in (n := 1048576 - (m.Name.size : Int) - (m.Modes.length : Int)) (by omega) (by omega)]
    by_cases hm : (1048576 - (m.Name.size : Int) - (m.Modes.length : Int)) < 0
    · exact ⟨-1, by rw [ifO_pos (c := decide (1048576 - (m.Name.size : Int) - (m.Modes.length : Int) < 0)) (by simpa using hm)]; rfl, by omega⟩
    · exact ⟨_, by rw [ifO_neg (c := decide (1048576 - (m.Name.size : Int) - (m.Modes.length : Int) < 0)) (by simpa using hm), bnd_s, ifO_neg (by simpa using hm)], by omega⟩
theorem FnExactMonitorOk_true (m : MonitorT) (o : okMonitor m) : laws_FnExactMonitorOk m = some true := by
  obtain ⟨h0, ⟨h1, _⟩, _⟩ := o
  obtain ⟨v, hv, hb⟩ := szMonitor_ok m h0 h1
  simp only [laws_FnExactMonitorOk, hv, bnd_s]
  by_cases hneg : v < 0
  · rw [ifO_pos (by simpa using hneg)]
  · obtain ⟨b0, b1⟩ := hb (by omega)
    rw [ifO_neg (by simpa using hneg)]
    simp [toMonitor_eq m b1, s_MonitorOk m b0 b1, i_MonitorOk m b0 b1, eqMonitor_self m b1]
end Go.Proofs.Ytfgkgkkcaclfpaa
