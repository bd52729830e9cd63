/- What the laws do with their data: its size, its copy, its equal. -/
import Derived.Test.YtmbohhfhhdopiaaDefs
import Derived.Test.YtmbohhfhhdopiaaLib
namespace Go.Proofs.Ytmbohhfhhdopiaa
open Go.RowKit K
set_option maxRecDepth 100000
set_option maxHeartbeats 4000000

def smModeS (xs : List ModeT) : Prop := xs.length ≤ 1048576
theorem szModeS_ok (xs : List ModeT) (o : (xs.length ≤ 9223372036854775807 ∧ ∀ y ∈ xs, okMode y)) : Sz laws_szModeS smModeS xs := fun left h0 h1 => Sz.len h0 h1 o.1
def smMonitor (x : MonitorT) : Prop := x.Name.size ≤ 1048576 ∧ smModeS x.Modes
theorem szMonitor_ok (x : MonitorT) (o : okMonitor x) : Sz laws_szMonitor smMonitor x := fun left h0 h1 => by
  simp only [laws_szMonitor]
  rw [wr_left h0 h1 o.1]
  by_cases n0 : left - (x.Name.size : Int) < 0
  · exact ⟨-1, by rw [ifO_pos (by simpa using n0)], by omega, by omega⟩
  rw [ifO_neg (by simpa using n0)]
  obtain ⟨v1, e1, l1, s1⟩ := szModeS_ok x.Modes o.2.1 (left - (x.Name.size : Int)) (by omega) (by omega)
  simp only [e1, bnd_s]
  by_cases n1 : v1 < 0
  · exact ⟨-1, by rw [ifO_pos (by simpa using n1)], by omega, by omega⟩
  rw [ifO_neg (by simpa using n1)]
  exact ⟨v1, rfl, by omega, fun _ => ⟨(by omega), s1 (by omega)⟩⟩
theorem toMode_eq (x : ModeT) : laws_toMode x = some x := rfl
theorem toModeS_eq (xs : List ModeT) (h : smModeS xs) : laws_toModeS xs = some xs := by
  have hl : xs.length ≤ 1048576 := h
  have := fillLoop (L := fun (out, i) => laws_toModeS_L0 xs out i) xs id (ModeT.mk 0 0 0 0 0 0 0 0 0) (by omega) (fun k hk out ho => by
    simp only [laws_toModeS_L0, idx_lt hk, bnd_s, toMode_eq, upd_lt (ho ▸ hk)]
    rw [ifO_pos (by simpa using hk)]; rfl) (fun out => by simp [laws_toModeS_L0])
  simp only [laws_toModeS, mkO_nat (show xs.length ≤ 1073741824 by omega), bnd_s, this, List.map_id]
theorem toMonitor_eq (x : MonitorT) (h : smMonitor x) : laws_toMonitor x = some x := by
  simp only [laws_toMonitor, toModeS_eq x.Modes h.2, bnd_s]
theorem eqMode_self (x : ModeT) : laws_eqMode x x = some true := by simp [laws_eqMode]
theorem eqModeS_self (xs : List ModeT) (h : smModeS xs) : laws_eqModeS xs xs = some true := by
  have hl : xs.length ≤ 1048576 := h
  have := eqLoop (L := fun i => laws_eqModeS_L0 xs xs i) xs (by omega) (fun k hk => by
    simp only [laws_eqModeS_L0, idx_lt hk, bnd_s, eqMode_self, decide_true, beq_self_eq_true, Bool.not_true, ifO_false]
    rw [ifO_pos (by simpa using hk)]) (by simp [laws_eqModeS_L0])
  simp [laws_eqModeS, this, fork]
theorem eqMonitor_self (x : MonitorT) (h : smMonitor x) : laws_eqMonitor x x = some true := by simp [laws_eqMonitor, eqModeS_self x.Modes h.2]
def cMode (x : ModeT) : Nat := 9
def nModeS (xs : List ModeT) : Nat := (xs.map cMode).sum
theorem nModeS_le {xs : List ModeT} (h : smModeS xs) : nModeS xs ≤ 9437184 := sum_le' (b := 9) h fun x _ => Nat.le_refl _
theorem mhModeS (xs : List ModeT) (h : smModeS xs) (k : Int) (h0 : 0 ≤ k) (h1 : k + (nModeS xs : Nat) ≤ 4611686018427387904) : ∃ ys, laws_markModeS xs k = some (k + (nModeS xs : Nat), ys) ∧ laws_heldModeS ys k = some (k + (nModeS xs : Nat)) := by
  have hl : xs.length ≤ 1048576 := h
  obtain ⟨ys, hy, e1, e2⟩ := mhLoop (M := fun (a, k, i) => laws_markModeS_L0 a k i) (H := fun zs (k, i) => laws_heldModeS_L0 zs k i) cMode xs (by omega) (fun i ys k hi hx he h0 hb => by
    
    generalize hxx : xs[i] = x at *
    unfold cMode at hb


    have ec : (((((((((k + 1) + 1) + 1) + 1) + 1) + 1) + 1) + 1) + 1) = k + (cMode x : Nat) := by unfold cMode; omega
    refine ⟨(ModeT.mk k (k + 1) ((k + 1) + 1) (((k + 1) + 1) + 1) ((((k + 1) + 1) + 1) + 1) (((((k + 1) + 1) + 1) + 1) + 1) ((((((k + 1) + 1) + 1) + 1) + 1) + 1) (((((((k + 1) + 1) + 1) + 1) + 1) + 1) + 1) ((((((((k + 1) + 1) + 1) + 1) + 1) + 1) + 1) + 1)), ?_, fun zs hz => ?_⟩
    · show laws_markModeS_L0 ys k i = _
      simp (disch := omega) only [laws_markModeS_L0, idx_lt hi, idx_set hi, upd_lt hi, upd_set hi, bnd_s, he, wr_in]
      rw [ifO_pos (by simpa using hi), ← ec]
    · have hzl := (List.getElem?_eq_some_iff.1 hz).1
      show laws_heldModeS_L0 zs k i = _
      simp (disch := omega) only [laws_heldModeS_L0, idx_at hz, bnd_s, wr_in, decide_true, beq_self_eq_true, Bool.not_true, ifO_false]
      rw [ifO_pos (by simpa using hzl), ← ec])
    (fun ys k hy => by simp [laws_markModeS_L0, hy]) (fun zs k hz => by simp [laws_heldModeS_L0, hz]) k h0 h1
  exact ⟨ys, by rw [laws_markModeS, e1]; rfl, by rw [laws_heldModeS, e2]; rfl⟩
theorem mkModeS (xs : List ModeT) (h : smModeS xs) (k : Int) (h0 : 0 ≤ k) (h1 : k + (nModeS xs : Nat) ≤ 4611686018427387904) : ∃ y0, laws_markModeS xs k = some (k + (nModeS xs : Nat), y0) := let ⟨y0, a, _⟩ := mhModeS xs h k h0 h1; ⟨y0, a⟩
def mMonitor (x : MonitorT) : Nat := nModeS x.Modes
theorem mhMonitor (x : MonitorT) (h : smMonitor x) (k : Int) (h0 : 0 ≤ k) (h1 : k + (mMonitor x : Nat) ≤ 4611686018427387904) : ∃ y0, laws_markMonitor x k = some (k + (mMonitor x : Nat), y0) ∧ laws_heldMonitor (MonitorT.mk x.Name y0 x.Stretch) k = some (k + (mMonitor x : Nat)) := by
  unfold mMonitor at h1
  obtain ⟨y0, a0, d0⟩ := mhModeS x.Modes (h.2) k (by omega) (by omega)
  have ng0 : decide ((k + (nModeS x.Modes : Nat)) < 0) = false := by simp; omega
  have ec : (k + (nModeS x.Modes : Nat)) = k + (mMonitor x : Nat) := by unfold mMonitor; omega
  exact ⟨y0, by simp only [laws_markMonitor, a0, bnd_s, ← ec], by simp only [laws_heldMonitor, d0, bnd_s, ng0, ifO_false, ← ec]⟩
theorem mkMonitor (x : MonitorT) (h : smMonitor x) (k : Int) (h0 : 0 ≤ k) (h1 : k + (mMonitor x : Nat) ≤ 4611686018427387904) : ∃ y0, laws_markMonitor x k = some (k + (mMonitor x : Nat), y0) := let ⟨y0, a, _⟩ := mhMonitor x h k h0 h1; ⟨y0, a⟩
end Go.Proofs.Ytmbohhfhhdopiaa
