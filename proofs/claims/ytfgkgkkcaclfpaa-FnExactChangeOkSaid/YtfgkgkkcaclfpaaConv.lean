/- What the laws do with their data: its size, its copy, its equal. -/
import Derived.Test.YtfgkgkkcaclfpaaDefs
import Derived.Test.YtfgkgkkcaclfpaaLib
namespace Go.Proofs.Ytfgkgkkcaclfpaa
open Go.RowKit K
set_option maxRecDepth 100000
set_option maxHeartbeats 4000000

def smModeS (xs : List ModeT) : Prop := xs.length ≤ 1048576
theorem szModeS_ok (xs : List ModeT) (o : (xs.length ≤ 9223372036854775807 ∧ ∀ y ∈ xs, okMode y)) : Sz laws_szModeS smModeS xs := fun left h0 h1 => Sz.len h0 h1 o.1
def smMonitor (x : MonitorT) : Prop := x.Name.size ≤ 1048576 ∧ smModeS x.Modes
theorem szMonitor_ok (x : MonitorT) (o : okMonitor x) : Sz laws_szMonitor smMonitor x := fun left h0 h1 => by
  simp only [laws_szMonitor]
  rw [wr_left h0 h1 o.1]
  by_cases n0 : left - (x.Name.size : Int) < 0
  · exact ⟨-1, by rw [ifO_pos (by simpa using n0)], by omega, by omega⟩
  rw [ifO_neg (by simpa using n0)]
  obtain ⟨v1, e1, l1, s1⟩ := szModeS_ok x.Modes o.2.1 (left - (x.Name.size : Int)) (by omega) (by omega)
  simp only [e1, bnd_s]
  by_cases n1 : v1 < 0
  · exact ⟨-1, by rw [ifO_pos (by simpa using n1)], by omega, by omega⟩
  rw [ifO_neg (by simpa using n1)]
  exact ⟨v1, rfl, by omega, fun _ => ⟨(by omega), s1 (by omega)⟩⟩
theorem toMode_eq (x : ModeT) : laws_toMode x = some x := rfl
theorem toModeS_eq (xs : List ModeT) (h : smModeS xs) : laws_toModeS xs = some xs := by
  have hl : xs.length ≤ 1048576 := h
  have := fillLoop (L := fun (out, i) => laws_toModeS_L0 xs out i) xs id (ModeT.mk 0 0 0 0 0 0 0 0 0) (by omega) (fun k hk out ho => by
    simp only [laws_toModeS_L0, idx_lt hk, bnd_s, toMode_eq, upd_lt (ho ▸ hk)]
    rw [ifO_pos (by simpa using hk)]; rfl) (fun out => by simp [laws_toModeS_L0])
  simp only [laws_toModeS, mkO_nat (show xs.length ≤ 1073741824 by omega), bnd_s, this, List.map_id]
theorem toMonitor_eq (x : MonitorT) (h : smMonitor x) : laws_toMonitor x = some x := by
  simp only [laws_toMonitor, toModeS_eq x.Modes h.2, bnd_s]
theorem eqMode_self (x : ModeT) : laws_eqMode x x = some true := by simp [laws_eqMode]
theorem eqModeS_self (xs : List ModeT) (h : smModeS xs) : laws_eqModeS xs xs = some true := by
  have hl : xs.length ≤ 1048576 := h
  have := eqLoop (L := fun i => laws_eqModeS_L0 xs xs i) xs (by omega) (fun k hk => by
    simp only [laws_eqModeS_L0, idx_lt hk, bnd_s, eqMode_self, decide_true, beq_self_eq_true, Bool.not_true, ifO_false]
    rw [ifO_pos (by simpa using hk)]) (by simp [laws_eqModeS_L0])
  simp [laws_eqModeS, this, fork]
theorem eqMonitor_self (x : MonitorT) (h : smMonitor x) : laws_eqMonitor x x = some true := by simp [laws_eqMonitor, eqModeS_self x.Modes h.2]
def smIntS (xs : List Int) : Prop := xs.length ≤ 1048576
theorem szIntS_ok (xs : List Int) (o : (xs.length ≤ 9223372036854775807 ∧ ∀ y ∈ xs, I64 y)) : Sz laws_szIntS smIntS xs := fun left h0 h1 => Sz.len h0 h1 o.1
def smImage (x : ImageT) : Prop := smIntS x.Data
theorem szImage_ok (x : ImageT) (o : okImage x) : Sz laws_szImage smImage x := fun left h0 h1 => by
  simp only [laws_szImage]
  obtain ⟨v0, e0, l0, s0⟩ := szIntS_ok x.Data o.2.2 left h0 h1
  simp only [e0, bnd_s]
  by_cases n0 : v0 < 0
  · exact ⟨-1, by rw [ifO_pos (by simpa using n0)], by omega, by omega⟩
  rw [ifO_neg (by simpa using n0)]
  exact ⟨v0, rfl, by omega, fun _ => s0 (by omega)⟩
def smSurface (x : SurfaceT) : Prop := smImage x.Buffer
theorem szSurface_ok (x : SurfaceT) (o : okSurface x) : Sz laws_szSurface smSurface x := fun left h0 h1 => by
  simp only [laws_szSurface]
  obtain ⟨v0, e0, l0, s0⟩ := szImage_ok x.Buffer o.2.2.2.2.2.2.2.2 left h0 h1
  simp only [e0, bnd_s]
  by_cases n0 : v0 < 0
  · exact ⟨-1, by rw [ifO_pos (by simpa using n0)], by omega, by omega⟩
  rw [ifO_neg (by simpa using n0)]
  exact ⟨v0, rfl, by omega, fun _ => s0 (by omega)⟩
theorem toIntS_eq (xs : List Int) (h : smIntS xs) : laws_toIntS xs = some xs := by
  have hl : xs.length ≤ 1048576 := h
  have := fillLoop (L := fun (out, i) => laws_toIntS_L0 xs out i) xs id 0 (by omega) (fun k hk out ho => by
    simp only [laws_toIntS_L0, idx_lt hk, bnd_s, upd_lt (ho ▸ hk)]
    rw [ifO_pos (by simpa using hk)]; rfl) (fun out => by simp [laws_toIntS_L0])
  simp only [laws_toIntS, mkO_nat (show xs.length ≤ 1073741824 by omega), bnd_s, this, List.map_id]
theorem toImage_eq (x : ImageT) (h : smImage x) : laws_toImage x = some x := by
  simp only [laws_toImage, toIntS_eq x.Data h, bnd_s]
theorem toSurface_eq (x : SurfaceT) (h : smSurface x) : laws_toSurface x = some x := by
  simp only [laws_toSurface, toImage_eq x.Buffer h, bnd_s]
theorem eqIntS_self (xs : List Int) (h : smIntS xs) : laws_eqIntS xs xs = some true := by
  have hl : xs.length ≤ 1048576 := h
  have := eqLoop (L := fun i => laws_eqIntS_L0 xs xs i) xs (by omega) (fun k hk => by
    simp only [laws_eqIntS_L0, idx_lt hk, bnd_s, decide_true, beq_self_eq_true, Bool.not_true, ifO_false]
    rw [ifO_pos (by simpa using hk)]) (by simp [laws_eqIntS_L0])
  simp [laws_eqIntS, this, fork]
theorem eqImage_self (x : ImageT) (h : smImage x) : laws_eqImage x x = some true := by simp [laws_eqImage, eqIntS_self x.Data h]
theorem eqSurface_self (x : SurfaceT) (h : smSurface x) : laws_eqSurface x x = some true := by simp [laws_eqSurface, eqImage_self x.Buffer h]
def smPlane (x : PlaneT) : Prop := smIntS x.Words
theorem szPlane_ok (x : PlaneT) (o : okPlane x) : Sz laws_szPlane smPlane x := fun left h0 h1 => by
  simp only [laws_szPlane]
  obtain ⟨v0, e0, l0, s0⟩ := szIntS_ok x.Words o.2.2.2.2.2.2.1 left h0 h1
  simp only [e0, bnd_s]
  by_cases n0 : v0 < 0
  · exact ⟨-1, by rw [ifO_pos (by simpa using n0)], by omega, by omega⟩
  rw [ifO_neg (by simpa using n0)]
  exact ⟨v0, rfl, by omega, fun _ => s0 (by omega)⟩
def smColorMap (x : ColorMapT) : Prop := smIntS x.Matrix ∧ smIntS x.Curve
theorem szColorMap_ok (x : ColorMapT) (o : okColorMap x) : Sz laws_szColorMap smColorMap x := fun left h0 h1 => by
  simp only [laws_szColorMap]
  obtain ⟨v0, e0, l0, s0⟩ := szIntS_ok x.Matrix o.1 left h0 h1
  simp only [e0, bnd_s]
  by_cases n0 : v0 < 0
  · exact ⟨-1, by rw [ifO_pos (by simpa using n0)], by omega, by omega⟩
  rw [ifO_neg (by simpa using n0)]
  obtain ⟨v1, e1, l1, s1⟩ := szIntS_ok x.Curve o.2 v0 (by omega) (by omega)
  simp only [e1, bnd_s]
  by_cases n1 : v1 < 0
  · exact ⟨-1, by rw [ifO_pos (by simpa using n1)], by omega, by omega⟩
  rw [ifO_neg (by simpa using n1)]
  exact ⟨v1, rfl, by omega, fun _ => ⟨s0 (by omega), s1 (by omega)⟩⟩
def smChange (x : ChangeT) : Prop := smPlane x.Value ∧ smColorMap x.Color
theorem szChange_ok (x : ChangeT) (o : okChange x) : Sz laws_szChange smChange x := fun left h0 h1 => by
  simp only [laws_szChange]
  obtain ⟨v0, e0, l0, s0⟩ := szPlane_ok x.Value o.2.1 left h0 h1
  simp only [e0, bnd_s]
  by_cases n0 : v0 < 0
  · exact ⟨-1, by rw [ifO_pos (by simpa using n0)], by omega, by omega⟩
  rw [ifO_neg (by simpa using n0)]
  obtain ⟨v1, e1, l1, s1⟩ := szColorMap_ok x.Color o.2.2 v0 (by omega) (by omega)
  simp only [e1, bnd_s]
  by_cases n1 : v1 < 0
  · exact ⟨-1, by rw [ifO_pos (by simpa using n1)], by omega, by omega⟩
  rw [ifO_neg (by simpa using n1)]
  exact ⟨v1, rfl, by omega, fun _ => ⟨s0 (by omega), s1 (by omega)⟩⟩
theorem toPlane_eq (x : PlaneT) (h : smPlane x) : laws_toPlane x = some x := by
  simp only [laws_toPlane, toIntS_eq x.Words h, bnd_s]
theorem toColorMap_eq (x : ColorMapT) (h : smColorMap x) : laws_toColorMap x = some x := by
  simp only [laws_toColorMap, toIntS_eq x.Matrix h.1, toIntS_eq x.Curve h.2, bnd_s]
theorem toChange_eq (x : ChangeT) (h : smChange x) : laws_toChange x = some x := by
  simp only [laws_toChange, toPlane_eq x.Value h.1, toColorMap_eq x.Color h.2, bnd_s]
theorem eqPlane_self (x : PlaneT) (h : smPlane x) : laws_eqPlane x x = some true := by simp [laws_eqPlane, eqIntS_self x.Words h]
theorem eqColorMap_self (x : ColorMapT) (h : smColorMap x) : laws_eqColorMap x x = some true := by simp [laws_eqColorMap, eqIntS_self x.Matrix h.1, eqIntS_self x.Curve h.2]
theorem eqChange_self (x : ChangeT) (h : smChange x) : laws_eqChange x x = some true := by simp [laws_eqChange, eqPlane_self x.Value h.1, eqColorMap_self x.Color h.2]
def smPlaneS (xs : List PlaneT) : Prop := xs.length ≤ 1048576 ∧ ∀ x ∈ xs, smPlane x
theorem szPlaneS_ok (xs : List PlaneT) (o : (xs.length ≤ 9223372036854775807 ∧ ∀ y ∈ xs, okPlane y)) : Sz laws_szPlaneS smPlaneS xs := fun left h0 h1 => by
  simp only [laws_szPlaneS]
  rw [wr_left h0 h1 o.1]
  by_cases hn : left - (xs.length : Int) < 0
  · exact ⟨-1, by rw [ifO_pos (by simpa using hn)], by omega, by omega⟩
  rw [ifO_neg (by simpa using hn)]
  have hl := o.1
  obtain ⟨y, hy, hor⟩ := szLoop (L := fun (left, i) => laws_szPlaneS_L0 xs left i) xs laws_szPlane smPlane (by omega) (fun k hk left => by
    simp only [laws_szPlaneS_L0, idx_lt hk, bnd_s]
    rw [ifO_pos (by simpa using hk)]) (fun left => by simp [laws_szPlaneS_L0]) (fun x hx => szPlane_ok x (o.2 x hx)) (left - xs.length) (by omega) (by omega)
  rw [hy, bnd_s]
  rcases hor with ⟨v, rfl, hv0, hv1, hall⟩ | rfl
  · exact ⟨v, rfl, by omega, fun _ => ⟨by omega, hall⟩⟩
  · exact ⟨-1, rfl, by omega, by omega⟩
def smCrtc (x : CrtcT) : Prop := smPlaneS x.Planes ∧ smColorMap x.Color
theorem szCrtc_ok (x : CrtcT) (o : okCrtc x) : Sz laws_szCrtc smCrtc x := fun left h0 h1 => by
  simp only [laws_szCrtc]
  obtain ⟨v0, e0, l0, s0⟩ := szPlaneS_ok x.Planes o.2.2.1 left h0 h1
  simp only [e0, bnd_s]
  by_cases n0 : v0 < 0
  · exact ⟨-1, by rw [ifO_pos (by simpa using n0)], by omega, by omega⟩
  rw [ifO_neg (by simpa using n0)]
  obtain ⟨v1, e1, l1, s1⟩ := szColorMap_ok x.Color o.2.2.2 v0 (by omega) (by omega)
  simp only [e1, bnd_s]
  by_cases n1 : v1 < 0
  · exact ⟨-1, by rw [ifO_pos (by simpa using n1)], by omega, by omega⟩
  rw [ifO_neg (by simpa using n1)]
  exact ⟨v1, rfl, by omega, fun _ => ⟨s0 (by omega), s1 (by omega)⟩⟩
theorem toPlaneS_eq (xs : List PlaneT) (h : smPlaneS xs) : laws_toPlaneS xs = some xs := by
  have hl : xs.length ≤ 1048576 := h.1
  have := fillLoop (L := fun (out, i) => laws_toPlaneS_L0 xs out i) xs id (PlaneT.mk false 0 0 0 0 0 [] 0 0 0 0) (by omega) (fun k hk out ho => by
    simp only [laws_toPlaneS_L0, idx_lt hk, bnd_s, toPlane_eq _ (h.2 _ (List.getElem_mem hk)), upd_lt (ho ▸ hk)]
    rw [ifO_pos (by simpa using hk)]; rfl) (fun out => by simp [laws_toPlaneS_L0])
  simp only [laws_toPlaneS, mkO_nat (show xs.length ≤ 1073741824 by omega), bnd_s, this, List.map_id]
theorem toCrtc_eq (x : CrtcT) (h : smCrtc x) : laws_toCrtc x = some x := by
  simp only [laws_toCrtc, toPlaneS_eq x.Planes h.1, toColorMap_eq x.Color h.2, bnd_s]
theorem eqPlaneS_self (xs : List PlaneT) (h : smPlaneS xs) : laws_eqPlaneS xs xs = some true := by
  have hl : xs.length ≤ 1048576 := h.1
  have := eqLoop (L := fun i => laws_eqPlaneS_L0 xs xs i) xs (by omega) (fun k hk => by
    simp only [laws_eqPlaneS_L0, idx_lt hk, bnd_s, eqPlane_self _ (h.2 _ (List.getElem_mem hk)), decide_true, beq_self_eq_true, Bool.not_true, ifO_false]
    rw [ifO_pos (by simpa using hk)]) (by simp [laws_eqPlaneS_L0])
  simp [laws_eqPlaneS, this, fork]
theorem eqCrtc_self (x : CrtcT) (h : smCrtc x) : laws_eqCrtc x x = some true := by simp [laws_eqCrtc, eqPlaneS_self x.Planes h.1, eqColorMap_self x.Color h.2]
def smSurfaceS (xs : List SurfaceT) : Prop := xs.length ≤ 1048576 ∧ ∀ x ∈ xs, smSurface x
theorem szSurfaceS_ok (xs : List SurfaceT) (o : (xs.length ≤ 9223372036854775807 ∧ ∀ y ∈ xs, okSurface y)) : Sz laws_szSurfaceS smSurfaceS xs := fun left h0 h1 => by
  simp only [laws_szSurfaceS]
  rw [wr_left h0 h1 o.1]
  by_cases hn : left - (xs.length : Int) < 0
  · exact ⟨-1, by rw [ifO_pos (by simpa using hn)], by omega, by omega⟩
  rw [ifO_neg (by simpa using hn)]
  have hl := o.1
  obtain ⟨y, hy, hor⟩ := szLoop (L := fun (left, i) => laws_szSurfaceS_L0 xs left i) xs laws_szSurface smSurface (by omega) (fun k hk left => by
    simp only [laws_szSurfaceS_L0, idx_lt hk, bnd_s]
    rw [ifO_pos (by simpa using hk)]) (fun left => by simp [laws_szSurfaceS_L0]) (fun x hx => szSurface_ok x (o.2 x hx)) (left - xs.length) (by omega) (by omega)
  rw [hy, bnd_s]
  rcases hor with ⟨v, rfl, hv0, hv1, hall⟩ | rfl
  · exact ⟨v, rfl, by omega, fun _ => ⟨by omega, hall⟩⟩
  · exact ⟨-1, rfl, by omega, by omega⟩
def smScene (x : SceneT) : Prop := smSurfaceS x.Surfaces
theorem szScene_ok (x : SceneT) (o : okScene x) : Sz laws_szScene smScene x := fun left h0 h1 => by
  simp only [laws_szScene]
  obtain ⟨v0, e0, l0, s0⟩ := szSurfaceS_ok x.Surfaces o.2.2.2 left h0 h1
  simp only [e0, bnd_s]
  by_cases n0 : v0 < 0
  · exact ⟨-1, by rw [ifO_pos (by simpa using n0)], by omega, by omega⟩
  rw [ifO_neg (by simpa using n0)]
  exact ⟨v0, rfl, by omega, fun _ => s0 (by omega)⟩
theorem toSurfaceS_eq (xs : List SurfaceT) (h : smSurfaceS xs) : laws_toSurfaceS xs = some xs := by
  have hl : xs.length ≤ 1048576 := h.1
  have := fillLoop (L := fun (out, i) => laws_toSurfaceS_L0 xs out i) xs id (SurfaceT.mk 0 0 0 0 0 0 0 false (ImageT.mk 0 0 [])) (by omega) (fun k hk out ho => by
    simp only [laws_toSurfaceS_L0, idx_lt hk, bnd_s, toSurface_eq _ (h.2 _ (List.getElem_mem hk)), upd_lt (ho ▸ hk)]
    rw [ifO_pos (by simpa using hk)]; rfl) (fun out => by simp [laws_toSurfaceS_L0])
  simp only [laws_toSurfaceS, mkO_nat (show xs.length ≤ 1073741824 by omega), bnd_s, this, List.map_id]
theorem toScene_eq (x : SceneT) (h : smScene x) : laws_toScene x = some x := by
  simp only [laws_toScene, toSurfaceS_eq x.Surfaces h, bnd_s]
theorem eqSurfaceS_self (xs : List SurfaceT) (h : smSurfaceS xs) : laws_eqSurfaceS xs xs = some true := by
  have hl : xs.length ≤ 1048576 := h.1
  have := eqLoop (L := fun i => laws_eqSurfaceS_L0 xs xs i) xs (by omega) (fun k hk => by
    simp only [laws_eqSurfaceS_L0, idx_lt hk, bnd_s, eqSurface_self _ (h.2 _ (List.getElem_mem hk)), decide_true, beq_self_eq_true, Bool.not_true, ifO_false]
    rw [ifO_pos (by simpa using hk)]) (by simp [laws_eqSurfaceS_L0])
  simp [laws_eqSurfaceS, this, fork]
theorem eqScene_self (x : SceneT) (h : smScene x) : laws_eqScene x x = some true := by simp [laws_eqScene, eqSurfaceS_self x.Surfaces h]
end Go.Proofs.Ytfgkgkkcaclfpaa
