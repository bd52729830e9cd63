/- Planes, colors, states, held against each other. -/
import Derived.Test.YtfgkgkkcaclfpaaPBase
namespace Go.Proofs.Ytfgkgkkcaclfpaa
open Go.RowKit K

def eqInts (xs ys : List Int) : Bool := decide (xs = ys)
theorem zip_all : ∀ (xs ys : List Int), xs.length = ys.length → (List.zipWith (fun x y => decide (x = y)) xs ys).all id = decide (xs = ys)
  | [], [], _ => rfl
  | x :: xs, y :: ys, h => by
    rw [List.zipWith_cons_cons, List.all_cons, zip_all xs ys (by simpa using h)]
    by_cases e : x = y <;> simp [e]
theorem s_Ints (xs ys : List Int) (h : xs.length ≤ 1048576) : spec_l05Ints xs ys = some (eqInts xs ys) := by
  by_cases hl : xs.length = ys.length
  · have := eqList (L := fun k => spec_l05Ints_L0 xs ys k) xs ys hl (by omega) (fun x y => decide (x = y)) (fun k hk hk' => by
      simp only [spec_l05Ints_L0, idx_lt hk, idx_lt hk', bnd_s]
      rw [ifO_pos (by simpa using hk)]
      cases decide (xs[k] = ys[k]) <;> rfl) (by simp [spec_l05Ints_L0])
    simp only [spec_l05Ints, this, zip_all xs ys hl, eqInts]
    rw [ifO_neg (by simp [hl]), bnd_s]
    cases decide (xs = ys) <;> rfl
  · have hne : ¬ xs = ys := fun e => hl (by rw [e])
    rw [spec_l05Ints, ifO_pos (by simp; omega), eqInts]; simp [hne]
theorem i_Ints (xs ys : List Int) (h : xs.length ≤ 1048576) : slices_Equal_S_int_int xs ys = some (eqInts xs ys) := by
  have e : slices_Equal_S_int_int xs ys = spec_l05Ints xs ys := rfl
  rw [e, s_Ints xs ys h]
def samePl (a b : PlaneT) : Bool := (a.On == b.On) && decide (a.X = b.X) && decide (a.Y = b.Y) && decide (a.W = b.W) && decide (a.H = b.H) && decide (a.Layout = b.Layout) && decide (a.Alpha = b.Alpha) && decide (a.Orient = b.Orient) && decide (a.ToW = b.ToW) && decide (a.ToH = b.ToH) && eqInts a.Words b.Words
theorem s_SamePlane (a b : PlaneT) (h : a.Words.length ≤ 1048576) : spec_l22SamePlane a b = some (samePl a b) := by
  simp only [spec_l22SamePlane, s_Ints _ _ h, bnd_s, andO_some, samePl]
theorem i_SamePlane (a b : PlaneT) (h : a.Words.length ≤ 1048576) : impl_samePlane a b = some (samePl a b) := by
  simp only [impl_samePlane, i_Ints _ _ h, bnd_s, andO_some, samePl]
def sameCol (a b : ColorMapT) : Bool := eqInts a.Matrix b.Matrix && eqInts a.Curve b.Curve
theorem s_SameColor (a b : ColorMapT) (h : smColorMap a) : spec_l22SameColor a b = some (sameCol a b) := by
  simp only [spec_l22SameColor, s_Ints _ _ h.1, s_Ints _ _ h.2, bnd_s, andO_some, sameCol]
theorem i_SameColor (a b : ColorMapT) (h : smColorMap a) : impl_sameColor a b = some (sameCol a b) := by
  simp only [impl_sameColor, i_Ints _ _ h.1, i_Ints _ _ h.2, bnd_s, andO_some, sameCol]
theorem ChangeOk_eq (x : ChangeT) (h : smChange x) : ∃ b, spec_ChangeOk x = some b ∧ impl_ChangeOk x = some b := by
  simp only [spec_ChangeOk, impl_ChangeOk, spec_l19Zero, l01In_eq, within_eq, bnd_s, i_SamePlane x.Value _ h.1]
  by_cases h1 : x.Plane = -1
  · rw [ifO_neg (c := !inR x.Plane (-1) 3) (by rw [h1]; rfl), ifO_pos (c := decide (x.Plane < 0)) (by rw [h1]; rfl), ifO_pos (c := decide (x.Plane = -1)) (by simp [h1])]
    refine ⟨_, rfl, ?_⟩
    unfold samePl eqInts
    have hw : decide (x.Value.Words = []) = decide ((x.Value.Words.length : Int) = 0) := decide_eq_decide.2 ⟨fun e => by rw [e]; rfl, fun e => List.eq_nil_of_length_eq_zero (by omega)⟩
    simp only [hw]
    cases x.Value.On <;> simp [Bool.and_assoc, Bool.and_comm]
  · rw [ifO_neg (c := decide (x.Plane = -1)) (by simp [h1])]
    refine ⟨_, ?_, rfl⟩
    by_cases h2 : inR x.Plane (-1) 3 = true
    · have h3 := inR_t.1 h2
      rw [ifO_neg (by rw [h2]; rfl), ifO_neg (c := decide (x.Plane < 0)) (by simp; omega)]
      have h4 : inR x.Plane 0 3 = true := inR_t.2 (by omega)
      rw [h4]; rfl
    · have h3 : inR x.Plane (-1) 3 = false := by simpa using h2
      have h4 : inR x.Plane 0 3 = false := inR_f.2 (fun hh => inR_f.1 h3 (by omega))
      rw [ifO_pos (by rw [h3]; rfl), h4]; rfl
theorem FnExactChangeOk_true (x : ChangeT) (o : okChange x) : laws_FnExactChangeOk x = some true := by
  obtain ⟨v, hv, _, hb⟩ := szChange_ok x o 1048576 (by decide) (by decide)
  simp only [laws_FnExactChangeOk, hv, bnd_s]
  by_cases hneg : v < 0
  · rw [ifO_pos (by simpa using hneg)]
  · have hs := hb (by omega)
    obtain ⟨b, h1, h2⟩ := ChangeOk_eq x hs
    rw [ifO_neg (by simpa using hneg)]
    simp [toChange_eq x hs, h1, h2, eqChange_self x hs]
def samePls (xs ys : List PlaneT) : Bool := (List.zipWith samePl xs ys).all id
theorem SameCrtc_eq (a b : CrtcT) (h : smCrtc a) : ∃ r, spec_SameCrtc a b = some r ∧ impl_SameCrtc a b = some r := by
  have hl : a.Planes.length ≤ 1048576 := h.1.1
  simp only [spec_SameCrtc, impl_SameCrtc, s_SameColor _ _ h.2, i_SameColor _ _ h.2, bnd_s, orO_some, slices_EqualFunc_S_impl_Plane_S_impl_Plane_impl_Plane_impl_Plane]
  by_cases he : a.Planes.length = b.Planes.length
  · have h1 := eqList (L := fun k => spec_SameCrtc_L0 a b k) a.Planes b.Planes he (by omega) samePl (fun k hk hk' => by
      simp only [spec_SameCrtc_L0, idx_lt hk, idx_lt hk', bnd_s, s_SamePlane _ _ (h.1.2 _ (List.getElem_mem hk))]
      rw [ifO_pos (by simpa using hk)]
      cases samePl a.Planes[k] b.Planes[k] <;> rfl) (by simp [spec_SameCrtc_L0])
    have h2 := eqList (L := fun k => slices_EqualFunc_S_impl_Plane_S_impl_Plane_impl_Plane_impl_Plane_L0 a.Planes b.Planes impl_samePlane k) a.Planes b.Planes he (by omega) samePl (fun k hk hk' => by
      simp only [slices_EqualFunc_S_impl_Plane_S_impl_Plane_impl_Plane_impl_Plane_L0, idx_lt hk, idx_lt hk', bnd_s, i_SamePlane _ _ (h.1.2 _ (List.getElem_mem hk))]
      rw [ifO_pos (by simpa using hk)]
      cases samePl a.Planes[k] b.Planes[k] <;> rfl) (by simp [slices_EqualFunc_S_impl_Plane_S_impl_Plane_impl_Plane_impl_Plane_L0])
    have e0 : decide ((a.Planes.length : Int) = (b.Planes.length : Int)) = true := by simp [he]
    rw [h1, h2, e0]
    refine ⟨decide (a.W = b.W) && decide (a.H = b.H) && sameCol a.Color b.Color && (List.zipWith samePl a.Planes b.Planes).all id, ?_, ?_⟩ <;>
    cases decide (a.W = b.W) <;> cases decide (a.H = b.H) <;> cases sameCol a.Color b.Color <;> cases (List.zipWith samePl a.Planes b.Planes).all id <;> rfl
  · have e0 : decide ((a.Planes.length : Int) = (b.Planes.length : Int)) = false := by simp; omega
    rw [e0]
    refine ⟨false, ?_, ?_⟩
    · rw [ifO_pos (by simp)]
    · cases decide (a.W = b.W) <;> cases decide (a.H = b.H) <;> rfl
theorem FnExactSameCrtc_true (a b : CrtcT) (oa : okCrtc a) (ob : okCrtc b) : laws_FnExactSameCrtc a b = some true := by
  obtain ⟨v, hv, hle, hb⟩ := szCrtc_ok a oa 1048576 (by decide) (by decide)
  simp only [laws_FnExactSameCrtc, hv, bnd_s]
  by_cases hneg : v < 0
  · rw [ifO_pos (by simpa using hneg)]
  · rw [ifO_neg (by simpa using hneg)]
    obtain ⟨u, hu, _, hc⟩ := szCrtc_ok b ob v (by omega) hle
    simp only [hu, bnd_s]
    by_cases hn2 : u < 0
    · rw [ifO_pos (by simpa using hn2)]
    · have hs := hb (by omega)
      have hs2 := hc (by omega)
      obtain ⟨r, h1, h2⟩ := SameCrtc_eq a b hs
      rw [ifO_neg (by simpa using hn2)]
      simp [toCrtc_eq a hs, toCrtc_eq b hs2, h1, h2, eqCrtc_self a hs, eqCrtc_self b hs2]
end Go.Proofs.Ytfgkgkkcaclfpaa
