/- A plane that is not shown changes nothing, and an opaque cursor is above everything. -/
import Derived.Test.YtbdpbboonilhhaaPLay
import Derived.Test.YtbdpbboonilhhaaPChan
import Derived.Test.YtbdpbboonilhhaaPPlaneOf
import Derived.Test.YtbdpbboonilhhaaPAt
namespace Go.Proofs.Ytbdpbboonilhhaa
open Go.RowKit K
theorem lay_off {W : Nat} {p : PlaneT} (h : p.On = false) (out : List Int) : lay W p out = out := by
  have e : spec_PlaneImage p = some (ImageT.mk 0 0 [], false) := by
    simp only [spec_PlaneImage, spec_l19Loaded, h, Bool.not_false, ifO_true, bnd_s, orO_some]
    rfl
  unfold lay; rw [e]
theorem divmod {k x y W : Nat} (hx : x < W) : k = y * W + x ↔ k % W = x ∧ k / W = y := by
  constructor
  · rintro rfl; exact cell_of W hx
  · rintro ⟨rfl, rfl⟩
    have := Nat.div_add_mod k W
    rw [Nat.mul_comm] at this
    exact this.symm
theorem FnPlaneOrder_true (code : List Int) (o : code.length ≤ 9223372036854775807 ∧ ∀ y ∈ code, 0 ≤ y ∧ y ≤ 255) : laws_FnPlaneOrder code = some true := by
  unfold laws_FnPlaneOrder laws_big
  rw [bnd_s]
  by_cases hbig' : 1048576 < code.length
  · rw [ifO_pos (by simp; omega)]
  have hbig : code.length ≤ 1048576 := by omega
  rw [ifO_neg (by simp; omega)]
  obtain ⟨l, w, h, hd, hw, hh, hok, hs⟩ := DrawPlanes_ok code hbig
  obtain ⟨P0, P1, P2, P3, rfl, c0, c1, c2, c3, cz⟩ := planesOk_parts hs hok
  obtain ⟨a0, e0, a00, a01⟩ := at_ok code hbig o.2 0 (by omega) (by omega)
  obtain ⟨a1, e1, a10, a11⟩ := at_ok code hbig o.2 1 (by omega) (by omega)
  obtain ⟨a2, e2, a20, a21⟩ := at_ok code hbig o.2 2 (by omega) (by omega)
  obtain ⟨a3, e3, a30, a31⟩ := at_ok code hbig o.2 3 (by omega) (by omega)
  have hw' := inR_t.1 hw
  have hh' := inR_t.1 hh
  have x0 := Int.emod_nonneg a0 (show w ≠ 0 by omega)
  have x1 := Int.emod_lt_of_pos a0 (show 0 < w by omega)
  have y0 := Int.emod_nonneg a1 (show h ≠ 0 by omega)
  have y1 := Int.emod_lt_of_pos a1 (show 0 < h by omega)
  have ex : remO a0 w = some (a0 % w) := by rw [remO_of (by omega), Int.tmod_eq_emod_of_nonneg a00]
  have ey : remO a1 h = some (a1 % h) := by rw [remO_of (by omega), Int.tmod_eq_emod_of_nonneg a10]
  have ez : Int.tmod a3 3 = a3 % 3 := Int.tmod_eq_emod_of_nonneg a30
  have ep : wr (4278190080 + wr (a2 * 257)) = 4278190080 + a2 * 257 := by rw [wr_in (n := a2 * 257) (by omega) (by omega), wr_in (by omega) (by omega)]
  rw [hd, bnd_s]
  simp only []
  rw [e0, bnd_s, ex, bnd_s, e1, bnd_s, ey, bnd_s, e2, bnd_s, e3, ep]
  simp only [bnd_s, ez]
  generalize hp : 4278190080 + a2 * 257 = p
  have hq : opq p = true := opq_ge (by omega) (by omega)
  have hpp : pixOk p = true := inR_t.2 (by omega)
  obtain ⟨m, n1, _, n3, n4⟩ := s_NewImage 1 1 p
  obtain ⟨m1, m2, m3⟩ := n3 rfl rfl hpp
  have hlay : inR (a3 % 3) 0 2 = true := inR_t.2 (by omega)
  generalize a3 % 3 = ly at *
  generalize hx : a0 % w = x at *
  generalize hy : a1 % h = y at *
  obtain ⟨ws, f1, f2, f3⟩ := PlaneOf_ok (x := x) (y := y) (lay := ly) m1 hlay
  have f1' : impl_PlaneOf m x y ly = some (PlaneT.mk true x y m.W m.H ly ws 255 0 0 0) := by
    obtain ⟨q, g1, g2, _⟩ := PlaneOf_eq m x y ly (by have := imgOk_le m1; omega)
    rw [f1] at g1
    rw [g2, ← Option.some.inj g1]
  obtain ⟨j, s1, s2⟩ := show_ok (p := PlaneT.mk true x y m.W m.H ly ws 255 0 0 0) rfl m1 f3 rfl rfl (.inl ⟨rfl, rfl⟩)
  have hj := s2 rfl rfl rfl rfl
  subst hj
  have cx : inR x (-32) 32 = true := inR_t.2 (by omega)
  have cy : inR y (-32) 32 = true := inR_t.2 (by omega)
  have cc : spec_PlaneOk 3 (PlaneT.mk true x y j.W j.H ly ws 255 0 0 0) w h = some true := ok_cursor hw hh rfl s1 cx cy rfl rfl rfl rfl (by show j.W ≤ 4; omega) (by show j.H ≤ 4; omega)
  have sm0 : ∀ q ∈ [P0, P1, P2, P3], q.Words.length ≤ 1048576 := hs.2
  generalize hC : PlaneT.mk true x y j.W j.H ly ws 255 0 0 0 = C at *
  have hCw : C.Words.length ≤ 1048576 := by rw [← hC]; show ws.length ≤ 1048576; omega
  have hCX : C.X = x := by rw [← hC]
  have hCY : C.Y = y := by rw [← hC]
  have b3 : subO [P0, P1, P2, P3] 0 3 = some [P0, P1, P2] := rfl
  have b4 : app ([] : List PlaneT) [P0, P1, P2] = some [P0, P1, P2] := app_le (by simp)
  have b5 : ∀ Q : PlaneT, app [P0, P1, P2] [Q] = some [P0, P1, P2, Q] := fun Q => app_le (by simp)
  rw [n1, bnd_s, f1', bnd_s]
  simp only [b3, b4, b5, bnd_s]
  have kw : spec_PlanesOk [P0, P1, P2, C] w h = some true := planesOk_mk c0 c1 c2 cc cz
  have ko : spec_PlanesOk [P0, P1, P2, zeroP] w h = some true := planesOk_mk c0 c1 c2 (ok_zero (by omega) hw hh) cz
  have sw : smPlaneS [P0, P1, P2, C] := ⟨by simp, fun q hq => by
    simp only [List.mem_cons, List.not_mem_nil, or_false] at hq
    rcases hq with rfl | rfl | rfl | rfl
    · exact sm0 _ (by simp)
    · exact sm0 _ (by simp)
    · exact sm0 _ (by simp)
    · exact hCw⟩
  have so : smPlaneS [P0, P1, P2, zeroP] := ⟨by simp, fun q hq => by
    simp only [List.mem_cons, List.not_mem_nil, or_false] at hq
    rcases hq with rfl | rfl | rfl | rfl
    · exact sm0 _ (by simp)
    · exact sm0 _ (by simp)
    · exact sm0 _ (by simp)
    · exact Nat.zero_le _⟩
  obtain ⟨gw, iw⟩ := goodOf sw kw
  obtain ⟨go, io⟩ := goodOf so ko
  obtain ⟨W, H, i, rfl, rfl, ⟨w1, w2⟩, ⟨h1, h2⟩, p1, p2, p3, _, p5, p6⟩ := scanned_lay P0 P1 P2 C w h sw gw
  obtain ⟨W', H', i', hW', hH', _, _, q1, q2, q3, _, q5, q6⟩ := scanned_lay P0 P1 P2 zeroP W H so go
  obtain rfl : W = W' := by omega
  obtain rfl : H = H' := by omega
  rw [p1] at q1
  obtain rfl : i = i' := (Prod.mk.inj (Option.some.inj q1)).1
  rw [lay_off (p := zeroP) rfl] at q3 q5 q6
  generalize lay W P2 (lay W P1 i.Data) = base at *
  have hlC : lay W C base = stage (fun _ => true) (G1 j x y W 1 1) base := by
    unfold lay layI
    rw [s1]
    simp only [hCX, hCY, m2, m3]; rfl
  rw [hlC] at p3 p5 p6
  have hHW : H * W ≤ 16 * 16 := Nat.mul_le_mul h2 w2
  have hwh : wr ((W : Int) * H) = ((H * W : Nat) : Int) := wrWH w2 h2
  have z1 : impl_ScanOut [P0, P1, P2, C] W H = some (ImageT.mk W H (stage (fun _ => true) (G1 j x y W 1 1) base)) := by
    unfold impl_ScanOut
    rw [iw, bnd_s, p5]; rfl
  have z2 : impl_ScanOut [P0, P1, P2, PlaneT.mk false 0 0 0 0 0 [] 0 0 0 0] W H = some (ImageT.mk W H base) := by
    unfold impl_ScanOut
    rw [show [P0, P1, P2, PlaneT.mk false 0 0 0 0 0 [] 0 0 0 0] = [P0, P1, P2, zeroP] from rfl, io, bnd_s, q5]; rfl
  rw [z1, bnd_s, z2, bnd_s, hwh]
  obtain ⟨X, rfl⟩ : ∃ n : Nat, x = n := ⟨x.toNat, by omega⟩
  obtain ⟨Y, rfl⟩ : ∃ n : Nat, y = n := ⟨y.toNat, by omega⟩
  have hXW : X < W := by omega
  have hYH : Y < H := by omega
  have hYX : Y * W + X < H * W := by
    have : (Y + 1) * W ≤ H * W := Nat.mul_le_mul_right _ (by omega)
    rw [Nat.add_mul, Nat.one_mul] at this
    omega
  have hcell : wr (wr ((Y : Int) * W) + X) = ((Y * W + X : Nat) : Int) := by
    have e : (Y : Int) * W = ((Y * W : Nat) : Int) := by rw [Int.natCast_mul]
    rw [e, wr_in (n := ((Y * W : Nat) : Int)) (by omega) (by omega), wr_in (by omega) (by omega)]; rfl
  have hjd : j.Data.length = 1 := by
    have := (imgOk_in m1).2.2.1
    rw [m2, m3] at this
    omega
  have hj0 : j.Data.getD 0 0 = p := by
    have : j.Data[0]? = some (j.Data[0]'(by omega)) := List.getElem?_eq_getElem (by omega)
    rw [List.getD_eq_getElem?_getD, this]
    exact n4 _ (List.getElem_mem (by omega))
  have hst : ∀ k (hk : k < base.length), (stage (fun _ => true) (G1 j (X : Int) (Y : Int) W 1 1) base)[k]'(by rw [stage_len]; exact hk) = if k = Y * W + X then p else base[k] := by
    intro k hk
    rw [stage_at _ _ _ hk, if_pos rfl]
    unfold G1
    have hins : ins (X : Int) (Y : Int) W 1 1 k = decide (k = Y * W + X) := by
      unfold ins ax ay
      refine decide_eq_decide.2 ?_
      rw [divmod hXW]
      omega
    rw [hins]
    by_cases e : k = Y * W + X
    · have hk0 : kx (X : Int) (Y : Int) W 1 k = 0 := by
        obtain ⟨g1, g2⟩ := (divmod hXW).1 e
        unfold kx ax ay
        rw [g1, g2]; omega
      rw [if_pos (by simpa using e), if_pos e, hk0, hj0]
      exact ov_top hq (q6 _ (List.getElem_mem hk))
    · rw [if_neg (by simpa using e), if_neg e]
  rw [ifO_neg (by simp only [stage_len, q3]; simp)]
  have hloop := allLoop (L := fun v => laws_FnPlaneOrder_L0 W X Y a2 (ImageT.mk W H (stage (fun _ => true) (G1 j (X : Int) (Y : Int) W 1 1) base)) (ImageT.mk W H base) v) base.length (by omega) (fun _ => true) false (fun k hk _ => by
    show laws_FnPlaneOrder_L0 W X Y a2 _ _ (k : Int) = _
    have hk' : k < (stage (fun _ => true) (G1 j (X : Int) (Y : Int) W 1 1) base).length := by rw [stage_len]; exact hk
    unfold laws_FnPlaneOrder_L0
    rw [ifO_pos (by simp only [stage_len]; simpa using hk), hcell, ep, hp]
    simp only []
    rw [idx_lt hk', idx_lt hk, bnd_s, bnd_s, bnd_s, hst k hk, andO_some, bnd_s, andO_some, bnd_s, orO_some, bnd_s]
    rw [ifO_neg]
    by_cases e : k = Y * W + X
    · have e' : decide ((k : Int) = ((Y * W + X : Nat) : Int)) = true := by simp [e]
      rw [e', if_pos e]; simp
    · have e' : decide ((k : Int) = ((Y * W + X : Nat) : Int)) = false := by
        rw [decide_eq_false_iff_not]; omega
      rw [e', if_neg e]; simp) (fun k hk h => by cases h) (by
    show laws_FnPlaneOrder_L0 W X Y a2 _ _ _ = _
    unfold laws_FnPlaneOrder_L0
    rw [ifO_neg (by simp only [stage_len]; simp)])
  rw [hloop, if_pos (by simp), bnd_s, fork_inl, iw, bnd_s]
  have cc' : impl_PlaneOk 3 C W H = some true := by
    obtain ⟨b, g1, g2⟩ := PlaneOk_some (k := 3) (w := (W : Int)) (h := (H : Int)) hCw
    rw [cc] at g1
    rw [g2, ← Option.some.inj g1]
  rw [cc', bnd_s, andO_some, bnd_s]; rfl
end Go.Proofs.Ytbdpbboonilhhaa
