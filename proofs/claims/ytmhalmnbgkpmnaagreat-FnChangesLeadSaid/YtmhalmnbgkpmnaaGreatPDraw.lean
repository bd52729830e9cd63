/- What is drawn. -/
import Derived.Test.YtmhalmnbgkpmnaaGreatPCur
import Derived.Test.YtmhalmnbgkpmnaaGreatPPixel
import Derived.Test.YtmhalmnbgkpmnaaGreatPImgs
namespace Go.Proofs.YtmhalmnbgkpmnaaGreat
open Go.RowKit K
theorem s_NewImage (w h p : Int) : ∃ i, spec_NewImage w h p = some i ∧ i.Data.length ≤ 256 ∧ (inR w 1 16 = true → inR h 1 16 = true → pixOk p = true → imgOk i = true ∧ i.W = w ∧ i.H = h) ∧ ∀ v ∈ i.Data, v = p := by
  simp only [spec_NewImage, l01In_eq, l04Pixel_eq, bnd_s, orO_some]
  cases hc : (!inR w 1 16 || !inR h 1 16 || !inR p 0 4294967295) with
  | true =>
    refine ⟨zeroImg, rfl, by simp [zeroImg], fun a b c => ?_, by simp [zeroImg]⟩
    unfold pixOk at c
    rw [a, b, c] at hc; cases hc
  | false =>
    have hc' : inR w 1 16 = true ∧ inR h 1 16 = true ∧ pixOk p = true := by
      unfold pixOk
      revert hc; cases inR w 1 16 <;> cases inR h 1 16 <;> cases inR p 0 4294967295 <;> simp
    obtain ⟨c1, c2, c3⟩ := hc'
    have d1 := c1
    have d2 := c2
    rw [inR_t] at d1 d2
    obtain ⟨W, rfl⟩ : ∃ n : Nat, w = n := ⟨w.toNat, by omega⟩
    obtain ⟨H, rfl⟩ : ∃ n : Nat, h = n := ⟨h.toNat, by omega⟩
    have hHW : H * W ≤ 16 * 16 := Nat.mul_le_mul (by omega) (by omega)
    have e := wrWH (W := W) (H := H) (by omega) (by omega)
    have hl := loopO_up (f := fun x => spec_NewImage_L0 W H p x.1 x.2) (fun k => (List.replicate k p, (k : Int))) (H * W) (List.replicate (H * W) p)
      (by
        show spec_NewImage_L0 W H p (List.replicate (H * W) p) ((H * W : Nat) : Int) = _
        unfold spec_NewImage_L0
        rw [e, ifO_neg (by simp)])
      (fun k hk => by
        show spec_NewImage_L0 W H p (List.replicate k p) (k : Int) = _
        unfold spec_NewImage_L0
        rw [e, ifO_pos (by simp only [decide_eq_true_eq]; omega), app_le (by simp only [List.length_replicate, List.length_singleton]; omega), bnd_s, wr_succ (by omega), ← List.replicate_succ']) 0 (by omega)
    have hl' : loopO (fun x => spec_NewImage_L0 W H p x.1 x.2) (([] : List Int), 0) = some (List.replicate (H * W) p) := hl
    refine ⟨ImageT.mk W H (List.replicate (H * W) p), ?_, by simp; omega, fun _ _ _ => ⟨?_, rfl, rfl⟩, fun v hv => List.eq_of_mem_replicate hv⟩
    · simp only [ifO_false]; rw [hl']; rfl
    · unfold imgOk
      simp only [c1, c2, Bool.and_true, Bool.true_and, List.length_replicate, e, decide_true, List.all_replicate, c3]
      split <;> rfl
section Draw
variable (b : List Int) (hb : b.length ≤ 1048576)
include hb
theorem byte4_ok (i h : Int) (hi : 0 ≤ i) : ∃ v i' h', spec_l04Byte (L01CurT.mk b i h) = some (v, L01CurT.mk b i' h') ∧ 0 ≤ v ∧ v ≤ 255 ∧ 0 ≤ i' := by
  obtain ⟨r, i1, g1, e1, r0, r1, hi1⟩ := below_ok b hb i h 256 hi (by omega) (by omega)
  obtain ⟨v, i2, g2, e2, hv, hi2⟩ := pick_ok b hb i1 g1 [0, 255, 127, 128, 1, 254, r] hi1 (by simp) (by simp)
  unfold spec_l04Byte
  rw [e1]
  simp only [bnd_s]
  rw [e2]
  refine ⟨v, i2, g2, rfl, ?_, ?_, hi2⟩ <;> (simp only [List.mem_cons, List.not_mem_nil, or_false] at hv; omega)
theorem draw4_ok (i h : Int) (hi : 0 ≤ i) : ∃ p i' h', spec_l04Draw (L01CurT.mk b i h) = some (p, L01CurT.mk b i' h') ∧ pixOk p = true ∧ 0 ≤ i' := by
  obtain ⟨r, i1, g1, e1, r0, r1, hi1⟩ := below_ok b hb i h 256 hi (by omega) (by omega)
  obtain ⟨a, i2, g2, e2, ha, hi2⟩ := pick_ok b hb i1 g1 [255, 255, 255, 0, 128, 200, r] hi1 (by simp) (by simp)
  obtain ⟨x, i3, g3, e3, x0, x1, hi3⟩ := byte4_ok b hb i2 g2 hi2
  obtain ⟨y, i4, g4, e4, y0, y1, hi4⟩ := byte4_ok b hb i3 g3 hi3
  obtain ⟨z, i5, g5, e5, z0, z1, hi5⟩ := byte4_ok b hb i4 g4 hi4
  have ha' : 0 ≤ a ∧ a ≤ 255 := by simp only [List.mem_cons, List.not_mem_nil, or_false] at ha; omega
  have hm : ∃ p, spec_MakePixel a x y z = some p ∧ pixOk p = true := by
    have c0 : inR a 0 255 = true := inR_t.2 ha'
    have c1 : inR x 0 255 = true := inR_t.2 ⟨x0, x1⟩
    have c2 : inR y 0 255 = true := inR_t.2 ⟨y0, y1⟩
    have c3 : inR z 0 255 = true := inR_t.2 ⟨z0, z1⟩
    simp only [spec_MakePixel, l01In_eq, c0, c1, c2, c3, bnd_s, orO_some]
    rw [ifO_neg (by rfl)]
    have s24 : shl a 24 = a * 16777216 := by
      unfold shl
      have e : (2 : Int) ^ (min (Int.toNat 24) 64) = 16777216 := rfl
      rw [e, wr_in (by omega) (by omega)]
    have s16 : shl x 16 = x * 65536 := by
      unfold shl
      have e : (2 : Int) ^ (min (Int.toNat 16) 64) = 65536 := rfl
      rw [e, wr_in (by omega) (by omega)]
    have s8 : shl y 8 = y * 256 := by
      unfold shl
      have e : (2 : Int) ^ (min (Int.toNat 8) 64) = 256 := rfl
      rw [e, wr_in (by omega) (by omega)]
    rw [s24, s16, s8, wr_in (n := a * 16777216 + x * 65536) (by omega) (by omega), wr_in (n := a * 16777216 + x * 65536 + y * 256) (by omega) (by omega), wr_in (by omega) (by omega)]
    exact ⟨_, rfl, inR_t.2 (by omega)⟩
  obtain ⟨p, e6, hp⟩ := hm
  unfold spec_l04Draw
  rw [e1]
  simp only [bnd_s]
  rw [e2]
  simp only [bnd_s]
  rw [e3]
  simp only [bnd_s]
  rw [e4]
  simp only [bnd_s]
  rw [e5]
  simp only [bnd_s, e6]
  exact ⟨p, i5, g5, rfl, hp, hi5⟩
theorem once_ok (i h n : Int) (hi : 0 ≤ i) (h1 : 1 ≤ n) (h2 : n ≤ 256) : ∃ q i' h', spec_l01Once (L01CurT.mk b i h) n = some (q, L01CurT.mk b i' h') ∧ 0 ≤ i' := by
  obtain ⟨r, i1, g1, e1, r0, r1, hi1⟩ := below_ok b hb i h n hi h1 h2
  unfold spec_l01Once
  rw [e1]
  exact ⟨_, i1, g1, rfl, hi1⟩
end Draw
def RectIn (r : RectT) : Prop := (-1000 ≤ r.X ∧ r.X ≤ 1000) ∧ (-1000 ≤ r.Y ∧ r.Y ≤ 1000) ∧ (0 ≤ r.W ∧ r.W ≤ 1000) ∧ (0 ≤ r.H ∧ r.H ≤ 1000)
theorem s_RectOk {r : RectT} (h : RectIn r) : spec_RectOk r = some true := by
  obtain ⟨h1, h2, h3, h4⟩ := h
  have c1 := inR_t.2 h1
  have c2 := inR_t.2 h2
  have c3 := inR_t.2 h3
  have c4 := inR_t.2 h4
  simp only [spec_RectOk, l01In_eq, c1, c2, c3, c4, bnd_s, andO_some]
  rfl
theorem Intersect_in {r : RectT} (h : RectIn r) {W H : Int} (w1 : 1 ≤ W) (w2 : W ≤ 16) (h1 : 1 ≤ H) (h2 : H ≤ 16) : ∃ c, spec_Intersect r (RectT.mk 0 0 W H) = some c ∧ 0 ≤ c.X ∧ 0 ≤ c.W ∧ c.X + c.W ≤ W ∧ 0 ≤ c.Y ∧ 0 ≤ c.H ∧ c.Y + c.H ≤ H := by
  have hr : RectIn (RectT.mk 0 0 W H) := ⟨⟨by simp, by simp⟩, ⟨by simp, by simp⟩, ⟨by simp only []; omega, by simp only []; omega⟩, by simp only []; omega, by simp only []; omega⟩
  obtain ⟨a1, a2, a3, a4⟩ := h
  simp only [spec_Intersect, s_RectOk ⟨a1, a2, a3, a4⟩, s_RectOk hr, bnd_s, orO_some, Bool.not_true, Bool.or_false, ifO_false, Int.zero_add]
  rw [wr_in (n := r.X + r.W) (by omega) (by omega), wr_in (n := r.Y + r.H) (by omega) (by omega), wr_in (n := W) (by omega) (by omega), wr_in (n := H) (by omega) (by omega)]
  have d1 : wr (min (r.X + r.W) W - max r.X 0) = min (r.X + r.W) W - max r.X 0 := wr_in (by omega) (by omega)
  have d2 : wr (min (r.Y + r.H) H - max r.Y 0) = min (r.Y + r.H) H - max r.Y 0 := wr_in (by omega) (by omega)
  rw [d1, d2]
  by_cases hc : (decide (min (r.X + r.W) W - max r.X 0 ≤ 0) || decide (min (r.Y + r.H) H - max r.Y 0 ≤ 0)) = true
  · rw [ifO_pos hc]
    exact ⟨_, rfl, by simp, by simp, by simp only []; omega, by simp, by simp, by simp only []; omega⟩
  · rw [ifO_neg (by simpa using hc)]
    simp only [Bool.or_eq_true, decide_eq_true_eq] at hc
    refine ⟨_, rfl, ?_, ?_, ?_, ?_, ?_, ?_⟩ <;> simp only [] <;> omega
section Fill
variable (i : ImageT) (W H : Nat) (hW : i.W = W) (w2 : W ≤ 16) (h2 : H ≤ 16) (p : Int) (Q : Int → Prop) (hp : Q p) (c : RectT)
include hW w2 h2 hp
theorem fillRow (X2 y : Nat) (hX : c.X + c.W = X2) (hXW : X2 ≤ W) (hy : y < H) : ∀ (j a : Nat) (o : List Int), a + j = X2 → o.length = H * W → (∀ v ∈ o, Q v) → ∃ o', loopO (fun (o, a) => spec_FillRect_L1 i p c y o a) (o, (a : Int)) = some o' ∧ o'.length = H * W ∧ ∀ v ∈ o', Q v := by
  have hyw : (y + 1) * W ≤ H * W := Nat.mul_le_mul_right _ hy
  have hHW : H * W ≤ 16 * 16 := Nat.mul_le_mul h2 w2
  rw [Nat.add_mul, Nat.one_mul] at hyw
  have ex : wr (c.X + c.W) = (X2 : Int) := by rw [hX, wr_in (by omega) (by omega)]
  intro j
  induction j with
  | zero =>
    intro a o ha ho hq
    obtain rfl : a = X2 := by omega
    refine ⟨o, loopO_inr ?_, ho, hq⟩
    show spec_FillRect_L1 i p c y o a = _
    unfold spec_FillRect_L1
    rw [ex, ifO_neg (by simp)]
  | succ j ih =>
    intro a o ha ho hq
    have e : wr (wr ((y : Int) * i.W) + a) = ((y * W + a : Nat) : Int) := by
      rw [hW, ← Int.natCast_mul, wr_in (n := ((y * W : Nat) : Int)) (by omega) (by omega), wr_in (by omega) (by omega)]; omega
    have hs : spec_FillRect_L1 i p c y o a = some (.inl (o.set (y * W + a) p, ((a + 1 : Nat) : Int))) := by
      unfold spec_FillRect_L1
      rw [ex, ifO_pos (by simp only [decide_eq_true_eq]; omega), e, upd_lt (by omega), bnd_s, wr_succ (by omega)]
    rw [@loopO_inl _ _ (fun (o, a) => spec_FillRect_L1 i p c y o a) (o, (a : Int)) _ hs]
    refine ih (a + 1) _ (by omega) (by simpa using ho) (fun v hv => ?_)
    rcases List.mem_or_eq_of_mem_set hv with h | rfl
    · exact hq v h
    · exact hp
theorem fillRows (X1 X2 Y2 : Nat) (hX1 : c.X = X1) (hX : c.X + c.W = X2) (hX12 : X1 ≤ X2) (hXW : X2 ≤ W) (hY : c.Y + c.H = Y2) (hYH : Y2 ≤ H) : ∀ (j y : Nat) (o : List Int), y + j = Y2 → o.length = H * W → (∀ v ∈ o, Q v) → ∃ o', loopO (fun (o, y) => spec_FillRect_L0 i p c o y) (o, (y : Int)) = some o' ∧ o'.length = H * W ∧ ∀ v ∈ o', Q v := by
  have ey : wr (c.Y + c.H) = (Y2 : Int) := by rw [hY, wr_in (by omega) (by omega)]
  intro j
  induction j with
  | zero =>
    intro y o hy ho hq
    obtain rfl : y = Y2 := by omega
    refine ⟨o, loopO_inr ?_, ho, hq⟩
    show spec_FillRect_L0 i p c o y = _
    unfold spec_FillRect_L0
    rw [ey, ifO_neg (by simp)]
  | succ j ih =>
    intro y o hy ho hq
    obtain ⟨o', r1, r2, r3⟩ := fillRow i W H hW w2 h2 p Q hp c X2 y hX hXW (by omega) (X2 - X1) X1 o (by omega) ho hq
    have hs : spec_FillRect_L0 i p c o y = some (.inl (o', ((y + 1 : Nat) : Int))) := by
      unfold spec_FillRect_L0
      simp only [] at r1
      rw [ey, ifO_pos (by simp only [decide_eq_true_eq]; omega), hX1, r1, bnd_s, wr_succ (by omega)]
    rw [@loopO_inl _ _ (fun (o, y) => spec_FillRect_L0 i p c o y) (o, (y : Int)) _ hs]
    exact ih (y + 1) o' (by omega) r2 r3
end Fill
theorem FillRect_ok {i : ImageT} {r : RectT} {p : Int} (hi : imgOk i = true) (hr : RectIn r) (hp : pixOk p = true) (Q : Int → Prop) (hQ : ∀ v ∈ i.Data, Q v) (hQp : Q p) : ∃ j, spec_FillRect i r p = some j ∧ imgOk j = true ∧ j.W = i.W ∧ j.H = i.H ∧ ∀ v ∈ j.Data, Q v := by
  obtain ⟨⟨w1, w2⟩, ⟨h1, h2⟩, hd, hpx⟩ := imgOk_in hi
  have hle := imgOk_le hi
  obtain ⟨W, hW⟩ : ∃ n : Nat, i.W = n := ⟨i.W.toNat, by omega⟩
  obtain ⟨H, hH⟩ : ∃ n : Nat, i.H = n := ⟨i.H.toNat, by omega⟩
  have hl : i.Data.length = H * W := by
    rw [hW, hH, ← Int.natCast_mul, Nat.mul_comm] at hd
    omega
  have hp' := hp
  unfold pixOk at hp'
  obtain ⟨c, c1, c2, c3, c4, c5, c6, c7⟩ := Intersect_in hr (W := i.W) (H := i.H) w1 w2 h1 h2
  have hcopy : spec_l05Copy i = some i := by
    unfold spec_l05Copy
    rw [app_le (by simp only [List.length_nil]; omega)]; rfl
  obtain ⟨o, o1, o2, o3⟩ := fillRows i W H hW (by omega) (by omega) p (fun v => Q v ∧ pixOk v = true) ⟨hQp, hp⟩ c c.X.toNat (c.X + c.W).toNat (c.Y + c.H).toNat (by omega) (by omega) (by omega) (by omega) (by omega) (by omega) ((c.Y + c.H).toNat - c.Y.toNat) c.Y.toNat i.Data (by omega) hl (fun v hv => ⟨hQ v hv, hpx v hv⟩)
  have eY : ((c.Y.toNat : Nat) : Int) = c.Y := by omega
  rw [eY] at o1
  simp only [] at o1
  refine ⟨ImageT.mk i.W i.H o, ?_, ?_, rfl, rfl, fun v hv => (o3 v hv).1⟩
  · simp only [spec_FillRect, hcopy, s_ImageOk i (by omega), hi, s_RectOk hr, l04Pixel_eq, hp', bnd_s, orO_some, Bool.not_true, Bool.or_false, ifO_false, c1]
    rw [o1]; rfl
  · unfold imgOk
    have a1 : inR i.W 1 16 = true := inR_t.2 ⟨w1, w2⟩
    have a2 : inR i.H 1 16 = true := inR_t.2 ⟨h1, h2⟩
    have hHW : H * W ≤ 16 * 16 := Nat.mul_le_mul (by omega) (by omega)
    have a3 : decide ((o.length : Int) = wr (i.W * i.H)) = true := by
      rw [hW, hH, wrWH (by omega) (by omega), o2]; simp
    have a4 : o.all pixOk = true := List.all_eq_true.2 fun v hv => (o3 v hv).2
    simp only [a1, a2, a3, a4]; rfl
section Draw2
variable (b : List Int) (hb : b.length ≤ 1048576)
include hb
theorem image_ok (i h m : Int) (hi : 0 ≤ i) (m1 : 1 ≤ m) (m2 : m ≤ 16) : ∃ q i' h', spec_l05Image (L01CurT.mk b i h) m = some (q, L01CurT.mk b i' h') ∧ imgOk q = true ∧ q.W ≤ m ∧ q.H ≤ m ∧ 0 ≤ i' := by
  obtain ⟨w, i1, g1, e1, w0, w1, hi1⟩ := below_ok b hb i h m hi m1 (by omega)
  obtain ⟨z, i2, g2, e2, z0, z1, hi2⟩ := below_ok b hb i1 g1 m hi1 m1 (by omega)
  obtain ⟨p, i3, g3, e3, hp, hi3⟩ := draw4_ok b hb i2 g2 hi2
  have ew : wr (1 + w) = 1 + w := wr_in (by omega) (by omega)
  have ez : wr (1 + z) = 1 + z := wr_in (by omega) (by omega)
  obtain ⟨q, n1, n2⟩ : ∃ q, spec_NewImage (1 + w) (1 + z) p = some q ∧ imgOk q = true ∧ q.W = 1 + w ∧ q.H = 1 + z := by
    obtain ⟨q, a, _, a2, _⟩ := s_NewImage (1 + w) (1 + z) p
    exact ⟨q, a, a2 (inR_t.2 (by omega)) (inR_t.2 (by omega)) hp⟩
  obtain ⟨k, i4, g4, e4, k0, k1, hi4⟩ := below_ok b hb i3 g3 4 hi3 (by omega) (by omega)
  obtain ⟨k, rfl⟩ : ∃ n : Nat, k = n := ⟨k.toNat, by omega⟩
  have loop : ∀ (k : Nat) (j g : Int) (q : ImageT), k ≤ 4 → 0 ≤ j → imgOk q = true → q.W = 1 + w → q.H = 1 + z → ∃ q' j' g', loopO (fun (x : Int × Int × Int × Int × (List Int) × Int) => spec_l05Image_L0 (L01CurT.mk b i h) w z x.1 x.2.1 x.2.2.1 x.2.2.2.1 x.2.2.2.2.1 x.2.2.2.2.2) (j, g, q.W, q.H, q.Data, (k : Int)) = some (q'.W, q'.H, q'.Data, j', g')
      ∧ imgOk q' = true ∧ q'.W = 1 + w ∧ q'.H = 1 + z ∧ 0 ≤ j' := by
    intro k
    induction k with
    | zero =>
      intro j g q _ hj hq hw hz
      refine ⟨q, j, g, loopO_inr ?_, hq, hw, hz, hj⟩
      simp only [spec_l05Image_L0]
      rw [ifO_neg (by simp)]
    | succ k ih =>
      intro j g q hk hj hq hw hz
      obtain ⟨x, j1, t1, f1, x0, x1, hj1⟩ := below_ok b hb j g (1 + w) hj (by omega) (by omega)
      obtain ⟨y, j2, t2, f2, y0, y1, hj2⟩ := below_ok b hb j1 t1 (1 + z) hj1 (by omega) (by omega)
      obtain ⟨u, j3, t3, f3, u0, u1, hj3⟩ := below_ok b hb j2 t2 4 hj2 (by omega) (by omega)
      obtain ⟨v, j4, t4, f4, v0, v1, hj4⟩ := below_ok b hb j3 t3 4 hj3 (by omega) (by omega)
      obtain ⟨p, j5, t5, f5, hp, hj5⟩ := draw4_ok b hb j4 t4 hj4
      have eu : wr (1 + u) = 1 + u := wr_in (by omega) (by omega)
      have ev : wr (1 + v) = 1 + v := wr_in (by omega) (by omega)
      obtain ⟨q', d1, d2, d3, d4, _⟩ := FillRect_ok (r := RectT.mk x y (1 + u) (1 + v)) hq ⟨⟨by simp only []; omega, by simp only []; omega⟩, ⟨by simp only []; omega, by simp only []; omega⟩, ⟨by simp only []; omega, by simp only []; omega⟩, by simp only []; omega, by simp only []; omega⟩ hp (fun _ => True) (fun _ _ => trivial) trivial
      obtain ⟨q2, j', g', r1, r2, r3, r4, r5⟩ := ih j5 t5 q' (by omega) hj5 d2 (d3.trans hw) (d4.trans hz)
      refine ⟨q2, j', g', ?_, r2, r3, r4, r5⟩
      rw [← r1]
      refine loopO_inl ?_
      have hd : decide (0 < ((k + 1 : Nat) : Int)) = true := by simp only [decide_eq_true_eq]; omega
      simp only [spec_l05Image_L0, hd, ifO_true, ew, ez, f1, bnd_s, f2, f3, f4, f5, eu, ev, d1, wr_pred (show k < 4611686018427387904 by omega)]
  obtain ⟨q', j', g', r1, r2, r3, r4, r5⟩ := loop k i4 g4 q (by omega) hi4 n2.1 n2.2.1 n2.2.2
  refine ⟨q', j', g', ?_, r2, by omega, by omega, r5⟩
  unfold spec_l05Image
  simp only [e1, bnd_s, e2, e3, ew, ez, n1, e4]
  rw [r1]; rfl
end Draw2
end Go.Proofs.YtmhalmnbgkpmnaaGreat
