/- What planes show together. -/
import Derived.Test.YtbdpbboonilhhaaPPlaneOk
namespace Go.Proofs.Ytbdpbboonilhhaa
open Go.RowKit K
theorem shl8 {o : Int} (h0 : 0 ≤ o) (h1 : o ≤ 1099511627776) : shl o 8 = o * 256 := by
  unfold shl
  have e : (2 : Int) ^ (min (Int.toNat 8) 64) = 256 := rfl
  rw [e, wr_in (by omega) (by omega)]
theorem or_add2 {o q : Int} (h0 : 0 ≤ o) (h1 : o ≤ 1099511627776) (q0 : 0 ≤ q) (q1 : q ≤ 255) : or64 (shl o 8) q = o * 256 + q := by
  rw [shl8 h0 h1]
  obtain ⟨n, rfl⟩ : ∃ n : Nat, o = n := ⟨o.toNat, by omega⟩
  obtain ⟨m, rfl⟩ : ∃ m : Nat, q = m := ⟨q.toNat, by omega⟩
  have hn : n <<< 8 = n * 256 := by rw [Nat.shiftLeft_eq]
  have e0 : (n : Int) * (256 : Int) = ((n <<< 8 : Nat) : Int) := by omega
  unfold or64
  have e : (BitVec.ofInt 64 ((n : Int) * 256) ||| BitVec.ofInt 64 (m : Int)).toNat = n <<< 8 + m := by
    rw [Nat.shiftLeft_add_eq_or_of_lt (show m < 2 ^ 8 by omega), BitVec.toNat_or, e0]
    have t1 : (BitVec.ofInt 64 ((n <<< 8 : Nat) : Int)).toNat = n <<< 8 := by
      rw [BitVec.ofInt_natCast, BitVec.toNat_ofNat, Nat.mod_eq_of_lt (by omega)]
    have t2 : (BitVec.ofInt 64 (m : Int)).toNat = m := by
      rw [BitVec.ofInt_natCast, BitVec.toNat_ofNat, Nat.mod_eq_of_lt (by omega)]
    rw [t1, t2]
  rw [e, wr_in (by omega) (by omega)]
  omega
theorem chan (p k : Int) (hk : k = 0 ∨ k = 1 ∨ k = 2 ∨ k = 3) : ∃ c, 0 ≤ c ∧ c ≤ 255 ∧ impl_channel p k = some c ∧ (pixOk p = true → spec_ChannelOf p k = some c) := by
  have h : ∀ q, shrO p (wr (24 - wr (8 * k))) = some (shr p q) → inR k 0 3 = true → ∃ c, 0 ≤ c ∧ c ≤ 255 ∧ impl_channel p k = some c ∧ (pixOk p = true → spec_ChannelOf p k = some c) := by
    intro q e e3
    have hb := and255 p q
    refine ⟨_, hb.1, hb.2, by simp only [impl_channel, e, bnd_s], fun hp => ?_⟩
    unfold pixOk at hp
    simp only [spec_ChannelOf, l04Pixel_eq, l01In_eq, hp, e3, e, bnd_s, orO_some]
    rfl
  rcases hk with rfl | rfl | rfl | rfl
  · exact h 24 rfl rfl
  · exact h 16 rfl rfl
  · exact h 8 rfl rfl
  · exact h 0 rfl rfl
theorem overStep {t b a o k : Int} (ht : pixOk t = true) (hb : pixOk b = true) (a0 : 0 ≤ a) (a1 : a ≤ 255) (o0 : 0 ≤ o) (o1 : o ≤ 1099511627776) (hk : k = 1 ∨ k = 2 ∨ k = 3) :
    ∃ o', 0 ≤ o' ∧ (o' ≤ o * 256 + 255 ∧ o * 256 ≤ o' ∧ (a = 255 → ∀ c, impl_channel t k = some c → o' = o * 256 + c)) ∧ spec_Over_L0 t b a o k = some (.inl (o', wr (k + 1))) ∧ impl_Over_L0 t b a o k = some (.inl (o', wr (k + 1))) := by
  obtain ⟨c, c0, c1, c2, c3⟩ := chan t k (by omega)
  obtain ⟨d, d0, d1, d2, d3⟩ := chan b k (by omega)
  have e : wr (255 - a) = 255 - a := wr_in (by omega) (by omega)
  obtain ⟨p1, p2⟩ := Part_eq c0 c1 a0 a1
  obtain ⟨q1, q2⟩ := Part_eq d0 d1 (show 0 ≤ 255 - a by omega) (show 255 - a ≤ 255 by omega)
  have hp := part_in c0 c1 a0 a1
  have hq := part_in d0 d1 (show 0 ≤ 255 - a by omega) (show 255 - a ≤ 255 by omega)
  have l1 : decide (k ≤ 3) = true := by simp; omega
  have l2 : decide (k < 4) = true := by simp; omega
  refine ⟨o * 256 + part c a + part d (255 - a), by omega, ⟨by omega, by omega, fun ha c' hc' => ?_⟩, ?_, ?_⟩
  · subst ha
    rw [c2] at hc'
    obtain rfl := Option.some.inj hc'
    unfold part
    omega
  · simp only [spec_Over_L0, l1, ifO_true, c3 ht, d3 hb, bnd_s, p1, e, q1, shl8 o0 o1]
    rw [wr_in (n := o * 256 + part c a) (by omega) (by omega), wr_in (n := o * 256 + part c a + part d (255 - a)) (by omega) (by omega)]
  · simp only [impl_Over_L0, l2, ifO_true, c2, d2, bnd_s, p2, e, q2, or_add2 o0 o1 hp.1 (show part c a ≤ 255 by omega)]
    rw [wr_in (n := o * 256 + part c a + part d (255 - a)) (by omega) (by omega)]
theorem Over_eq (t b : Int) : ∃ r, spec_Over t b = some r ∧ impl_Over t b = some r ∧ (pixOk t = true → pixOk b = true → pixOk r = true ∧ 4278190080 ≤ r ∧ (impl_channel t 0 = some 255 → ∀ c1 c2 c3, impl_channel t 1 = some c1 → impl_channel t 2 = some c2 → impl_channel t 3 = some c3 → r = ((255 * 256 + c1) * 256 + c2) * 256 + c3)) := by
  simp only [spec_Over, impl_Over, l04Pixel_eq, isPixel_eq, bnd_s, orO_some]
  cases hc : (!inR t 0 4294967295 || !inR b 0 4294967295) with
  | true => exact ⟨_, rfl, rfl, fun h1 h2 => by unfold pixOk at h1 h2; rw [h1, h2] at hc; cases hc⟩
  | false =>
    have hc' : pixOk t = true ∧ pixOk b = true := by
      unfold pixOk
      revert hc; cases inR t 0 4294967295 <;> cases inR b 0 4294967295 <;> simp
    obtain ⟨ht, hb⟩ := hc'
    obtain ⟨a, a0, a1, a2, a3⟩ := chan t 0 (by omega)
    simp only [ifO_false, a2, a3 ht, bnd_s]
    obtain ⟨o1, b1, b2, s1, i1⟩ := overStep (o := 255) (k := 1) ht hb a0 a1 (by omega) (by omega) (by omega)
    obtain ⟨o2, b3, b4, s2, i2⟩ := overStep (o := o1) (k := 2) ht hb a0 a1 (by omega) (by omega) (by omega)
    obtain ⟨o3, b5, b6, s3, i3⟩ := overStep (o := o2) (k := 3) ht hb a0 a1 (by omega) (by omega) (by omega)
    have w12 : wr (1 + 1) = 2 := by rw [wr_in (by omega) (by omega)]; rfl
    have w23 : wr (2 + 1) = 3 := by rw [wr_in (by omega) (by omega)]; rfl
    have w34 : wr (3 + 1) = 4 := by rw [wr_in (by omega) (by omega)]; rfl
    rw [w12] at s1 i1
    rw [w23] at s2 i2
    rw [w34] at s3 i3
    have hs : loopO (fun x => spec_Over_L0 t b a x.1 x.2) (255, 1) = some o3 := by
      rw [loopO_inl (f := fun x => spec_Over_L0 t b a x.1 x.2) (s := (255, 1)) s1]
      rw [loopO_inl (f := fun x => spec_Over_L0 t b a x.1 x.2) (s := (o1, 2)) s2]
      rw [loopO_inl (f := fun x => spec_Over_L0 t b a x.1 x.2) (s := (o2, 3)) s3]
      exact loopO_inr rfl
    have hi : loopO (fun x => impl_Over_L0 t b a x.1 x.2) (255, 1) = some o3 := by
      rw [loopO_inl (f := fun x => impl_Over_L0 t b a x.1 x.2) (s := (255, 1)) i1]
      rw [loopO_inl (f := fun x => impl_Over_L0 t b a x.1 x.2) (s := (o1, 2)) i2]
      rw [loopO_inl (f := fun x => impl_Over_L0 t b a x.1 x.2) (s := (o2, 3)) i3]
      exact loopO_inr rfl
    refine ⟨o3, ?_, ?_, fun _ _ => ⟨inR_t.2 (by omega), by omega, fun h0 c1 c2 c3 h1 h2 h3 => ?_⟩⟩
    rotate_left
    rotate_left
    · obtain rfl := Option.some.inj h0
      rw [b6.2.2 rfl c3 h3, b4.2.2 rfl c2 h2, b2.2.2 rfl c1 h1]
    · rw [hs]; rfl
    · rw [hi]; rfl
noncomputable def ov (t b : Int) : Int := Classical.choose (Over_eq t b)
theorem s_Over (t b : Int) : spec_Over t b = some (ov t b) := (Classical.choose_spec (Over_eq t b)).1
theorem i_Over (t b : Int) : impl_Over t b = some (ov t b) := (Classical.choose_spec (Over_eq t b)).2.1
theorem ov_pix {t b : Int} (ht : pixOk t = true) (hb : pixOk b = true) : pixOk (ov t b) = true := ((Classical.choose_spec (Over_eq t b)).2.2 ht hb).1

def stage (P : Nat → Bool) (G : Nat → Int → Int) (out : List Int) : List Int := out.mapIdx fun n v => if P n = true then G n v else v
theorem stage_len (P : Nat → Bool) (G : Nat → Int → Int) (out : List Int) : (stage P G out).length = out.length := by simp [stage]
theorem stage_at (P : Nat → Bool) (G : Nat → Int → Int) (out : List Int) {n : Nat} (h : n < out.length) : (stage P G out)[n]'(by rw [stage_len]; exact h) = if P n = true then G n out[n] else out[n] := by simp [stage]
theorem stage_set (P Q : Nat → Bool) (G : Nat → Int → Int) (out : List Int) {m : Nat} (h : m < out.length) (hQ : ∀ n, n < out.length → n ≠ m → (if Q n = true then G n out[n]! else out[n]!) = if P n = true then G n out[n]! else out[n]!) (hm : Q m = true) : (stage P G out).set m (G m out[m]) = stage Q G out := by
  apply List.ext_getElem
  · simp [stage]
  · intro n h1 h2
    have hn : n < out.length := by simpa [stage] using h1
    rw [List.getElem_set, stage_at Q G out hn]
    by_cases e : m = n
    · subst e; rw [if_pos rfl, if_pos hm]
    · rw [if_neg e, stage_at P G out hn]
      have := hQ n hn (Ne.symm e)
      rw [getElem!_pos out n hn] at this
      exact this.symm
theorem stage_same (P Q : Nat → Bool) (G : Nat → Int → Int) (out : List Int) (hQ : ∀ n, n < out.length → (if Q n = true then G n out[n]! else out[n]!) = if P n = true then G n out[n]! else out[n]!) : stage P G out = stage Q G out := by
  apply List.ext_getElem
  · simp [stage]
  · intro n h1 h2
    have hn : n < out.length := by simpa [stage] using h1
    rw [stage_at Q G out hn, stage_at P G out hn]
    have := hQ n hn
    rw [getElem!_pos out n hn] at this
    exact this.symm
section One
variable (i : ImageT) (X Y : Int) (W H iW iH : Nat)
def ax (n : Nat) : Int := ((n % W : Nat) : Int) - X
def ay (n : Nat) : Int := ((n / W : Nat) : Int) - Y
def ins (n : Nat) : Bool := decide (0 ≤ ax X W n ∧ ax X W n < iW ∧ 0 ≤ ay Y W n ∧ ay Y W n < iH)
def kx (n : Nat) : Nat := (ay Y W n).toNat * iW + (ax X W n).toNat
noncomputable def G1 (n : Nat) (v : Int) : Int := if ins X Y W iW iH n = true then ov (i.Data.getD (kx X Y W iW n) 0) v else v
variable (hiW : i.W = iW) (hiH : i.H = iH) (w1 : 1 ≤ W) (w2 : W ≤ 16) (h2 : H ≤ 16) (iw1 : 1 ≤ iW) (iw2 : iW ≤ 16) (ih2 : iH ≤ 16) (hl : i.Data.length = iH * iW) (hp : ∀ p ∈ i.Data, pixOk p = true) (x1 : -32 ≤ X) (x2 : X ≤ 32) (y1 : -32 ≤ Y) (y2 : Y ≤ 32)
theorem kx_lt {n : Nat} (h : ins X Y W iW iH n = true) : kx X Y W iW n < iH * iW := by
  simp only [ins, decide_eq_true_eq] at h
  unfold kx
  have : ((ay Y W n).toNat + 1) * iW ≤ iH * iW := Nat.mul_le_mul_right _ (by omega)
  rw [Nat.add_mul, Nat.one_mul] at this
  omega
theorem kx_iff {n k : Nat} (h : ins X Y W iW iH n = true) : kx X Y W iW n = k ↔ ax X W n = ((k % iW : Nat) : Int) ∧ ay Y W n = ((k / iW : Nat) : Int) := by
  simp only [ins, decide_eq_true_eq] at h
  unfold kx
  obtain ⟨a, ha⟩ : ∃ a : Nat, ax X W n = a := ⟨(ax X W n).toNat, by omega⟩
  obtain ⟨b, hb⟩ : ∃ b : Nat, ay Y W n = b := ⟨(ay Y W n).toNat, by omega⟩
  rw [ha, hb, Int.toNat_natCast, Int.toNat_natCast]
  constructor
  · rintro rfl
    rw [Nat.mul_comm, Nat.mul_add_mod, Nat.mul_add_div (by omega), Nat.mod_eq_of_lt (by omega), Nat.div_eq_of_lt (by omega)]
    exact ⟨rfl, rfl⟩
  · rintro ⟨e1, e2⟩
    have e1' : a = k % iW := by omega
    have e2' : b = k / iW := by omega
    rw [e1', e2', Nat.mul_comm]
    exact Nat.div_add_mod k iW
include hiW hiH w1 w2 h2 iw1 iw2 ih2 hl hp x1 x2 y1 y2
omit iw2 ih2 w1 iw1 x1 x2 y1 y2 h2 w2 hp hl hiW hiH in
theorem cell_of {y x : Nat} (hx : x < W) : (y * W + x) % W = x ∧ (y * W + x) / W = y := by
  rw [Nat.mul_comm, Nat.mul_add_mod, Nat.mul_add_div (by omega), Nat.mod_eq_of_lt hx, Nat.div_eq_of_lt hx]
  exact ⟨rfl, rfl⟩
omit hp in
theorem at_eq {y x : Nat} (hx : x < W) (hy : y < H) : spec_l05At i (wr ((x : Int) - X)) (wr ((y : Int) - Y)) = some (if ins X Y W iW iH (y * W + x) = true then i.Data.getD (kx X Y W iW (y * W + x)) 0 else -1) := by
  have hHW : iH * iW ≤ 16 * 16 := Nat.mul_le_mul ih2 iw2
  obtain ⟨c1, c2⟩ := cell_of (W := W) (y := y) hx
  rw [wr_in (n := (x : Int) - X) (by omega) (by omega), wr_in (n := (y : Int) - Y) (by omega) (by omega)]
  have hax : ax X W (y * W + x) = (x : Int) - X := by unfold ax; rw [c1]
  have hay : ay Y W (y * W + x) = (y : Int) - Y := by unfold ay; rw [c2]
  unfold spec_l05At
  by_cases h : ins X Y W iW iH (y * W + x) = true
  · have hk := kx_lt X Y W iW iH h
    rw [if_pos h]
    simp only [ins, decide_eq_true_eq, hax, hay] at h
    rw [ifO_neg (by rw [hiW, hiH]; simp only [Bool.or_eq_false_iff, decide_eq_false_iff_not]; omega), hiW]
    have e : wr (wr (((y : Int) - Y) * iW) + ((x : Int) - X)) = ((kx X Y W iW (y * W + x) : Nat) : Int) := by
      unfold kx
      rw [hax, hay]
      obtain ⟨a, ha⟩ : ∃ a : Nat, (x : Int) - X = a := ⟨((x : Int) - X).toNat, by omega⟩
      obtain ⟨b, hb⟩ : ∃ b : Nat, (y : Int) - Y = b := ⟨((y : Int) - Y).toNat, by omega⟩
      have hm : (b + 1) * iW ≤ iH * iW := Nat.mul_le_mul_right _ (by omega)
      rw [Nat.add_mul, Nat.one_mul] at hm
      rw [ha, hb, ← Int.natCast_mul, wr_in (n := ((b * iW : Nat) : Int)) (by omega) (by omega), wr_in (by omega) (by omega)]
      simp
    rw [e, idx_getD (by omega) (by omega), bnd_s, Int.toNat_natCast]
  · rw [if_neg h]
    simp only [ins, decide_eq_true_eq, hax, hay] at h
    rw [ifO_pos (by rw [hiW, hiH]; simp only [Bool.or_eq_true, decide_eq_true_eq]; omega)]
omit hiW hiH w1 w2 h2 iw1 iw2 ih2 x1 x2 y1 y2 in
theorem getD_pix {n : Nat} (h : ins X Y W iW iH n = true) : pixOk (i.Data.getD (kx X Y W iW n) 0) = true := by
  have hk := kx_lt X Y W iW iH h
  simp only [List.getD_eq_getElem?_getD]
  rw [List.getElem?_eq_getElem (by omega)]
  exact hp _ (List.getElem_mem _)
omit hiW hiH w1 w2 h2 iw1 iw2 ih2 x1 x2 y1 y2 in
theorem getD_pos {n : Nat} (h : ins X Y W iW iH n = true) : 0 ≤ i.Data.getD (kx X Y W iW n) 0 := (inR_t.1 (getD_pix i X Y W iW iH hl hp h)).1
theorem scanRow (list : List PlaneT) (v : Int) (t : PlaneT) (ht : idx list v = some t) (tX : t.X = X) (tY : t.Y = Y) (out : List Int) (ho : out.length = H * W) (y : Nat) (hy : y < H) : ∀ (j x : Nat), x + j = W →
    loopO (fun (q, x) => spec_l20Out_L3 list W v i y q x) (stage (fun n => decide (n < y * W + x)) (G1 i X Y W iW iH) out, (x : Int)) = some (stage (fun n => decide (n < (y + 1) * W)) (G1 i X Y W iW iH) out) := by
  have hyw : (y + 1) * W ≤ H * W := Nat.mul_le_mul_right _ hy
  have hHW : H * W ≤ 16 * 16 := Nat.mul_le_mul h2 w2
  rw [Nat.add_mul, Nat.one_mul] at hyw ⊢
  intro j
  induction j with
  | zero =>
    intro x hx
    obtain rfl : x = W := by omega
    refine loopO_inr ?_
    show spec_l20Out_L3 list x v i y _ x = _
    unfold spec_l20Out_L3
    rw [ifO_neg (by simp)]
  | succ j ih =>
    intro x hx
    have hm : y * W + x < out.length := by omega
    have hs : spec_l20Out_L3 list W v i y (stage (fun n => decide (n < y * W + x)) (G1 i X Y W iW iH) out) x = some (.inl (stage (fun n => decide (n < y * W + (x + 1))) (G1 i X Y W iW iH) out, ((x + 1 : Nat) : Int))) := by
      unfold spec_l20Out_L3
      have e : wr (wr ((y : Int) * W) + x) = ((y * W + x : Nat) : Int) := by
        rw [← Int.natCast_mul, wr_in (n := ((y * W : Nat) : Int)) (by omega) (by omega), wr_in (by omega) (by omega)]; omega
      rw [ifO_pos (by simp only [decide_eq_true_eq]; omega)]
      simp only [ht, bnd_s, tX, tY]
      rw [at_eq i X Y W H iW iH hiW hiH w1 w2 h2 iw1 iw2 ih2 hl x1 x2 y1 y2 (show x < W by omega) hy, bnd_s, e, wr_succ (by omega)]
      have hlen : y * W + x < (stage (fun n => decide (n < y * W + x)) (G1 i X Y W iW iH) out).length := by rw [stage_len]; exact hm
      have hst : ∀ n, n < out.length → n ≠ y * W + x → (if decide (n < y * W + (x + 1)) = true then G1 i X Y W iW iH n out[n]! else out[n]!) = if decide (n < y * W + x) = true then G1 i X Y W iW iH n out[n]! else out[n]! := by
        intro n _ hne
        have : decide (n < y * W + (x + 1)) = decide (n < y * W + x) := by
          rw [decide_eq_decide]; omega
        rw [this]
      by_cases h : ins X Y W iW iH (y * W + x) = true
      · rw [if_pos h, ifO_pos (by simpa using getD_pos i X Y W iW iH hl hp h), idx_lt hlen, bnd_s, s_Over, bnd_s, upd_lt hlen, bnd_s, bnd_s]
        rw [stage_at _ _ _ hm, if_neg (by simp)]
        rw [← stage_set (fun n => decide (n < y * W + x)) (fun n => decide (n < y * W + (x + 1))) (G1 i X Y W iW iH) out hm hst (by simp)]
        congr 4
        unfold G1
        rw [if_pos h]
      · rw [if_neg h, ifO_neg (by decide), bnd_s]
        congr 3
        refine stage_same _ _ _ _ fun n hn => ?_
        by_cases e : n = y * W + x
        · subst e
          rw [if_pos (by simp), if_neg (by simp)]
          unfold G1
          rw [if_neg h]
        · exact hst n hn e
    rw [@loopO_inl _ _ (fun (q, x) => spec_l20Out_L3 list W v i y q x) (_, (x : Int)) _ hs]
    exact ih (x + 1) (by omega)
theorem scanRows (list : List PlaneT) (v : Int) (t : PlaneT) (ht : idx list v = some t) (tX : t.X = X) (tY : t.Y = Y) (out : List Int) (ho : out.length = H * W) : ∀ (j y : Nat), y + j = H →
    loopO (fun (q, y) => spec_l20Out_L2 list W H v i q y) (stage (fun n => decide (n < y * W)) (G1 i X Y W iW iH) out, (y : Int)) = some (stage (fun n => decide (n < H * W)) (G1 i X Y W iW iH) out) := by
  intro j
  induction j with
  | zero =>
    intro y hy
    obtain rfl : y = H := by omega
    refine loopO_inr ?_
    show spec_l20Out_L2 list W y v i _ y = _
    unfold spec_l20Out_L2
    rw [ifO_neg (by simp)]
  | succ j ih =>
    intro y hy
    have hr := scanRow i X Y W H iW iH hiW hiH w1 w2 h2 iw1 iw2 ih2 hl hp x1 x2 y1 y2 list v t ht tX tY out ho y (by omega) W 0 (by omega)
    have hs : spec_l20Out_L2 list W H v i (stage (fun n => decide (n < y * W)) (G1 i X Y W iW iH) out) y = some (.inl (stage (fun n => decide (n < (y + 1) * W)) (G1 i X Y W iW iH) out, ((y + 1 : Nat) : Int))) := by
      unfold spec_l20Out_L2
      rw [ifO_pos (by simp only [decide_eq_true_eq]; omega), wr_succ (by omega)]
      rw [Nat.add_zero, show ((0 : Nat) : Int) = 0 from rfl] at hr
      simp only [] at hr ⊢
      rw [hr, bnd_s]
    rw [@loopO_inl _ _ (fun (q, y) => spec_l20Out_L2 list W H v i q y) (_, (y : Int)) _ hs]
    exact ih (y + 1) (by omega)
theorem scanSpec (list : List PlaneT) (v : Int) (t : PlaneT) (ht : idx list v = some t) (tX : t.X = X) (tY : t.Y = Y) (out : List Int) (ho : out.length = H * W) :
    loopO (fun (q, y) => spec_l20Out_L2 list W H v i q y) (out, 0) = some (stage (fun _ => true) (G1 i X Y W iW iH) out) := by
  have := scanRows i X Y W H iW iH hiW hiH w1 w2 h2 iw1 iw2 ih2 hl hp x1 x2 y1 y2 list v t ht tX tY out ho H 0 (by omega)
  have e1 : stage (fun n => decide (n < 0 * W)) (G1 i X Y W iW iH) out = out := by
    apply List.ext_getElem
    · simp [stage]
    · intro n h1 h2
      rw [stage_at _ _ _ h2, if_neg (by simp)]
  have e2 : stage (fun n => decide (n < H * W)) (G1 i X Y W iW iH) out = stage (fun _ => true) (G1 i X Y W iW iH) out := stage_same _ _ _ _ fun n hn => by
    rw [if_pos rfl, if_pos (by simp; omega)]
  rw [e1, e2] at this
  exact this
omit hiH hp in
theorem scanImpl (i0 : ImageT) (h0W : i0.W = W) (h0H : i0.H = H) (t : PlaneT) (tX : t.X = X) (tY : t.Y = Y) (out : List Int) (ho : out.length = H * W) : ∀ (j k : Nat), k + j = i.Data.length →
    loopO (fun (q, k) => impl_scanned_L2 i0 t i q k) (stage (fun n => decide (kx X Y W iW n < k)) (G1 i X Y W iW iH) out, (k : Int)) = some (stage (fun _ => true) (G1 i X Y W iW iH) out) := by
  have hHW : H * W ≤ 16 * 16 := Nat.mul_le_mul h2 w2
  have hiHW : iH * iW ≤ 16 * 16 := Nat.mul_le_mul ih2 iw2
  intro j
  induction j with
  | zero =>
    intro k hk
    have e : stage (fun n => decide (kx X Y W iW n < k)) (G1 i X Y W iW iH) out = stage (fun _ => true) (G1 i X Y W iW iH) out := stage_same _ _ _ _ fun n hn => by
      rw [if_pos rfl]
      by_cases h : ins X Y W iW iH n = true
      · have := kx_lt X Y W iW iH h
        rw [if_pos (by simp; omega)]
      · unfold G1; rw [if_neg h]; split <;> rfl
    rw [e]
    refine loopO_inr ?_
    show impl_scanned_L2 i0 t i _ k = _
    unfold impl_scanned_L2
    rw [ifO_neg (by simp; omega)]
  | succ j ih =>
    intro k hk
    have hlt : k < i.Data.length := by omega
    have hm : k % iW < iW := Nat.mod_lt _ (by omega)
    have hd : k / iW < iH := by rw [Nat.div_lt_iff_lt_mul (by omega)]; omega
    have hki : ∀ n, ins X Y W iW iH n = true → (kx X Y W iW n = k ↔ ax X W n = ((k % iW : Nat) : Int) ∧ ay Y W n = ((k / iW : Nat) : Int)) := fun n h => kx_iff X Y W iW iH h
    generalize hkm : k % iW = km at *
    generalize hkd : k / iW = kd at *
    have hs : impl_scanned_L2 i0 t i (stage (fun n => decide (kx X Y W iW n < k)) (G1 i X Y W iW iH) out) k = some (.inl (stage (fun n => decide (kx X Y W iW n < k + 1)) (G1 i X Y W iW iH) out, ((k + 1 : Nat) : Int))) := by
      unfold impl_scanned_L2
      rw [ifO_pos (by simp only [decide_eq_true_eq]; omega), idx_lt hlt, bnd_s, hiW, remO_of (by omega), bnd_s, quoO_of (by omega), bnd_s, ← Int.ofNat_tmod, ← Int.ofNat_tdiv, hkm, hkd, h0W, h0H, tX, tY, wr_succ (by omega)]
      rw [wr_in (n := (kd : Int)) (by omega) (by omega), wr_in (n := X + (km : Int)) (by omega) (by omega), wr_in (n := Y + (kd : Int)) (by omega) (by omega), wr_in (n := (W : Int) - 1) (by omega) (by omega), wr_in (n := (H : Int) - 1) (by omega) (by omega)]
      simp only [within_eq, bnd_s, andO_some]
      cases hw : (inR (X + (km : Int)) 0 ((W : Int) - 1) && inR (Y + (kd : Int)) 0 ((H : Int) - 1)) with
      | true =>
        rw [Bool.and_eq_true, inR_t, inR_t] at hw
        obtain ⟨⟨hx0, hx1⟩, hy0, hy1⟩ := hw
        obtain ⟨x, hx⟩ : ∃ x : Nat, X + (km : Int) = x := ⟨(X + (km : Int)).toNat, by omega⟩
        obtain ⟨y, hy⟩ : ∃ y : Nat, Y + (kd : Int) = y := ⟨(Y + (kd : Int)).toNat, by omega⟩
        have hxW : x < W := by omega
        have hyH : y < H := by omega
        have hyw : (y + 1) * W ≤ H * W := Nat.mul_le_mul_right _ hyH
        rw [Nat.add_mul, Nat.one_mul] at hyw
        have hmo : y * W + x < out.length := by omega
        obtain ⟨c1, c2⟩ := cell_of (W := W) (y := y) hxW
        have hax : ax X W (y * W + x) = (km : Int) := by unfold ax; rw [c1]; omega
        have hay : ay Y W (y * W + x) = (kd : Int) := by unfold ay; rw [c2]; omega
        have hin : ins X Y W iW iH (y * W + x) = true := by
          simp only [ins, decide_eq_true_eq, hax, hay]; omega
        have hkx : kx X Y W iW (y * W + x) = k := (hki _ hin).2 ⟨hax, hay⟩
        have e : wr (wr ((y : Int) * W) + x) = ((y * W + x : Nat) : Int) := by
          rw [← Int.natCast_mul, wr_in (n := ((y * W : Nat) : Int)) (by omega) (by omega), wr_in (by omega) (by omega)]; omega
        have hlen : y * W + x < (stage (fun n => decide (kx X Y W iW n < k)) (G1 i X Y W iW iH) out).length := by rw [stage_len]; exact hmo
        rw [hx, hy, e, ifO_true, idx_lt hlen, bnd_s, i_Over, bnd_s, upd_lt hlen, bnd_s, bnd_s, stage_at _ _ _ hmo, if_neg (by rw [hkx]; simp)]
        rw [← stage_set (fun n => decide (kx X Y W iW n < k)) (fun n => decide (kx X Y W iW n < k + 1)) (G1 i X Y W iW iH) out hmo (fun n hn hne => ?_) (by rw [hkx]; simp)]
        · congr 4
          unfold G1
          rw [if_pos hin, hkx]
          simp [hlt]
        · by_cases h : ins X Y W iW iH n = true
          · have hne2 : kx X Y W iW n ≠ k := fun he => hne (by
              obtain ⟨e1, e2⟩ := (hki _ h).1 he
              unfold ax at e1 hax
              unfold ay at e2 hay
              rw [c1] at hax
              rw [c2] at hay
              have f0 := (Nat.div_add_mod n W).symm
              generalize n % W = na at *
              generalize n / W = nb at *
              have f1 : na = x := by omega
              have f2 : nb = y := by omega
              rw [f0, f1, f2, Nat.mul_comm])
            have : decide (kx X Y W iW n < k + 1) = decide (kx X Y W iW n < k) := by rw [decide_eq_decide]; omega
            rw [this]
          · have hg : G1 i X Y W iW iH n out[n]! = out[n]! := by unfold G1; rw [if_neg h]
            rw [hg]; split <;> split <;> rfl
      | false =>
        rw [ifO_false, bnd_s]
        congr 3
        refine stage_same _ _ _ _ fun n hn => ?_
        by_cases h : ins X Y W iW iH n = true
        · have hne2 : kx X Y W iW n ≠ k := fun he => by
            obtain ⟨e1, e2⟩ := (hki _ h).1 he
            unfold ax at e1
            unfold ay at e2
            have g1 : n % W < W := Nat.mod_lt _ (by omega)
            have g2 : n / W < H := by rw [Nat.div_lt_iff_lt_mul (by omega)]; omega
            rw [Bool.and_eq_false_iff, inR_f, inR_f] at hw
            generalize n % W = na at *
            generalize n / W = nb at *
            omega
          have : decide (kx X Y W iW n < k + 1) = decide (kx X Y W iW n < k) := by rw [decide_eq_decide]; omega
          rw [this]
        · have hg : G1 i X Y W iW iH n out[n]! = out[n]! := by unfold G1; rw [if_neg h]
          rw [hg]; split <;> split <;> rfl
    rw [@loopO_inl _ _ (fun (q, k) => impl_scanned_L2 i0 t i q k) (_, (k : Int)) _ hs]
    exact ih (k + 1) (by omega)
end One
noncomputable def layI (W : Nat) (X Y : Int) (i : ImageT) (out : List Int) : List Int := stage (fun _ => true) (G1 i X Y W i.W.toNat i.H.toNat) out
noncomputable def lay (W : Nat) (p : PlaneT) (out : List Int) : List Int := match spec_PlaneImage p with
  | some (i, true) => layI W p.X p.Y i out
  | _ => out
theorem planeStep (i0 : ImageT) (W H : Nat) (h0W : i0.W = W) (h0H : i0.H = H) (w1 : 1 ≤ W) (w2 : W ≤ 16) (h2 : H ≤ 16) (t : PlaneT) (hw : t.Words.length ≤ 1048576)
    (hxy : ∀ i, spec_PlaneImage t = some (i, true) → inR t.X (-32) 32 = true ∧ inR t.Y (-32) 32 = true) (out : List Int) (ho : out.length = H * W) (hpx : ∀ p ∈ out, pixOk p = true) :
    ∃ r, r = lay W t out ∧ (r.length = H * W ∧ ∀ p ∈ r, pixOk p = true) ∧ (∀ list v, idx list v = some t → spec_l20Out_L0 list W H out v = some (.inl (r, wr (v + 1)))) ∧ (∀ list v, idx list v = some t → impl_scanned_L0 i0 list out v = some (.inl (r, wr (v + 1)))) := by
  obtain ⟨i, b, e1, e2, e3, e4⟩ := PlaneImage_eq t hw
  cases b with
  | false =>
    refine ⟨out, by unfold lay; rw [e1], ⟨ho, hpx⟩, fun list v hv => ?_, fun list v hv => ?_⟩
    · unfold spec_l20Out_L0
      rw [ifO_pos (by simpa using (idx_some hv).2.1), hv]
      simp only [bnd_s, e1, Bool.not_false, ifO_true]
    · unfold impl_scanned_L0
      rw [ifO_pos (by simpa using (idx_some hv).2.1), hv]
      simp only [bnd_s, e2, Bool.not_false, ifO_true]
  | true =>
    obtain ⟨hx, hy⟩ := hxy i e1
    rw [inR_t] at hx hy
    obtain ⟨⟨iw1, iw2⟩, ⟨ih1, ih2⟩, hd, hp⟩ := (e4 rfl).1
    obtain ⟨iW, hiW⟩ : ∃ n : Nat, i.W = n := ⟨i.W.toNat, by omega⟩
    obtain ⟨iH, hiH⟩ : ∃ n : Nat, i.H = n := ⟨i.H.toNat, by omega⟩
    have hl : i.Data.length = iH * iW := by
      rw [hiW, hiH, ← Int.natCast_mul, Nat.mul_comm] at hd
      omega
    have s1 := fun list v hv => scanSpec i t.X t.Y W H iW iH hiW hiH w1 w2 h2 (by omega) (by omega) (by omega) hl hp hx.1 hx.2 hy.1 hy.2 list v t hv rfl rfl out ho
    have s2 := scanImpl i t.X t.Y W H iW iH hiW w1 w2 h2 (by omega) (by omega) (by omega) hl hx.1 hx.2 hy.1 hy.2 i0 h0W h0H t rfl rfl out ho i.Data.length 0 (by omega)
    have e0 : stage (fun n => decide (kx t.X t.Y W iW n < 0)) (G1 i t.X t.Y W iW iH) out = out := by
      apply List.ext_getElem
      · simp [stage]
      · intro n h1 h2
        rw [stage_at _ _ _ h2, if_neg (by simp)]
    rw [e0, show ((0 : Nat) : Int) = 0 from rfl] at s2
    refine ⟨stage (fun _ => true) (G1 i t.X t.Y W iW iH) out, by
      have q1 : i.W.toNat = iW := by omega
      have q2 : i.H.toNat = iH := by omega
      unfold lay; rw [e1]; simp only [layI, q1, q2], ⟨by rw [stage_len]; exact ho, fun p hpm => ?_⟩, fun list v hv => ?_, fun list v hv => ?_⟩
    · obtain ⟨n, hn, rfl⟩ := List.mem_iff_getElem.1 hpm
      have hn' : n < out.length := by rw [stage_len] at hn; exact hn
      rw [stage_at _ _ _ hn', if_pos rfl]
      unfold G1
      split
      · rename_i h
        exact ov_pix (getD_pix i t.X t.Y W iW iH hl hp h) (hpx _ (List.getElem_mem hn'))
      · exact hpx _ (List.getElem_mem hn')
    · have := s1 list v hv
      simp only [] at this
      unfold spec_l20Out_L0
      rw [ifO_pos (by simpa using (idx_some hv).2.1), hv]
      simp only [bnd_s, e1, Bool.not_true, ifO_false, this]
    · simp only [] at s2
      unfold impl_scanned_L0
      rw [ifO_pos (by simpa using (idx_some hv).2.1), hv]
      simp only [bnd_s, e2, Bool.not_true, ifO_false, s2]
theorem scanned_lay (p q r s : PlaneT) (w h : Int) (hs : smPlaneS [p, q, r, s]) (hg : goodPlanes [p, q, r, s] w h) : ∃ (W H : Nat) (i : ImageT), w = W ∧ h = H ∧ (1 ≤ W ∧ W ≤ 16) ∧ (1 ≤ H ∧ H ≤ 16) ∧ spec_PlaneImage p = some (i, true) ∧ i.Data.length = H * W ∧ (lay W s (lay W r (lay W q i.Data))).length = H * W ∧ spec_l20Out [p, q, r, s] w h = some (ImageT.mk w h (lay W s (lay W r (lay W q i.Data)))) ∧ impl_scanned [p, q, r, s] = some (ImageT.mk w h (lay W s (lay W r (lay W q i.Data)))) ∧ ∀ p ∈ lay W s (lay W r (lay W q i.Data)), pixOk p = true := by
  obtain ⟨p', q', r', s', hpq, hxy, ⟨w1, w2⟩, ⟨h1, h2⟩, i, e1, e2, ⟨_, _, hd, hpx⟩, iW, iH⟩ := hg
  obtain ⟨rfl, rfl, rfl, rfl⟩ : p = p' ∧ q = q' ∧ r = r' ∧ s = s' := by simpa using hpq
  obtain ⟨W, hW⟩ : ∃ n : Nat, w = n := ⟨w.toNat, by omega⟩
  obtain ⟨H, hH⟩ : ∃ n : Nat, h = n := ⟨h.toNat, by omega⟩
  have hl : i.Data.length = H * W := by
    rw [iW, iH, hW, hH, ← Int.natCast_mul, Nat.mul_comm] at hd
    omega
  have sm : ∀ x ∈ [p, q, r, s], x.Words.length ≤ 1048576 := hs.2
  obtain ⟨d1, k1, l1, s1, i1⟩ := planeStep i W H (iW.trans hW) (iH.trans hH) (by omega) (by omega) (by omega) q (sm q (by simp)) (hxy q (by simp)) i.Data hl hpx
  obtain ⟨d2, k2, l2, s2, i2⟩ := planeStep i W H (iW.trans hW) (iH.trans hH) (by omega) (by omega) (by omega) r (sm r (by simp)) (hxy r (by simp)) d1 l1.1 l1.2
  obtain ⟨d3, k3, l3, s3, i3⟩ := planeStep i W H (iW.trans hW) (iH.trans hH) (by omega) (by omega) (by omega) s (sm s (by simp)) (hxy s (by simp)) d2 l2.1 l2.2
  have w01 : wr (0 + 1) = 1 := by rw [wr_in (by omega) (by omega)]; rfl
  have w12 : wr (1 + 1) = 2 := by rw [wr_in (by omega) (by omega)]; rfl
  have w23 : wr (2 + 1) = 3 := by rw [wr_in (by omega) (by omega)]; rfl
  have w34 : wr (3 + 1) = 4 := by rw [wr_in (by omega) (by omega)]; rfl
  have t1 := s1 [p, q, r, s] 1 rfl
  have t2 := s2 [p, q, r, s] 2 rfl
  have t3 := s3 [p, q, r, s] 3 rfl
  have j1 := i1 [q, r, s] 0 rfl
  have j2 := i2 [q, r, s] 1 rfl
  have j3 := i3 [q, r, s] 2 rfl
  rw [w12] at t1 j2
  rw [w23] at t2 j3
  rw [w34] at t3
  rw [w01] at j1
  have rs : loopO (fun x => spec_l20Out_L0 [p, q, r, s] w h x.1 x.2) (i.Data, 1) = some d3 := by
    rw [hW, hH]
    rw [loopO_inl (f := fun x => spec_l20Out_L0 [p, q, r, s] W H x.1 x.2) (s := (i.Data, 1)) t1]
    rw [loopO_inl (f := fun x => spec_l20Out_L0 [p, q, r, s] W H x.1 x.2) (s := (d1, 2)) t2]
    rw [loopO_inl (f := fun x => spec_l20Out_L0 [p, q, r, s] W H x.1 x.2) (s := (d2, 3)) t3]
    exact loopO_inr rfl
  have ri : loopO (fun x => impl_scanned_L0 i [q, r, s] x.1 x.2) (i.Data, 0) = some d3 := by
    rw [loopO_inl (f := fun x => impl_scanned_L0 i [q, r, s] x.1 x.2) (s := (i.Data, 0)) j1]
    rw [loopO_inl (f := fun x => impl_scanned_L0 i [q, r, s] x.1 x.2) (s := (d1, 1)) j2]
    rw [loopO_inl (f := fun x => impl_scanned_L0 i [q, r, s] x.1 x.2) (s := (d2, 2)) j3]
    exact loopO_inr rfl
  have es : subO [p, q, r, s] 1 ([p, q, r, s].length : Int) = some [q, r, s] := rfl
  have ip : idx [p, q, r, s] 0 = some p := rfl
  have k4 : lay W s (lay W r (lay W q i.Data)) = d3 := by rw [k3, k2, k1]
  refine ⟨W, H, i, hW, hH, by omega, by omega, e1, hl, ?_, ?_, ?_, ?_⟩
  · rw [k4]; exact l3.1
  · rw [k4]
    unfold spec_l20Out
    simp only [ip, bnd_s, e1]
    rw [rs, bnd_s, iW, iH]
  · rw [k4]
    unfold impl_scanned
    simp only [ip, bnd_s, e2]
    rw [es, bnd_s, ri, bnd_s, iW, iH]
  · rw [k4]; exact l3.2
theorem scanned_eq (list : List PlaneT) (w h : Int) (hs : smPlaneS list) (hg : goodPlanes list w h) : ∃ (W H : Nat) (d : List Int), w = W ∧ h = H ∧ (1 ≤ W ∧ W ≤ 16) ∧ (1 ≤ H ∧ H ≤ 16) ∧ d.length = H * W ∧ spec_l20Out list w h = some (ImageT.mk w h d) ∧ impl_scanned list = some (ImageT.mk w h d) ∧ ∀ p ∈ d, pixOk p = true := by
  obtain ⟨p, q, r, s, rfl, _⟩ := id hg
  obtain ⟨W, H, i, a1, a2, a3, a4, _, _, a5, a6, a7, a8⟩ := scanned_lay p q r s w h hs hg
  exact ⟨W, H, _, a1, a2, a3, a4, a5, a6, a7, a8⟩
end Go.Proofs.Ytbdpbboonilhhaa
