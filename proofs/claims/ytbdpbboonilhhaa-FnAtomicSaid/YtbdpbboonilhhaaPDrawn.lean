/- Planes that are drawn are valid. -/
import Derived.Test.YtbdpbboonilhhaaPDraw
import Derived.Test.YtbdpbboonilhhaaPOr
import Derived.Test.YtbdpbboonilhhaaPRound
import Derived.Test.YtbdpbboonilhhaaPPlaneOk
namespace Go.Proofs.Ytbdpbboonilhhaa
open Go.RowKit K
theorem Fade_255 {p : Int} (hp : pixOk p = true) : spec_Fade p 255 = some p := by
  have hp' := inR_t.1 hp
  have hp2 := hp
  unfold pixOk at hp2
  obtain ⟨n, rfl⟩ : ∃ n : Nat, p = n := ⟨p.toNat, by omega⟩
  have e0 : inR 0 0 3 = true := rfl
  have e255 : inR 255 0 255 = true := rfl
  simp only [spec_Fade, l04Pixel_eq, l01In_eq, hp2, e255, bnd_s, orO_some, spec_ChannelOf, e0, shr24]
  rw [ifO_neg (by rfl), ifO_neg (by rfl), bnd_s, shr24_nat]
  have hc : n / 16777216 ≤ 255 := by omega
  have ha : and64 ((n / 16777216 : Nat) : Int) 255 = ((n / 16777216 : Nat) : Int) := by
    have := and64_nat (n := n / 16777216) (m := 255) (by omega) (by omega)
    have h2 : n / 16777216 &&& 255 = n / 16777216 := by
      rw [show (255 : Nat) = 2 ^ 8 - 1 from rfl, Nat.and_two_pow_sub_one_eq_mod, Nat.mod_eq_of_lt (by omega)]
    rw [h2] at this
    exact this
  rw [ha, (Part_eq (a := ((n / 16777216 : Nat) : Int)) (b := 255) (by omega) (by omega) (by omega) (by omega)).1, bnd_s]
  have hpart : part ((n / 16777216 : Nat) : Int) 255 = ((n / 16777216 : Nat) : Int) := by
    unfold part; omega
  rw [hpart]
  have hm : and64 (n : Int) 16777215 = ((n % 16777216 : Nat) : Int) := by
    have := and64_nat (n := n) (m := 16777215) (by omega) (by omega)
    rw [show (16777215 : Nat) = 2 ^ 24 - 1 from rfl, Nat.and_two_pow_sub_one_eq_mod] at this
    exact this
  have hs : shl ((n / 16777216 : Nat) : Int) 24 = ((n / 16777216 * 16777216 : Nat) : Int) := by
    unfold shl
    have e : (2 : Int) ^ (min (Int.toNat 24) 64) = 16777216 := rfl
    rw [e, wr_in (by omega) (by omega)]
    omega
  rw [hm, hs, wr_in (by omega) (by omega)]
  congr 1
  omega
theorem OrientPoint_0 {W H : Nat} (w1 : 1 ≤ W) (w2 : W ≤ 16) (h1 : 1 ≤ H) (h2 : H ≤ 16) {x y : Nat} (hx : x < W) (hy : y < H) : impl_OrientPoint W H 0 x y = some ((x : Int), (y : Int)) := by
  have a : inR (W : Int) 1 16 = true := inR_t.2 (by omega)
  have b : inR (H : Int) 1 16 = true := inR_t.2 (by omega)
  have c : inR (x : Int) 0 (wr ((W : Int) - 1)) = true := by rw [wr_in (by omega) (by omega)]; exact inR_t.2 (by omega)
  have d : inR (y : Int) 0 (wr ((H : Int) - 1)) = true := by rw [wr_in (by omega) (by omega)]; exact inR_t.2 (by omega)
  have o : inR 0 0 7 = true := rfl
  simp only [impl_OrientPoint, isSide_eq, isOr, within_eq, a, b, c, d, o, bnd_s, orO_some]
  rw [ifO_neg (by rfl), ifO_neg (by decide)]
  have : loopO (fun (q : Int × Int × Int × Int × Int) => impl_OrientPoint_L1 0 q.1 q.2.1 q.2.2.1 q.2.2.2.1 q.2.2.2.2) ((W : Int), (H : Int), (x : Int), (y : Int), 0) = some ((x : Int), (y : Int)) := loopO_inr rfl
  rw [this]; rfl
theorem Oriented_0 {i : ImageT} (hi : imgOk i = true) : spec_Oriented i 0 = some i := by
  have hle := imgOk_le hi
  obtain ⟨r, e1, e2, _⟩ := Oriented_eq i 0 (by omega)
  rw [e1, ← e2]
  obtain ⟨⟨w1, w2⟩, ⟨h1, h2⟩, hd, hpx⟩ := imgOk_in hi
  obtain ⟨W, hW⟩ : ∃ n : Nat, i.W = n := ⟨i.W.toNat, by omega⟩
  obtain ⟨H, hH⟩ : ∃ n : Nat, i.H = n := ⟨i.H.toNat, by omega⟩
  have hl : i.Data.length = H * W := by
    rw [hW, hH, ← Int.natCast_mul, Nat.mul_comm] at hd
    omega
  have hHW : H * W ≤ 16 * 16 := Nat.mul_le_mul (by omega) (by omega)
  have o : inR 0 0 7 = true := rfl
  have hsz := OrientSize_eq (W := W) (H := H) (o := 0) (by omega) (by omega) (by omega) (by omega) o
  have ew : oW W H 0 = W := rfl
  have eh : oH W H 0 = H := rfl
  rw [ew, eh] at hsz
  simp only [impl_Oriented, i_ImageOk i (by omega), hi, isOr, o, bnd_s, orO_some, ← OrientSize_same, hW, hH, hsz]
  rw [ifO_neg (by rfl), wrWH (by omega) (by omega), mkO_nat (by omega), bnd_s, ← hl]
  have hf := fillLoop (L := fun q => impl_Oriented_L0 i 0 W q.1 q.2) i.Data id 0 (by omega) (fun k hk out ho => by
    show impl_Oriented_L0 i 0 W out k = _
    have hm : (k : Int).tmod i.W = ((k % W : Nat) : Int) := by rw [hW, ← Int.ofNat_tmod]
    have hq : (k : Int).tdiv i.W = ((k / W : Nat) : Int) := by rw [hW, ← Int.ofNat_tdiv]
    have hx : k % W < W := Nat.mod_lt _ (by omega)
    have hy : k / W < H := by rw [Nat.div_lt_iff_lt_mul (by omega)]; omega
    have hk2 : k / W * W + k % W = k := by rw [Nat.mul_comm]; exact Nat.div_add_mod k W
    have e : wr (wr (((k / W : Nat) : Int) * W) + ((k % W : Nat) : Int)) = (k : Int) := by
      generalize k / W = b at *
      generalize k % W = a at *
      rw [← Int.natCast_mul, wr_in (n := ((b * W : Nat) : Int)) (by omega) (by omega), wr_in (by omega) (by omega)]; omega
    unfold impl_Oriented_L0
    rw [ifO_pos (by simpa using hk), idx_lt hk, bnd_s, remO_of (by omega), bnd_s, quoO_of (by omega), bnd_s, hm, hq, wr_in (n := ((k / W : Nat) : Int)) (by generalize k / W = b at *; omega) (by generalize k / W = b at *; omega), hW, hH, OrientPoint_0 (by omega) (by omega) (by omega) (by omega) hx hy]
    simp only [bnd_s, e]
    rw [upd_lt (by omega)]; rfl) (fun out => by
    show impl_Oriented_L0 i 0 W out _ = _
    unfold impl_Oriented_L0
    rw [ifO_neg (by simp)])
  rw [List.map_id] at hf
  rw [hf, bnd_s, ← hW, ← hH]
theorem PlaneOf_ok {i : ImageT} {x y lay : Int} (hi : imgOk i = true) (hlay : inR lay 0 2 = true) : ∃ w, spec_PlaneOf i x y lay = some (PlaneT.mk true x y i.W i.H lay w 255 0 0 0) ∧ w.length ≤ 512 ∧ spec_LoadImage w i.W i.H lay = some (i, true) := by
  obtain ⟨w, e1, e2, e3⟩ := Load_Store i lay hi hlay
  refine ⟨w, ?_, e3, e2⟩
  simp only [spec_PlaneOf, e1, bnd_s]
  rfl
theorem show_ok {p : PlaneT} {i : ImageT} (hon : p.On = true) (hi : imgOk i = true) (hl : spec_LoadImage p.Words p.W p.H p.Layout = some (i, true)) (ha : inR p.Alpha 0 255 = true) (ho : inR p.Orient 0 7 = true)
    (hs : (p.ToW = 0 ∧ p.ToH = 0) ∨ (inR p.ToW 1 16 = true ∧ inR p.ToH 1 16 = true)) : ∃ j, spec_PlaneImage p = some (j, true) ∧ (p.Orient = 0 → p.ToW = 0 → p.ToH = 0 → p.Alpha = 255 → j = i) := by
  have hle := imgOk_le hi
  obtain ⟨r, o1, _, o3, _, o5⟩ := Oriented_eq i p.Orient (by omega)
  have hr := o5 hi ho
  have fade : ∀ (q : ImageT) (L : List Int × Int → Option ((List Int × Int) ⊕ List Int)), q.Data.length ≤ 256 → (∀ v k, L (v, k) = ifO (decide (k < (v.length : Int))) (Option.bind (idx v k) fun x => Option.bind (spec_Fade x p.Alpha) fun y => Option.bind (upd v k y) fun q => some (.inl (q, wr (k + 1)))) (some (.inr v))) →
      ∃ d, loopO L (q.Data, 0) = some d ∧ (p.Alpha = 255 → imgOk q = true → d = q.Data) := by
    intro q L hq hL
    obtain ⟨f, hf⟩ : ∃ f : Int → Int, ∀ x, spec_Fade x p.Alpha = some (f x) := ⟨fun x => Classical.choose (Fade_eq x p.Alpha), fun x => (Classical.choose_spec (Fade_eq x p.Alpha)).1⟩
    refine ⟨q.Data.map f, ?_, fun h255 hqq => ?_⟩
    · refine mapLoop q.Data f (fun k out hk he => ?_) (fun out he => ?_)
      · rw [hL, ifO_pos (by simpa using hk), idx_lt hk, bnd_s, hf, bnd_s, upd_lt hk, bnd_s, wr_succ (by omega)]
      · rw [hL, ifO_neg (by simp; omega)]
    · have hp := (imgOk_in hqq).2.2.2
      refine (List.map_congr_left fun x hx => ?_).trans (List.map_id q.Data)
      have := hf x
      rw [h255, Fade_255 (hp x hx)] at this
      exact (Option.some.inj this).symm
  simp only [spec_PlaneImage, spec_l19Loaded, hon, Bool.not_true, ifO_false, hl, bnd_s, l01In_eq, ha, orO_some, Bool.or_false, o1]
  rcases hs with ⟨t1, t2⟩ | ⟨t1, t2⟩
  · have hsc : ((!decide (p.ToW = 0)) || (!decide (p.ToH = 0))) = false := by rw [t1, t2]; rfl
    obtain ⟨d, f1, f2⟩ := fade r (fun q => spec_PlaneImage_L1 p q.1 q.2) o3 (fun _ _ => rfl)
    rw [hsc, ifO_false, s_ImageOk r (by omega), bnd_s, hr, Bool.not_true, ifO_false, f1, bnd_s]
    refine ⟨_, rfl, fun z0 _ _ z3 => ?_⟩
    have hri : r = i := by
      rw [z0, Oriented_0 hi] at o1
      exact (Option.some.inj o1).symm
    rw [f2 z3 hr, hri]
  · have hsc : ((!decide (p.ToW = 0)) || (!decide (p.ToH = 0))) = true := by
      have := inR_t.1 t1
      simp; omega
    obtain ⟨s, s1, _, s3, s4⟩ := Scaled_eq r p.ToW p.ToH (by omega)
    have hsok := s4 hr t1 t2
    obtain ⟨d, f1, f2⟩ := fade s (fun q => spec_PlaneImage_L0 p q.1 q.2) s3 (fun _ _ => rfl)
    rw [hsc, ifO_true, s1, bnd_s, s_ImageOk s (by omega), bnd_s, hsok, Bool.not_true, ifO_false, f1, bnd_s]
    refine ⟨_, rfl, fun _ z1 _ _ => ?_⟩
    have := inR_t.1 t1
    omega
end Go.Proofs.Ytbdpbboonilhhaa
