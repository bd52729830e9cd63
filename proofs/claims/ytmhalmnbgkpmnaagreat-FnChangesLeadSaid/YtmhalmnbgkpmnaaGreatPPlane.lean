/- An image laid in words: rows, tiles, runs. -/
import Derived.Test.YtmhalmnbgkpmnaaGreatPImage
import Derived.Test.YtmhalmnbgkpmnaaGreatPImgs
namespace Go.Proofs.YtmhalmnbgkpmnaaGreat
open Go.RowKit K
theorem upd_of {xs : List Int} {i : Int} (h0 : 0 ≤ i) (h1 : i < xs.length) (v : Int) : upd xs i v = some (xs.set i.toNat v) := if_pos ⟨h0, h1⟩
theorem rowsLoop {σ : Type} {S I : σ × Int → Option ((σ × Int) ⊕ σ)} (W H : Nat) (hH : H ≤ 16) (Inv : Nat → σ → Prop) (row : Nat → σ → Option σ)
    (hrow : ∀ y, y < H → ∀ o, Inv y o → ∃ o', row y o = some o' ∧ Inv (y + 1) o' ∧ loopO I (o, ((y * W : Nat) : Int)) = loopO I (o', (((y + 1) * W : Nat) : Int)))
    (hS : ∀ y, y < H → ∀ o, S (o, (y : Int)) = Option.bind (row y o) fun o' => some (.inl (o', wr ((y : Int) + 1))))
    (hSe : ∀ o, S (o, (H : Int)) = some (.inr o)) (hIe : ∀ o, I (o, ((H * W : Nat) : Int)) = some (.inr o)) :
    ∀ (j y : Nat) (o : σ), y + j = H → Inv y o → ∃ r, loopO S (o, (y : Int)) = some r ∧ loopO I (o, ((y * W : Nat) : Int)) = some r ∧ Inv H r := by
  intro j
  induction j with
  | zero =>
    intro y o hy hi
    have : y = H := by omega
    subst this
    exact ⟨o, loopO_inr (hSe o), loopO_inr (hIe o), hi⟩
  | succ j ih =>
    intro y o hy hi
    obtain ⟨o', h1, h2, h3⟩ := hrow y (by omega) o hi
    have hs := hS y (by omega) o
    rw [h1, bnd_s, wr_succ (by omega)] at hs
    rw [loopO_inl hs, h3]
    exact ih (y + 1) o' (by omega) h2
section Img
variable (i : ImageT) (W H : Nat) (hW : i.W = W) (hH : i.H = H) (w1 : 1 ≤ W) (w2 : W ≤ 16) (h1 : 1 ≤ H) (h2 : H ≤ 16) (hl : i.Data.length = H * W)
include hW hH w1 w2 h1 h2 hl
omit hH h1 in
theorem runEnd (y x : Nat) (hy : y < H) (hx : x < W) : ∀ (j v : Nat), x + v + j = W → 1 ≤ v → ∃ r, v ≤ r ∧ x + r ≤ W ∧ loopO (fun v => spec_StoreImage_L2 i y x v) (v : Int) = some (r : Int)
    ∧ loopO (fun e => impl_runsOf_L1 i ((y * W + x : Nat) : Int) e) ((y * W + x + v : Nat) : Int) = some ((y * W + x + r : Nat) : Int) := by
  have hyw : (y + 1) * W ≤ H * W := Nat.mul_le_mul_right _ hy
  have hHW : H * W ≤ 16 * 16 := Nat.mul_le_mul h2 w2
  rw [Nat.add_mul, Nat.one_mul] at hyw
  have e0 : (y : Int) * i.W = ((y * W : Nat) : Int) := by rw [hW, Int.natCast_mul]
  intro j
  induction j with
  | zero =>
    intro v hv h1v
    refine ⟨v, Nat.le_refl _, by omega, loopO_inr ?_, loopO_inr ?_⟩
    · show spec_StoreImage_L2 i y x v = _
      unfold spec_StoreImage_L2
      rw [wr_in (n := (x : Int) + v) (by omega) (by omega)]
      have : decide ((x : Int) + v < i.W) = false := by rw [hW]; simp; omega
      rw [this]; rfl
    · show impl_runsOf_L1 i _ _ = _
      unfold impl_runsOf_L1
      have hm : ((y * W + x + v : Nat) : Int).tmod i.W = 0 := by
        rw [hW, show y * W + x + v = (y + 1) * W by rw [Nat.add_mul]; omega, ← Int.ofNat_tmod]
        simp
      rw [remO_of (by omega), bnd_s, hm]; rfl
  | succ j ih =>
    intro v hv h1v
    have hk : y * W + x < i.Data.length := by omega
    have hkv : y * W + x + v < i.Data.length := by omega
    have hs : spec_StoreImage_L2 i y x v = ifO (decide (i.Data[y * W + x + v] = i.Data[y * W + x])) (some (.inl ((v + 1 : Nat) : Int))) (some (.inr (v : Int))) := by
      unfold spec_StoreImage_L2
      have hc : decide ((x : Int) + v < i.W) = true := by rw [hW]; simp; omega
      have a1 : wr (wr (wr ((y : Int) * i.W) + x) + v) = ((y * W + x + v : Nat) : Int) := by
        rw [e0, wr_in (n := ((y * W : Nat) : Int)) (by omega) (by omega), wr_in (n := ((y * W : Nat) : Int) + x) (by omega) (by omega), wr_in (by omega) (by omega)]; omega
      have a2 : wr (wr ((y : Int) * i.W) + x) = ((y * W + x : Nat) : Int) := by
        rw [e0, wr_in (n := ((y * W : Nat) : Int)) (by omega) (by omega), wr_in (by omega) (by omega)]; omega
      rw [wr_in (n := (x : Int) + v) (by omega) (by omega), hc, a1, a2, idx_lt hkv, idx_lt hk, wr_succ (by omega)]
      rfl
    have hi : impl_runsOf_L1 i ((y * W + x : Nat) : Int) ((y * W + x + v : Nat) : Int) = ifO (decide (i.Data[y * W + x + v] = i.Data[y * W + x])) (some (.inl ((y * W + x + (v + 1) : Nat) : Int))) (some (.inr ((y * W + x + v : Nat) : Int))) := by
      unfold impl_runsOf_L1
      have hm : ((y * W + x + v : Nat) : Int).tmod i.W = ((x + v : Nat) : Int) := by
        rw [hW, ← Int.ofNat_tmod, Nat.add_assoc, Nat.mul_comm, Nat.mul_add_mod, Nat.mod_eq_of_lt (by omega)]
      have hc : (!decide (((x + v : Nat) : Int) = 0)) = true := by simp; omega
      rw [remO_of (by omega), bnd_s, hm, hc, idx_lt hkv, idx_lt hk, wr_succ (by omega)]
      rfl
    cases hd : decide (i.Data[y * W + x + v] = i.Data[y * W + x]) with
    | false =>
      rw [hd] at hs hi
      exact ⟨v, Nat.le_refl _, by omega, loopO_inr hs, loopO_inr hi⟩
    | true =>
      rw [hd] at hs hi
      obtain ⟨r, r1, r2, r3, r4⟩ := ih (v + 1) (by omega) (by omega)
      refine ⟨r, by omega, r2, ?_, ?_⟩
      · rw [loopO_inl (f := fun v => spec_StoreImage_L2 i y x v) hs]; exact r3
      · rw [loopO_inl (f := fun e => impl_runsOf_L1 i ((y * W + x : Nat) : Int) e) hi]; exact r4
omit hH h1 in
theorem runRow (y : Nat) (hy : y < H) : ∀ (j x : Nat) (o : List Int), x + j = W → o.length ≤ 2 * (y * W + x) →
    ∃ o', loopO (fun (v, x) => spec_StoreImage_L1 i y v x) (o, (x : Int)) = some o' ∧ o'.length ≤ 2 * ((y + 1) * W)
      ∧ loopO (fun (o, k) => impl_runsOf_L0 i o k) (o, ((y * W + x : Nat) : Int)) = loopO (fun (o, k) => impl_runsOf_L0 i o k) (o', (((y + 1) * W : Nat) : Int)) := by
  have hyw : (y + 1) * W ≤ H * W := Nat.mul_le_mul_right _ hy
  have hHW : H * W ≤ 16 * 16 := Nat.mul_le_mul h2 w2
  rw [Nat.add_mul, Nat.one_mul] at hyw ⊢
  have e0 : (y : Int) * i.W = ((y * W : Nat) : Int) := by rw [hW, Int.natCast_mul]
  intro j
  induction j using Nat.strongRecOn with
  | _ j ih =>
    intro x o hx ho
    by_cases hj : j = 0
    · have : x = W := by omega
      subst this
      refine ⟨o, loopO_inr ?_, ho, rfl⟩
      show spec_StoreImage_L1 i y o x = _
      unfold spec_StoreImage_L1
      rw [ifO_neg (by rw [hW]; simp)]
    · obtain ⟨r, r1, r2, r3, r4⟩ := runEnd i W H hW w1 w2 h2 hl y x hy (by omega) (W - (x + 1)) 1 (by omega) (by omega)
      replace r3 : loopO (fun v => spec_StoreImage_L2 i y x v) 1 = some (r : Int) := r3
      have hk : y * W + x < i.Data.length := by omega
      have a2 : wr (wr ((y : Int) * i.W) + x) = ((y * W + x : Nat) : Int) := by
        rw [e0, wr_in (n := ((y * W : Nat) : Int)) (by omega) (by omega), wr_in (by omega) (by omega)]; omega
      have ha : app o [(r : Int), i.Data[y * W + x]] = some (o ++ [(r : Int), i.Data[y * W + x]]) := app_le (by simp only [List.length_cons, List.length_nil]; omega)
      have hs : spec_StoreImage_L1 i y o x = some (.inl (o ++ [(r : Int), i.Data[y * W + x]], ((x + r : Nat) : Int))) := by
        unfold spec_StoreImage_L1
        rw [ifO_pos (by rw [hW]; simp; omega), r3, a2, idx_lt hk]
        simp only [bnd_s, ha]
        rw [wr_in (n := (x : Int) + r) (by omega) (by omega)]; rfl
      have hi : impl_runsOf_L0 i o ((y * W + x : Nat) : Int) = some (.inl (o ++ [(r : Int), i.Data[y * W + x]], ((y * W + x + r : Nat) : Int))) := by
        unfold impl_runsOf_L0
        have er : wr (((y * W + x + r : Nat) : Int) - ((y * W + x : Nat) : Int)) = (r : Int) := by rw [wr_in (by omega) (by omega)]; omega
        rw [ifO_pos (by simp only [decide_eq_true_eq]; omega), wr_succ (by omega), r4, idx_lt hk]
        simp only [bnd_s, er, ha]
      rw [@loopO_inl _ _ (fun (v, x) => spec_StoreImage_L1 i y v x) (o, (x : Int)) _ hs, @loopO_inl _ _ (fun (o, k) => impl_runsOf_L0 i o k) (o, ((y * W + x : Nat) : Int)) _ hi]
      have := ih (W - (x + r)) (by omega) (x + r) (o ++ [(r : Int), i.Data[y * W + x]]) (by omega) (by simp only [List.length_append, List.length_cons, List.length_nil]; omega)
      rwa [← Nat.add_assoc] at this
omit h1 in
theorem runsOf_eq : ∃ r, loopO (fun (v, y) => spec_StoreImage_L0 i v y) (([] : List Int), 0) = some r ∧ impl_runsOf i = some r ∧ r.length ≤ 2 * (H * W) := by
  obtain ⟨r, r1, r2, r3⟩ := rowsLoop (S := fun (v, y) => spec_StoreImage_L0 i v y) (I := fun (o, k) => impl_runsOf_L0 i o k) W H h2 (fun y o => o.length ≤ 2 * (y * W)) (fun y o => loopO (fun (v, x) => spec_StoreImage_L1 i y v x) (o, (0 : Int)))
    (fun y hy o ho => by
      obtain ⟨o', p1, p2, p3⟩ := runRow i W H hW w1 w2 h2 hl y hy W 0 o (by omega) (by simpa using ho)
      exact ⟨o', p1, p2, by simpa using p3⟩)
    (fun y hy o => by
      show spec_StoreImage_L0 i o y = _
      unfold spec_StoreImage_L0
      rw [ifO_pos (by rw [hH]; simp; omega)])
    (fun o => by
      show spec_StoreImage_L0 i o H = _
      unfold spec_StoreImage_L0
      rw [ifO_neg (by rw [hH]; simp)])
    (fun o => by
      show impl_runsOf_L0 i o _ = _
      unfold impl_runsOf_L0
      rw [ifO_neg (by rw [hl]; simp)]) H 0 [] (by omega) (by simp)
  refine ⟨r, r1, ?_, r3⟩
  unfold impl_runsOf
  replace r2 : loopO (fun x => impl_runsOf_L0 i x.1 x.2) (([] : List Int), 0) = some r := by simpa using r2
  rw [r2]; rfl
end Img
def cnt (W H lay : Int) : Int := if lay = 0 then W * H else ((W + 3) / 4 * 4) * ((H + 3) / 4 * 4)
def plc (W lay x y : Int) : Int := if lay = 0 then y * W + x else (y / 4 * ((W + 3) / 4) + x / 4) * 16 + y % 4 * 4 + x % 4
theorem cnt_in {W H lay : Int} (w1 : 1 ≤ W) (w2 : W ≤ 16) (h1 : 1 ≤ H) (h2 : H ≤ 16) : 0 ≤ cnt W H lay ∧ cnt W H lay ≤ 256 := by
  unfold cnt
  split
  · exact mul_in (m := 16) (n := 16) (by omega) (by omega) (by omega) (by omega)
  · exact mul_in (m := 16) (n := 16) (by omega) (by omega) (by omega) (by omega)
theorem s_WordCount {W H lay : Int} (w1 : 1 ≤ W) (w2 : W ≤ 16) (h1 : 1 ≤ H) (h2 : H ≤ 16) (hy : lay = 0 ∨ lay = 1) : spec_WordCount W H lay = some (cnt W H lay) := by
  have a := inR_t.2 ⟨w1, w2⟩
  have b := inR_t.2 ⟨h1, h2⟩
  simp only [spec_WordCount, l01In_eq, a, b, bnd_s, orO_some, Bool.not_true, Bool.or_false, ifO_false]
  have c0 := cnt_in (lay := lay) w1 w2 h1 h2
  rcases hy with rfl | rfl
  · unfold cnt at *
    rw [if_pos rfl] at *
    rw [ifO_pos (by simp), wr_in (by omega) (by omega)]
  · unfold cnt at *
    rw [if_neg (by decide)] at *
    rw [ifO_neg (by simp), ifO_pos (by simp)]
    rw [wr_in (n := W + 3) (by omega) (by omega), wr_in (n := H + 3) (by omega) (by omega), Int.tdiv_eq_ediv_of_nonneg (by omega), Int.tdiv_eq_ediv_of_nonneg (by omega), wr_in (n := (W + 3) / 4) (by omega) (by omega), wr_in (n := (H + 3) / 4) (by omega) (by omega),
      wr_in (n := (W + 3) / 4 * 4) (by omega) (by omega), wr_in (n := (H + 3) / 4 * 4) (by omega) (by omega), wr_in (by omega) (by omega)]
theorem i_tiles {n : Int} (h0 : 0 ≤ n) (h1 : n ≤ 16) : impl_tilesOf n = some ((n + 3) / 4) := by
  unfold impl_tilesOf
  rw [wr_in (n := n + 4) (by omega) (by omega), wr_in (n := n + 4 - 1) (by omega) (by omega), show n + 4 - 1 = n + 3 by omega, Int.tdiv_eq_ediv_of_nonneg (by omega), wr_in (by omega) (by omega)]
theorem i_WordCount {W H lay : Int} (w1 : 1 ≤ W) (w2 : W ≤ 16) (h1 : 1 ≤ H) (h2 : H ≤ 16) (hy : lay = 0 ∨ lay = 1) : impl_WordCount W H lay = some (cnt W H lay) := by
  have a := inR_t.2 ⟨w1, w2⟩
  have b := inR_t.2 ⟨h1, h2⟩
  simp only [impl_WordCount, isSide_eq, a, b, bnd_s, orO_some, Bool.not_true, Bool.or_false, ifO_false, i_tiles (show 0 ≤ W by omega) w2, i_tiles (show 0 ≤ H by omega) h2]
  have c0 := cnt_in (lay := lay) w1 w2 h1 h2
  rcases hy with rfl | rfl
  · unfold cnt at *
    rw [if_pos rfl] at *
    rw [ifO_pos (by simp), wr_in (by omega) (by omega)]
  · have t := mul_in (a := (W + 3) / 4) (b := (H + 3) / 4) (m := 4) (n := 4) (by omega) (by omega) (by omega) (by omega)
    unfold cnt
    rw [if_neg (by decide), ifO_neg (by simp), ifO_pos (by simp)]
    have e : (W + 3) / 4 * 4 * ((H + 3) / 4 * 4) = (W + 3) / 4 * ((H + 3) / 4) * 4 * 4 := by
      rw [← Int.mul_assoc, Int.mul_right_comm ((W + 3) / 4)]
    rw [wr_in (n := (W + 3) / 4 * ((H + 3) / 4)) (by omega) (by omega), wr_in (n := (W + 3) / 4 * ((H + 3) / 4) * 4) (by omega) (by omega), wr_in (by omega) (by omega), e]
theorem plc_in {W H lay x y : Int} (w1 : 1 ≤ W) (w2 : W ≤ 16) (h1 : 1 ≤ H) (h2 : H ≤ 16) (x0 : 0 ≤ x) (x1 : x < W) (y0 : 0 ≤ y) (y1 : y < H) : 0 ≤ plc W lay x y ∧ plc W lay x y < cnt W H lay := by
  unfold plc cnt
  split
  · have a := mul_in (a := y) (b := W) (m := H - 1) (n := W) (by omega) (by omega) (by omega) (by omega)
    have e : (H - 1) * W = W * H - W := by rw [Int.sub_mul, Int.one_mul, Int.mul_comm]
    omega
  · have a := mul_in (a := y / 4) (b := (W + 3) / 4) (m := (H + 3) / 4 - 1) (n := (W + 3) / 4) (by omega) (by omega) (by omega) (by omega)
    have e : ((H + 3) / 4 - 1) * ((W + 3) / 4) = (W + 3) / 4 * ((H + 3) / 4) - (W + 3) / 4 := by rw [Int.sub_mul, Int.one_mul, Int.mul_comm]
    have e2 : (W + 3) / 4 * 4 * ((H + 3) / 4 * 4) = (W + 3) / 4 * ((H + 3) / 4) * 4 * 4 := by
      rw [← Int.mul_assoc, Int.mul_right_comm ((W + 3) / 4)]
    omega
theorem i_wordPlace {W lay x y : Int} (w1 : 1 ≤ W) (w2 : W ≤ 16) (x0 : 0 ≤ x) (x1 : x < W) (y0 : 0 ≤ y) (y1 : y < 16) (hy : lay = 0 ∨ lay = 1) : impl_wordPlace W lay x y = some (plc W lay x y) := by
  unfold impl_wordPlace plc
  rcases hy with rfl | rfl
  · have a := mul_in (a := y) (b := W) (m := 16) (n := 16) (by omega) (by omega) (by omega) (by omega)
    rw [ifO_pos (by simp), if_pos rfl, wr_in (n := y * W) (by omega) (by omega), wr_in (by omega) (by omega)]
  · have a := mul_in (a := y / 4) (b := (W + 3) / 4) (m := 4) (n := 4) (by omega) (by omega) (by omega) (by omega)
    rw [ifO_neg (by simp), if_neg (by decide), i_tiles (by omega) w2, bnd_s]
    rw [Int.tdiv_eq_ediv_of_nonneg y0, Int.tdiv_eq_ediv_of_nonneg x0, Int.tmod_eq_emod_of_nonneg y0, Int.tmod_eq_emod_of_nonneg x0]
    rw [wr_in (n := y / 4) (by omega) (by omega), wr_in (n := x / 4) (by omega) (by omega), wr_in (n := y / 4 * ((W + 3) / 4)) (by omega) (by omega)]
    rw [wr_in (n := y / 4 * ((W + 3) / 4) + x / 4) (by omega) (by omega), wr_in (n := (y / 4 * ((W + 3) / 4) + x / 4) * 4) (by omega) (by omega), wr_in (n := (y / 4 * ((W + 3) / 4) + x / 4) * 4 * 4) (by omega) (by omega)]
    rw [wr_in (n := y % 4 * 4) (by omega) (by omega), wr_in (n := (y / 4 * ((W + 3) / 4) + x / 4) * 4 * 4 + y % 4 * 4) (by omega) (by omega), wr_in (by omega) (by omega)]
    congr 1; omega
theorem s_WordPlace {W H lay x y : Int} (w1 : 1 ≤ W) (w2 : W ≤ 16) (h1 : 1 ≤ H) (h2 : H ≤ 16) (x0 : 0 ≤ x) (x1 : x < W) (y0 : 0 ≤ y) (y1 : y < H) (hy : lay = 0 ∨ lay = 1) : spec_WordPlace W H lay x y = some (plc W lay x y) := by
  have c0 := cnt_in (lay := lay) w1 w2 h1 h2
  have a1 : inR x 0 (wr (W - 1)) = true := by rw [wr_in (by omega) (by omega)]; exact inR_t.2 (by omega)
  have a2 : inR y 0 (wr (H - 1)) = true := by rw [wr_in (by omega) (by omega)]; exact inR_t.2 (by omega)
  have a3 : decide (cnt W H lay < 0) = false := by simp; omega
  simp only [spec_WordPlace, s_WordCount w1 w2 h1 h2 hy, l01In_eq, a1, a2, a3, bnd_s, orO_some, Bool.not_true, Bool.or_false, ifO_false]
  unfold plc
  rcases hy with rfl | rfl
  · have a := mul_in (a := y) (b := W) (m := 16) (n := 16) (by omega) (by omega) (by omega) (by omega)
    rw [ifO_pos (by simp), if_pos rfl, wr_in (n := y * W) (by omega) (by omega), wr_in (by omega) (by omega)]
  · have a := mul_in (a := y / 4) (b := (W + 3) / 4) (m := 4) (n := 4) (by omega) (by omega) (by omega) (by omega)
    rw [ifO_neg (by simp), if_neg (by decide), wr_in (n := W + 3) (by omega) (by omega), Int.tdiv_eq_ediv_of_nonneg (show 0 ≤ W + 3 by omega)]
    rw [Int.tdiv_eq_ediv_of_nonneg y0, Int.tdiv_eq_ediv_of_nonneg x0, Int.tmod_eq_emod_of_nonneg y0, Int.tmod_eq_emod_of_nonneg x0]
    rw [wr_in (n := (W + 3) / 4) (by omega) (by omega), wr_in (n := y / 4) (by omega) (by omega), wr_in (n := x / 4) (by omega) (by omega), wr_in (n := y / 4 * ((W + 3) / 4)) (by omega) (by omega)]
    rw [wr_in (n := y / 4 * ((W + 3) / 4) + x / 4) (by omega) (by omega), wr_in (n := (y / 4 * ((W + 3) / 4) + x / 4) * 16) (by omega) (by omega)]
    rw [wr_in (n := y % 4 * 4) (by omega) (by omega), wr_in (n := (y / 4 * ((W + 3) / 4) + x / 4) * 16 + y % 4 * 4) (by omega) (by omega), wr_in (by omega) (by omega)]
section Words
variable (i : ImageT) (W H : Nat) (lay : Int) (hW : i.W = W) (hH : i.H = H) (w1 : 1 ≤ W) (w2 : W ≤ 16) (h1 : 1 ≤ H) (h2 : H ≤ 16) (hl : i.Data.length = H * W) (hy : lay = 0 ∨ lay = 1)
include hW hH w1 w2 h1 h2 hl hy
theorem wordRow (y : Nat) (hlt : y < H) : ∀ (j x : Nat) (o : List Int), x + j = W → (o.length : Int) = cnt W H lay →
    ∃ o', loopO (fun (v, x) => spec_StoreImage_L4 i lay y v x) (o, (x : Int)) = some o' ∧ (o'.length : Int) = cnt W H lay
      ∧ loopO (fun (o, k) => impl_StoreImage_L0 i lay o k) (o, ((y * W + x : Nat) : Int)) = loopO (fun (o, k) => impl_StoreImage_L0 i lay o k) (o', (((y + 1) * W : Nat) : Int)) := by
  have hyw : (y + 1) * W ≤ H * W := Nat.mul_le_mul_right _ hlt
  have hHW : H * W ≤ 16 * 16 := Nat.mul_le_mul h2 w2
  rw [Nat.add_mul, Nat.one_mul] at hyw ⊢
  have e0 : (y : Int) * i.W = ((y * W : Nat) : Int) := by rw [hW, Int.natCast_mul]
  intro j
  induction j with
  | zero =>
    intro x o hx ho
    have : x = W := by omega
    subst this
    refine ⟨o, loopO_inr ?_, ho, rfl⟩
    show spec_StoreImage_L4 i lay y o x = _
    unfold spec_StoreImage_L4
    rw [ifO_neg (by rw [hW]; simp)]
  | succ j ih =>
    intro x o hx ho
    have hk : y * W + x < i.Data.length := by omega
    have a2 : wr (wr ((y : Int) * i.W) + x) = ((y * W + x : Nat) : Int) := by
      rw [e0, wr_in (n := ((y * W : Nat) : Int)) (by omega) (by omega), wr_in (by omega) (by omega)]; omega
    have hp := plc_in (W := W) (H := H) (lay := lay) (x := x) (y := y) (by omega) (by omega) (by omega) (by omega) (by omega) (by omega) (by omega) (by omega)
    have hu : upd o (plc W lay x y) i.Data[y * W + x] = some (o.set (plc W lay x y).toNat i.Data[y * W + x]) := upd_of hp.1 (by omega) _
    have hs : spec_StoreImage_L4 i lay y o x = some (.inl (o.set (plc W lay x y).toNat i.Data[y * W + x], ((x + 1 : Nat) : Int))) := by
      unfold spec_StoreImage_L4
      rw [ifO_pos (by rw [hW]; simp; omega), a2, idx_lt hk, hW, hH, s_WordPlace (by omega) (by omega) (by omega) (by omega) (by omega) (by omega) (by omega) (by omega) hy]
      simp only [bnd_s, hu]
      rw [wr_succ (by omega)]
    have hi : impl_StoreImage_L0 i lay o ((y * W + x : Nat) : Int) = some (.inl (o.set (plc W lay x y).toNat i.Data[y * W + x], ((y * W + (x + 1) : Nat) : Int))) := by
      unfold impl_StoreImage_L0
      have hm : ((y * W + x : Nat) : Int).tmod i.W = (x : Int) := by
        rw [hW, ← Int.ofNat_tmod, Nat.mul_comm, Nat.mul_add_mod, Nat.mod_eq_of_lt (by omega)]
      have hq : ((y * W + x : Nat) : Int).tdiv i.W = (y : Int) := by
        rw [hW, ← Int.ofNat_tdiv, Nat.mul_comm, Nat.mul_add_div (by omega), Nat.div_eq_of_lt (by omega), Nat.add_zero]
      rw [ifO_pos (by simp only [decide_eq_true_eq]; omega), idx_lt hk, remO_of (by omega), quoO_of (by omega), hm, hq]
      simp only [bnd_s]
      rw [wr_in (n := (y : Int)) (by omega) (by omega), hW, i_wordPlace (by omega) (by omega) (by omega) (by omega) (by omega) (by omega) hy, bnd_s, hu, bnd_s, wr_succ (by omega)]
      rfl
    rw [@loopO_inl _ _ (fun (v, x) => spec_StoreImage_L4 i lay y v x) (o, (x : Int)) _ hs, @loopO_inl _ _ (fun (o, k) => impl_StoreImage_L0 i lay o k) (o, ((y * W + x : Nat) : Int)) _ hi]
    exact ih (x + 1) _ (by omega) (by simpa using ho)
theorem words_eq (o : List Int) (ho : (o.length : Int) = cnt W H lay) : ∃ r, loopO (fun (v, y) => spec_StoreImage_L3 i lay v y) (o, 0) = some r ∧ loopO (fun (o, k) => impl_StoreImage_L0 i lay o k) (o, 0) = some r ∧ (r.length : Int) = cnt W H lay := by
  obtain ⟨r, r1, r2, r3⟩ := rowsLoop (S := fun (v, y) => spec_StoreImage_L3 i lay v y) (I := fun (o, k) => impl_StoreImage_L0 i lay o k) W H h2 (fun _ o => (o.length : Int) = cnt W H lay) (fun y o => loopO (fun (v, x) => spec_StoreImage_L4 i lay y v x) (o, (0 : Int)))
    (fun y hlt o ho => by
      obtain ⟨o', p1, p2, p3⟩ := wordRow i W H lay hW hH w1 w2 h1 h2 hl hy y hlt W 0 o (by omega) ho
      exact ⟨o', p1, p2, by simpa using p3⟩)
    (fun y hlt o => by
      show spec_StoreImage_L3 i lay o y = _
      unfold spec_StoreImage_L3
      rw [ifO_pos (by rw [hH]; simp; omega)])
    (fun o => by
      show spec_StoreImage_L3 i lay o H = _
      unfold spec_StoreImage_L3
      rw [ifO_neg (by rw [hH]; simp)])
    (fun o => by
      show impl_StoreImage_L0 i lay o _ = _
      unfold impl_StoreImage_L0
      rw [ifO_neg (by rw [hl]; simp)]) H 0 o (by omega) ho
  exact ⟨r, r1, by simpa using r2, r3⟩
end Words
theorem StoreImage_eq (i : ImageT) (lay : Int) (h : i.Data.length ≤ 1048576) : ∃ w b, spec_StoreImage i lay = some (w, b) ∧ impl_StoreImage i lay = some (w, b) ∧ w.length ≤ 512 := by
  simp only [spec_StoreImage, impl_StoreImage, s_ImageOk i h, i_ImageOk i h, l01In_eq, within_eq, bnd_s, orO_some]
  cases hc : (!imgOk i || !inR lay 0 2) with
  | true => exact ⟨[], false, rfl, rfl, by simp⟩
  | false =>
    have hc' : imgOk i = true ∧ inR lay 0 2 = true := by
      revert hc; cases imgOk i <;> cases inR lay 0 2 <;> simp
    obtain ⟨c1, c2⟩ := hc'
    unfold imgOk at c1
    simp only [Bool.and_eq_true, inR_t, decide_eq_true_eq] at c1 c2
    obtain ⟨⟨⟨⟨w1, w2⟩, h1, h2⟩, hd⟩, _⟩ := c1
    obtain ⟨W, hW⟩ : ∃ W : Nat, i.W = W := ⟨i.W.toNat, by omega⟩
    obtain ⟨H, hH⟩ : ∃ H : Nat, i.H = H := ⟨i.H.toNat, by omega⟩
    have w1' : 1 ≤ W := by omega
    have w2' : W ≤ 16 := by omega
    have h1' : 1 ≤ H := by omega
    have h2' : H ≤ 16 := by omega
    have hHW : H * W ≤ 16 * 16 := Nat.mul_le_mul h2' w2'
    have hl : i.Data.length = H * W := by
      have e : i.W * i.H = ((H * W : Nat) : Int) := by rw [hW, hH, Nat.mul_comm, Int.natCast_mul]
      rw [e, wr_in (by omega) (by omega)] at hd
      omega
    rw [ifO_false, ifO_false]
    by_cases hr : lay = 2
    · rw [ifO_pos (by simpa using hr), ifO_pos (by simpa using hr)]
      obtain ⟨r, r1, r2, r3⟩ := runsOf_eq i W H hW hH w1' w2' h2' hl
      replace r1 : loopO (fun x => spec_StoreImage_L0 i x.1 x.2) (([] : List Int), 0) = some r := r1
      exact ⟨r, true, by rw [r1]; rfl, by rw [r2]; rfl, by omega⟩
    · have hy : lay = 0 ∨ lay = 1 := by omega
      rw [ifO_neg (by simpa using hr), ifO_neg (by simpa using hr), hW, hH, s_WordCount (by omega) (by omega) (by omega) (by omega) hy, i_WordCount (by omega) (by omega) (by omega) (by omega) hy]
      have c0 := cnt_in (W := W) (H := H) (lay := lay) (by omega) (by omega) (by omega) (by omega)
      rw [bnd_s, bnd_s, mkO_of c0.1 (by omega), bnd_s, bnd_s]
      obtain ⟨r, r1, r2, r3⟩ := words_eq i W H lay hW hH w1' w2' h1' h2' hl hy (List.replicate (cnt W H lay).toNat 0) (by simp; omega)
      replace r1 : loopO (fun x => spec_StoreImage_L3 i lay x.1 x.2) (List.replicate (cnt W H lay).toNat 0, 0) = some r := r1
      replace r2 : loopO (fun x => impl_StoreImage_L0 i lay x.1 x.2) (List.replicate (cnt W H lay).toNat 0, 0) = some r := r2
      exact ⟨r, true, by rw [r1]; rfl, by rw [r2]; rfl, by omega⟩
end Go.Proofs.YtmhalmnbgkpmnaaGreat
