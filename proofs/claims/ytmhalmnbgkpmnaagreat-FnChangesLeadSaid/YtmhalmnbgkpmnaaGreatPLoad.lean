/- Words back to an image. -/
import Derived.Test.YtmhalmnbgkpmnaaGreatPPlane
import Derived.Test.YtmhalmnbgkpmnaaGreatPImgs
import Derived.Test.YtmhalmnbgkpmnaaGreatPInts
namespace Go.Proofs.YtmhalmnbgkpmnaaGreat
open Go.RowKit K
theorem StoreImage_b {i : ImageT} {lay : Int} {w : List Int} {b : Bool} (h : i.Data.length ≤ 1048576) (e : spec_StoreImage i lay = some (w, b)) : b = true → imgOk i = true := by
  intro hb
  subst hb
  simp only [spec_StoreImage, s_ImageOk i h, l01In_eq, bnd_s, orO_some] at e
  cases hi : imgOk i with
  | true => rfl
  | false => rw [hi] at e; simp at e
theorem loadFin (W H lay : Int) (words d : List Int) (hd : d.length ≤ 1048576) : ∃ w b, spec_StoreImage (ImageT.mk W H d) lay = some (w, b) ∧ impl_StoreImage (ImageT.mk W H d) lay = some (w, b)
    ∧ spec_l05Ints w words = some (eqInts w words) ∧ slices_Equal_S_int_int w words = some (eqInts w words) ∧ (b = true → imgOk (ImageT.mk W H d) = true) := by
  obtain ⟨w, b, e1, e2, e3⟩ := StoreImage_eq (ImageT.mk W H d) lay hd
  exact ⟨w, b, e1, e2, s_Ints w words (by omega), i_Ints w words (by omega), StoreImage_b hd e1⟩
theorem expInner (words : List Int) (k : Nat) (hk : k + 1 < words.length) (hw : words.length ≤ 1048576) : ∀ (n : Nat) (out : List Int), out.length + n ≤ 1048576 →
    loopO (fun (o, n) => spec_l15Expand_L1 words k o n) (out, (n : Int)) = some (out ++ List.replicate n words[k + 1]) := by
  intro n
  induction n with
  | zero =>
    intro out _
    refine loopO_inr ?_
    simp [spec_l15Expand_L1]
  | succ n ih =>
    intro out ho
    have hs : spec_l15Expand_L1 words k out ((n + 1 : Nat) : Int) = some (.inl (out ++ [words[k + 1]], (n : Int))) := by
      unfold spec_l15Expand_L1
      rw [ifO_pos (by simp only [decide_eq_true_eq]; omega), wr_succ (by omega), idx_lt hk, bnd_s, app_le (by simp only [List.length_singleton]; omega), bnd_s, wr_pred (by omega)]
    rw [@loopO_inl _ _ (fun (o, n) => spec_l15Expand_L1 words k o n) (out, ((n + 1 : Nat) : Int)) _ hs, ih (out ++ [words[k + 1]]) (by simp only [List.length_append, List.length_singleton]; omega)]
    simp [List.replicate_succ]
theorem expand_eq (words : List Int) (W H : Int) (M : Nat) (hM : M ≤ 256) (e : wr (W * H) = M) (hw : words.length ≤ 1048576) : ∀ (j k : Nat) (out : List Int), words.length ≤ k + j → k ≤ words.length + 1 → out.length ≤ M → ∃ y y', loopO (fun (o, k) => spec_l15Expand_L0 words (wr (W * H)) o k) (out, (k : Int)) = some y
    ∧ loopO (fun (o, k) => impl_LoadImage_L0 words W H o k) (out, (k : Int)) = some y' ∧ ((∃ d, y = .inl d ∧ y' = .inl d ∧ d.length ≤ M) ∨ (y = .inr [] ∧ y' = .inr (zeroImg, false))) := by
  intro j
  induction j using Nat.strongRecOn with
  | _ j ih =>
    intro k out hk hk1 ho
    by_cases hlt : k + 1 < words.length
    · have hk0 : k < words.length := by omega
      have hr : wr ((M : Int) - (out.length : Int)) = ((M - out.length : Nat) : Int) := by rw [wr_in (by omega) (by omega)]; omega
      have c1 : decide (wr ((k : Int) + 1) < (words.length : Int)) = true := by rw [wr_succ (by omega)]; simp only [decide_eq_true_eq]; omega
      cases hin : inR words[k] 1 ((M - out.length : Nat) : Int) with
      | false =>
        refine ⟨.inr [], .inr (zeroImg, false), loopO_inr ?_, loopO_inr ?_, .inr ⟨rfl, rfl⟩⟩
        · show spec_l15Expand_L0 words (wr (W * H)) out k = _
          unfold spec_l15Expand_L0
          rw [ifO_pos c1, idx_lt hk0, bnd_s, e, hr, l01In_eq, bnd_s, hin]; rfl
        · show impl_LoadImage_L0 words W H out k = _
          unfold impl_LoadImage_L0
          rw [ifO_pos c1, idx_lt hk0, bnd_s, e, hr, within_eq, bnd_s, hin]; rfl
      | true =>
        have hb := inR_t.1 hin
        obtain ⟨n, hn⟩ : ∃ n : Nat, words[k] = n := ⟨words[k].toNat, by omega⟩
        have hk2 : wr ((k : Int) + 2) = ((k + 2 : Nat) : Int) := by rw [wr_in (by omega) (by omega)]; omega
        have h1 : spec_l15Expand_L0 words (wr (W * H)) out k = some (.inl (out ++ List.replicate n words[k + 1], ((k + 2 : Nat) : Int))) := by
          unfold spec_l15Expand_L0
          have := expInner words k hlt hw n out (by omega)
          rw [ifO_pos c1, idx_lt hk0, bnd_s, e, hr, l01In_eq, bnd_s, hin, Bool.not_true, ifO_false, bnd_s, hn, hk2]
          simp only [] at this ⊢
          rw [this, bnd_s]
        have h2 : impl_LoadImage_L0 words W H out k = some (.inl (out ++ List.replicate n words[k + 1], ((k + 2 : Nat) : Int))) := by
          unfold impl_LoadImage_L0
          rw [ifO_pos c1, idx_lt hk0, bnd_s, e, hr, within_eq, bnd_s, hin, Bool.not_true, ifO_false, wr_succ (by omega), idx_lt hlt, bnd_s, bnd_s, hk2]
          simp only [slices_Repeat_S_int_int, hn, mkO_nat (show n ≤ 1073741824 by omega), bnd_s]
          rw [app_le (by simp only [List.length_replicate]; omega), bnd_s]
        rw [@loopO_inl _ _ (fun (o, k) => spec_l15Expand_L0 words (wr (W * H)) o k) (out, (k : Int)) _ h1, @loopO_inl _ _ (fun (o, k) => impl_LoadImage_L0 words W H o k) (out, (k : Int)) _ h2]
        exact ih (words.length - (k + 2)) (by omega) (k + 2) _ (by omega) (by omega) (by simp only [List.length_append, List.length_replicate]; omega)
    · have c1 : decide (wr ((k : Int) + 1) < (words.length : Int)) = false := by
        rw [wr_succ (by omega)]; simp only [decide_eq_false_iff_not]; omega
      refine ⟨.inl out, .inl out, loopO_inr ?_, loopO_inr ?_, .inl ⟨out, rfl, rfl, ho⟩⟩
      · show spec_l15Expand_L0 words (wr (W * H)) out k = _
        unfold spec_l15Expand_L0
        rw [ifO_neg c1]
      · show impl_LoadImage_L0 words W H out k = _
        unfold impl_LoadImage_L0
        rw [ifO_neg c1]
def mapD (W H : Nat) (v : Nat → Nat → Int) : List Int := (List.range H).flatMap fun y => (List.range W).map fun x => v x y
theorem mapD_len (W H : Nat) (v : Nat → Nat → Int) : (mapD W H v).length = H * W := by
  unfold mapD
  rw [List.length_flatMap]
  simp [List.map_const', List.sum_replicate_nat]
theorem mapRow {L : List Int × Int → Option ((List Int × Int) ⊕ List Int)} (W : Nat) (v : Nat → Int) (hgo : ∀ (x : Nat) (out : List Int), x < W → out.length ≤ 256 → L (out, (x : Int)) = some (.inl (out ++ [v x], ((x + 1 : Nat) : Int))))
    (hend : ∀ out, L (out, (W : Int)) = some (.inr out)) : ∀ (j x : Nat) (out : List Int), x + j = W → out.length + j ≤ 256 → loopO L (out, (x : Int)) = some (out ++ (List.range' x j).map v) := by
  intro j
  induction j with
  | zero =>
    intro x out hx _
    obtain rfl : x = W := by omega
    rw [loopO_inr (hend out)]; simp
  | succ j ih =>
    intro x out hx ho
    rw [loopO_inl (hgo x out (by omega) (by omega)), ih (x + 1) _ (by omega) (by simp only [List.length_append, List.length_singleton]; omega), List.range'_succ]
    simp
theorem mapRows {L0 : List Int × Int → Option ((List Int × Int) ⊕ List Int)} {L1 : Int → List Int × Int → Option ((List Int × Int) ⊕ List Int)} (W H : Nat) (w2 : W ≤ 16) (h2 : H ≤ 16) (v : Nat → Nat → Int)
    (hgo : ∀ (y x : Nat) (out : List Int), y < H → x < W → out.length ≤ 256 → L1 y (out, (x : Int)) = some (.inl (out ++ [v x y], ((x + 1 : Nat) : Int)))) (hend : ∀ (y : Int) out, L1 y (out, (W : Int)) = some (.inr out))
    (h0 : ∀ (y : Nat) (out : List Int), y < H → L0 (out, (y : Int)) = Option.bind (loopO (L1 y) (out, 0)) fun o => some (.inl (o, wr ((y : Int) + 1)))) (h0e : ∀ out, L0 (out, (H : Int)) = some (.inr out)) :
    loopO L0 ([], 0) = some (mapD W H v) := by
  have key : ∀ (j y : Nat) (out : List Int), y + j = H → out.length = y * W → loopO L0 (out, (y : Int)) = some (out ++ (List.range' y j).flatMap fun y => (List.range W).map fun x => v x y) := by
    intro j
    induction j with
    | zero =>
      intro y out hy _
      obtain rfl : y = H := by omega
      rw [loopO_inr (h0e out)]; simp
    | succ j ih =>
      intro y out hy ho
      have hyw : (y + 1) * W ≤ H * W := Nat.mul_le_mul_right _ (by omega)
      have hHW : H * W ≤ 16 * 16 := Nat.mul_le_mul h2 w2
      rw [Nat.add_mul, Nat.one_mul] at hyw
      have h1 := h0 y out (by omega)
      have h2 := mapRow (L := L1 y) W (fun x => v x y) (fun x out hx ho => hgo y x out (by omega) hx ho) (fun out => hend y out) W 0 out (by omega) (by omega)
      rw [show ((0 : Nat) : Int) = 0 from rfl] at h2
      rw [h2, bnd_s, wr_succ (by omega)] at h1
      rw [loopO_inl h1, ih (y + 1) _ (by omega) (by simp only [List.length_append, List.length_map, List.length_range']; rw [Nat.add_mul]; omega), List.range'_succ]
      simp [List.range_eq_range']
  have := key H 0 [] (by omega) (by simp)
  rw [List.nil_append, ← List.range_eq_range'] at this
  exact this
theorem i_mapImage (W H : Nat) (w2 : W ≤ 16) (h2 : H ≤ 16) (f : Int → Int → Option Int) (v : Nat → Nat → Int) (hf : ∀ x y : Nat, x < W → y < H → f x y = some (v x y)) : impl_mapImage W H f = some (ImageT.mk W H (mapD W H v)) := by
  have hHW : H * W ≤ 16 * 16 := Nat.mul_le_mul h2 w2
  have hl := mapRows (L0 := fun (o, y) => impl_mapImage_L0 W H f o y) (L1 := fun y (o, x) => impl_mapImage_L1 W f y o x) W H w2 h2 v
    (fun y x out hy hx ho => by
      show impl_mapImage_L1 W f y out x = _
      unfold impl_mapImage_L1
      rw [ifO_pos (by simp only [decide_eq_true_eq]; omega), hf x y hx hy, bnd_s, app_le (by simp only [List.length_singleton]; omega), bnd_s, wr_succ (by omega)])
    (fun y out => by
      show impl_mapImage_L1 W f y out W = _
      unfold impl_mapImage_L1
      rw [ifO_neg (by simp)])
    (fun y out hy => by
      show impl_mapImage_L0 W H f out y = _
      unfold impl_mapImage_L0
      rw [ifO_pos (by simp only [decide_eq_true_eq]; omega)])
    (fun out => by
      show impl_mapImage_L0 W H f out H = _
      unfold impl_mapImage_L0
      rw [ifO_neg (by simp)])
  unfold impl_mapImage
  have e0 : mkO (α := Int) 0 0 = some [] := rfl
  rw [e0, bnd_s, wrWH w2 h2, need_t (by omega)]
  simp only [] at hl ⊢
  rw [hl, bnd_s]
theorem idx_getD {xs : List Int} {i : Int} (h0 : 0 ≤ i) (h1 : i < xs.length) : idx xs i = some (xs.getD i.toNat 0) := by
  rw [idx_of h0 h1]; simp only [List.getD_eq_getElem?_getD]; rw [List.getElem?_eq_getElem (by omega)]; rfl
theorem s_WordCount_bad {W H lay : Int} (h0 : lay ≠ 0) (h1 : lay ≠ 1) : spec_WordCount W H lay = some (-1) := by
  simp only [spec_WordCount, l01In_eq, bnd_s, orO_some]
  rw [ifO_neg (c := decide (lay = 0)) (by simpa using h0), ifO_neg (c := decide (lay = 1)) (by simpa using h1)]
  cases (!inR W 1 16 || !inR H 1 16) <;> rfl
theorem LoadImage_eq (words : List Int) (W H lay : Int) (hw : words.length ≤ 1048576) : ∃ i b, spec_LoadImage words W H lay = some (i, b) ∧ impl_LoadImage words W H lay = some (i, b) ∧ i.Data.length ≤ 256 ∧ (b = true → imgOk i = true ∧ i.W = W ∧ i.H = H) := by
  simp only [spec_LoadImage, impl_LoadImage, l01In_eq, within_eq, isSide_eq, bnd_s, orO_some]
  cases hc : (!inR W 1 16 || !inR H 1 16) with
  | true => exact ⟨zeroImg, false, rfl, rfl, by simp [zeroImg], by simp⟩
  | false =>
    have hc' : inR W 1 16 = true ∧ inR H 1 16 = true := by
      revert hc; cases inR W 1 16 <;> cases inR H 1 16 <;> simp
    obtain ⟨⟨w1, w2⟩, h1, h2⟩ := And.imp inR_t.1 inR_t.1 hc'
    obtain ⟨W, rfl⟩ : ∃ n : Nat, W = n := ⟨W.toNat, by omega⟩
    obtain ⟨H, rfl⟩ : ∃ n : Nat, H = n := ⟨H.toNat, by omega⟩
    have w2' : W ≤ 16 := by omega
    have h2' : H ≤ 16 := by omega
    have hHW : H * W ≤ 16 * 16 := Nat.mul_le_mul h2' w2'
    rw [ifO_false, Bool.false_or]
    have fin : ∀ d : List Int, d.length ≤ 256 → ∃ i b, (Option.bind (spec_StoreImage (ImageT.mk W H d) lay) fun x => Option.bind (orO (!x.2) (Option.bind (spec_l05Ints x.1 words) fun y => some (!y))) fun q => ifO q (some (ImageT.mk 0 0 [], false)) (some (ImageT.mk W H d, true))) = some (i, b)
        ∧ (Option.bind (impl_StoreImage (ImageT.mk W H d) lay) fun x => Option.bind (orO (!x.2) (Option.bind (slices_Equal_S_int_int x.1 words) fun y => some (!y))) fun q => ifO q (some (ImageT.mk 0 0 [], false)) (some (ImageT.mk W H d, true))) = some (i, b)
        ∧ i.Data.length ≤ 256 ∧ (b = true → imgOk i = true ∧ i.W = W ∧ i.H = H) ∧ (d = [] → i = zeroImg ∧ b = false) := by
      intro d hd
      obtain ⟨w, b, e1, e2, e3, e4, e5⟩ := loadFin W H lay words d (by omega)
      simp only [e1, e2, bnd_s, e3, e4, orO_some]
      have hz : d = [] → b = false := by
        intro h
        subst h
        cases b with
        | false => rfl
        | true =>
          have := (imgOk_in (e5 rfl)).2.2.1
          have hp : (1 : Int) * 1 ≤ W * H := Int.mul_le_mul (by omega) (by omega) (by omega) (by omega)
          simp only [List.length_nil] at this
          omega
      cases hq : (!b || !eqInts w words) with
      | true => exact ⟨zeroImg, false, rfl, rfl, by simp [zeroImg], by simp, fun _ => ⟨rfl, rfl⟩⟩
      | false =>
        have hb : b = true := by revert hq; cases b <;> simp
        exact ⟨_, true, rfl, rfl, hd, fun _ => ⟨e5 hb, rfl, rfl⟩, fun h => by rw [hz h] at hb; cases hb⟩
    by_cases hl2 : lay = 2
    · subst hl2
      obtain ⟨y, y', r1, r2, r3⟩ := expand_eq words W H (H * W) (by omega) (wrWH w2' h2') hw words.length 0 [] (by omega) (by omega) (by simp)
      have i2 : (!inR 2 0 2) = false := rfl
      rw [show ((0 : Nat) : Int) = 0 from rfl] at r1 r2
      simp only [] at r1 r2
      rw [ifO_pos (by simp), i2, ifO_false, ifO_pos (by simp), r2, spec_l15Expand]
      simp only [r1, bnd_s]
      rcases r3 with ⟨d, rfl, rfl, hd⟩ | ⟨rfl, rfl⟩
      · obtain ⟨i, b, f1, f2, f3, f4, _⟩ := fin d (by omega)
        exact ⟨i, b, f1, f2, f3, f4⟩
      · obtain ⟨i, b, f1, f2, f3, f4, f5⟩ := fin [] (by simp)
        obtain ⟨rfl, rfl⟩ := f5 rfl
        exact ⟨zeroImg, false, f1, rfl, f3, f4⟩
    · rw [ifO_neg (c := decide (lay = 2)) (by simpa using hl2), ifO_neg (c := decide (lay = 2)) (by simpa using hl2)]
      by_cases hy : lay = 0 ∨ lay = 1
      · have i2 : (!inR lay 0 2) = false := by rcases hy with rfl | rfl <;> rfl
        rw [i2, ifO_false, s_WordCount w1 w2 h1 h2 hy, i_WordCount w1 w2 h1 h2 hy, bnd_s, bnd_s]
        by_cases hcn : cnt W H lay = words.length
        · have hp : ∀ x y : Nat, x < W → y < H → idx words (plc W lay x y) = some (words.getD (plc W lay x y).toNat 0) := fun x y hx hy' => by
            have := plc_in (W := W) (H := H) (lay := lay) (x := x) (y := y) w1 w2 h1 h2 (by omega) (by omega) (by omega) (by omega)
            exact idx_getD this.1 (by omega)
          have hm := i_mapImage W H w2' h2' (fun z0 z1 => impl_LoadImage_1 z0 z1 words W lay) (fun x y => words.getD (plc W lay x y).toNat 0) (fun x y hx hy' => by
            show impl_LoadImage_1 x y words W lay = _
            unfold impl_LoadImage_1
            rw [i_wordPlace w1 w2 (by omega) (by omega) (by omega) (by omega) hy, bnd_s, hp x y hx hy', bnd_s])
          have hs := mapRows (L0 := fun (o, y) => spec_LoadImage_L1 words W H lay o y) (L1 := fun y (o, x) => spec_LoadImage_L2 words W H lay y o x) W H w2' h2' (fun x y => words.getD (plc W lay x y).toNat 0)
            (fun y x out hy' hx ho => by
              show spec_LoadImage_L2 words W H lay y out x = _
              unfold spec_LoadImage_L2
              rw [ifO_pos (by simp only [decide_eq_true_eq]; omega), s_WordPlace w1 w2 h1 h2 (by omega) (by omega) (by omega) (by omega) hy, bnd_s, hp x y hx hy', bnd_s, app_le (by simp only [List.length_singleton]; omega), bnd_s, wr_succ (by omega)])
            (fun y out => by
              show spec_LoadImage_L2 words W H lay y out W = _
              unfold spec_LoadImage_L2
              rw [ifO_neg (by simp)])
            (fun y out hy' => by
              show spec_LoadImage_L1 words W H lay out y = _
              unfold spec_LoadImage_L1
              rw [ifO_pos (by simp only [decide_eq_true_eq]; omega)])
            (fun out => by
              show spec_LoadImage_L1 words W H lay out H = _
              unfold spec_LoadImage_L1
              rw [ifO_neg (by simp)])
          simp only [] at hs
          rw [ifO_pos (by simpa using hcn), ifO_pos (by simpa using hcn.symm), hm, bnd_s, hs, bnd_s]
          obtain ⟨i, b, f1, f2, f3, f4, _⟩ := fin (mapD W H fun x y => words.getD (plc W lay x y).toNat 0) (by rw [mapD_len]; omega)
          exact ⟨i, b, f1, f2, f3, f4⟩
        · rw [ifO_neg (by simpa using hcn), ifO_neg (by simpa using fun h => hcn h.symm), bnd_s]
          obtain ⟨i, b, f1, f2, f3, f4, _⟩ := fin [] (by simp)
          exact ⟨i, b, f1, f2, f3, f4⟩
      · have i2 : (!inR lay 0 2) = true := by
          rw [Bool.not_eq_true', inR_f]; omega
        rw [i2, ifO_true, s_WordCount_bad (by omega) (by omega), bnd_s, ifO_neg (by simp), bnd_s]
        obtain ⟨i, b, f1, f2, f3, f4, f5⟩ := fin [] (by simp)
        obtain ⟨rfl, rfl⟩ := f5 rfl
        exact ⟨zeroImg, false, f1, rfl, f3, f4⟩
end Go.Proofs.YtmhalmnbgkpmnaaGreat
