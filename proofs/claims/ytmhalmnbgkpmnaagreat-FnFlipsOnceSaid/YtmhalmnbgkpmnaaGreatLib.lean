/- Plain laws about the words in which the pure functions are written: loops that scan, fill, mark. -/
import Derived.Test.YtmhalmnbgkpmnaaGreatPure
namespace Go.Proofs.YtmhalmnbgkpmnaaGreat
open Go.RowKit K
namespace K
@[simp] theorem bnd_s {α β : Type} (a : α) (f : α → Option β) : Option.bind (some a) f = f a := rfl
theorem wr_succ {k : Nat} (h : k < 4611686018427387904) : wr ((k : Int) + 1) = ((k + 1 : Nat) : Int) := by
  rw [wr_in (by omega) (by omega)]; omega
theorem idx_lt {α : Type} {xs : List α} {k : Nat} (h : k < xs.length) : idx xs (k : Int) = some xs[k] := by rw [idx_nat]; exact List.getElem?_eq_getElem h
theorem idx_at {α : Type} {xs : List α} {k : Nat} {x : α} (h : xs[k]? = some x) : idx xs (k : Int) = some x := by rw [idx_nat]; exact h
theorem idx_of {α : Type} {xs : List α} {i : Int} (h0 : 0 ≤ i) (h1 : i < xs.length) : idx xs i = some (xs[i.toNat]'(by omega)) := by
  rw [idx, if_pos h0]; exact List.getElem?_eq_getElem (by omega)
theorem sidx_lt {s : ByteArray} {k : Nat} (h : k < s.size) : sidx s (k : Int) = some ((s[k]!).toNat : Int) := by
  rw [sidx, if_pos ⟨by omega, by omega⟩]; simp
theorem upd_lt {α : Type} {xs : List α} {k : Nat} (h : k < xs.length) (v : α) : upd xs (k : Int) v = some (xs.set k v) := by
  rw [upd, if_pos ⟨by omega, by omega⟩]; simp
theorem app_le {α : Type} {xs ys : List α} (h : xs.length + ys.length ≤ 1073741824) : app xs ys = some (xs ++ ys) := if_pos h
theorem mkO_nat {α : Type} {n : Nat} (h : n ≤ 1073741824) (z : α) : mkO (n : Int) z = some (List.replicate n z) := by
  rw [mkO, if_pos ⟨by omega, by omega⟩]; simp
theorem mkO_of {α : Type} {n : Int} (h0 : 0 ≤ n) (h : n ≤ 1073741824) (z : α) : mkO n z = some (List.replicate n.toNat z) := if_pos ⟨h0, h⟩
theorem ifO_pos {α : Type} {c : Bool} (h : c = true) (x y : Option α) : ifO c x y = x := by rw [h]; rfl
theorem ifO_neg {α : Type} {c : Bool} (h : c = false) (x y : Option α) : ifO c x y = y := by rw [h]; rfl
theorem ifO_if {α : Type} (c : Bool) (x y : Option α) : ifO c x y = if c = true then x else y := rfl
theorem fork_inl {X R T : Type} (e : X) (k : X → Option T) (k' : R → Option T) : fork (.inl e) k k' = k e := rfl
theorem fork_inr {X R T : Type} (e : R) (k : X → Option T) (k' : R → Option T) : fork (.inr e) k k' = k' e := rfl
theorem remO_of {a b : Int} (h : b ≠ 0) : remO a b = some (a.tmod b) := if_neg h
theorem quoO_of {a b : Int} (h : b ≠ 0) : quoO a b = some (wr (a.tdiv b)) := if_neg h

theorem allLoop {R : Type} {L : Int → Option (Int ⊕ (Unit ⊕ R))} (n : Nat) (hn : n < 4611686018427387904) (ok : Nat → Bool) (r : R)
    (hgo : ∀ k, k < n → ok k = true → L (k : Int) = some (.inl (wr ((k : Int) + 1)))) (hno : ∀ k, k < n → ok k = false → L (k : Int) = some (.inr (.inr r)))
    (hend : L (n : Int) = some (.inr (.inl ()))) : loopO L 0 = some (if (List.range n).all ok then .inl () else .inr r) := by
  have key : ∀ j k, k + j = n → loopO L (k : Int) = some (if (List.range' k j).all ok then .inl () else .inr r) := by
    intro j
    induction j with
    | zero =>
      intro k hk
      have : k = n := by omega
      subst this
      rw [loopO_inr hend]; rfl
    | succ j ih =>
      intro k hk
      rw [List.range'_succ, List.all_cons]
      cases ho : ok k with
      | false => rw [loopO_inr (hno k (by omega) ho)]; simp
      | true =>
        rw [loopO_inl (hgo k (by omega) ho), wr_succ (by omega), ih (k + 1) (by omega), Bool.true_and]
  have := key n 0 (by omega)
  rw [← List.range_eq_range'] at this
  exact this
theorem range_all {α : Type} (xs : List α) (q : α → Bool) (ok : Nat → Bool) (h : ∀ k (hk : k < xs.length), ok k = q xs[k]) : (List.range xs.length).all ok = xs.all q := by
  rw [Bool.eq_iff_iff, List.all_eq_true, List.all_eq_true]
  constructor
  · intro h1 x hx
    obtain ⟨k, hk, rfl⟩ := List.getElem_of_mem hx
    rw [← h k hk]; exact h1 k (List.mem_range.2 hk)
  · intro h1 k hk
    rw [h k (List.mem_range.1 hk)]; exact h1 _ (List.getElem_mem _)
theorem allList {α R : Type} {L : Int → Option (Int ⊕ (Unit ⊕ R))} (xs : List α) (hn : xs.length < 4611686018427387904) (q : α → Bool) (r : R)
    (hstep : ∀ k (hk : k < xs.length), L (k : Int) = if q xs[k] = true then some (.inl (wr ((k : Int) + 1))) else some (.inr (.inr r)))
    (hend : L (xs.length : Int) = some (.inr (.inl ()))) : loopO L 0 = some (if xs.all q then .inl () else .inr r) := by
  rw [← range_all xs q (fun k => if hk : k < xs.length then q xs[k] else false) (fun k hk => by rw [dif_pos hk])]
  refine allLoop xs.length hn _ r (fun k hk ho => ?_) (fun k hk ho => ?_) hend
  · simp only [hk, dite_true] at ho; rw [hstep k hk, if_pos ho]
  · simp only [hk, dite_true] at ho; rw [hstep k hk, if_neg (by rw [ho]; simp)]

theorem fillLoop {α β : Type} {L : List β × Int → Option ((List β × Int) ⊕ List β)} (xs : List α) (f : α → β) (z : β) (hn : xs.length < 4611686018427387904)
    (hgo : ∀ k (hk : k < xs.length) (out : List β), out.length = xs.length → L (out, (k : Int)) = some (.inl (out.set k (f xs[k]), wr ((k : Int) + 1))))
    (hend : ∀ out, L (out, (xs.length : Int)) = some (.inr out)) : loopO L (List.replicate xs.length z, 0) = some (xs.map f) := by
  have key : ∀ j k (done : List β), k + j = xs.length → done = (xs.take k).map f → loopO L (done ++ List.replicate j z, (k : Int)) = some (xs.map f) := by
    intro j
    induction j with
    | zero =>
      intro k done hk hd
      have : k = xs.length := by omega
      subst this
      rw [loopO_inr (hend _), hd]; simp
    | succ j ih =>
      intro k done hk hd
      have hlt : k < xs.length := by omega
      have hdl : done.length = k := by rw [hd]; simp; omega
      have hl : (done ++ List.replicate (j + 1) z).length = xs.length := by simp [hdl]; omega
      rw [loopO_inl (hgo k hlt _ hl), wr_succ (by omega)]
      have e : (done ++ List.replicate (j + 1) z).set k (f xs[k]) = (done ++ [f xs[k]]) ++ List.replicate j z := by
        rw [List.set_append_right _ _ (by omega), hdl, Nat.sub_self, List.replicate_succ, List.set_cons_zero, List.append_assoc]; rfl
      rw [e]
      refine ih (k + 1) _ (by omega) ?_
      rw [hd, List.take_add_one, List.map_append, List.getElem?_eq_getElem hlt]; rfl
  have := key xs.length 0 [] (by omega) (by simp)
  simpa using this

def Sz {α : Type} (f : α → Int → Option Int) (sm : α → Prop) (x : α) : Prop := ∀ left, 0 ≤ left → left ≤ 1048576 → ∃ v, f x left = some v ∧ v ≤ left ∧ (0 ≤ v → sm x)
theorem wr_left {left : Int} {n : Nat} (h0 : 0 ≤ left) (h1 : left ≤ 1048576) (hn : n ≤ 9223372036854775807) : wr (left - (n : Int)) = left - n := wr_in (by omega) (by omega)
theorem Sz.len {left : Int} {n : Nat} (h0 : 0 ≤ left) (h1 : left ≤ 1048576) (hn : n ≤ 9223372036854775807) : ∃ v, ifO (decide (wr (left - (n : Int)) < 0)) (some (-1)) (some (wr (left - (n : Int)))) = some v ∧ v ≤ left ∧ (0 ≤ v → n ≤ 1048576) := by
  rw [wr_left h0 h1 hn]
  by_cases h : left - (n : Int) < 0
  · exact ⟨-1, by rw [ifO_pos (by simpa using h)], by omega, by omega⟩
  · exact ⟨left - n, by rw [ifO_neg (by simpa using h)], by omega, by omega⟩
theorem szLoop {α : Type} {L : Int × Int → Option ((Int × Int) ⊕ (Int ⊕ Int))} (xs : List α) (sz : α → Int → Option Int) (sm : α → Prop) (hn : xs.length < 4611686018427387904)
    (hstep : ∀ k (hk : k < xs.length) left, L (left, (k : Int)) = Option.bind (sz xs[k] left) fun v => ifO (decide (v < 0)) (some (.inr (.inr (-1)))) (some (.inl (v, wr ((k : Int) + 1)))))
    (hend : ∀ left, L (left, (xs.length : Int)) = some (.inr (.inl left))) (hsz : ∀ x ∈ xs, Sz sz sm x) (left : Int) (h0 : 0 ≤ left) (h1 : left ≤ 1048576) :
    ∃ y, loopO L (left, 0) = some y ∧ ((∃ v, y = .inl v ∧ 0 ≤ v ∧ v ≤ left ∧ ∀ x ∈ xs, sm x) ∨ y = .inr (-1)) := by
  have key : ∀ j k left, k + j = xs.length → 0 ≤ left → left ≤ 1048576 → ∃ y, loopO L (left, (k : Int)) = some y ∧ ((∃ v, y = .inl v ∧ 0 ≤ v ∧ v ≤ left ∧ ∀ x ∈ xs.drop k, sm x) ∨ y = .inr (-1)) := by
    intro j
    induction j with
    | zero =>
      intro k left hk h0 h1
      have : k = xs.length := by omega
      subst this
      exact ⟨_, loopO_inr (hend left), .inl ⟨left, rfl, h0, Int.le_refl _, by simp⟩⟩
    | succ j ih =>
      intro k left hk h0 h1
      have hlt : k < xs.length := by omega
      obtain ⟨v, e, hv, hs⟩ := hsz xs[k] (List.getElem_mem hlt) left h0 h1
      have hst := hstep k hlt left
      rw [e, bnd_s] at hst
      by_cases hneg : v < 0
      · rw [ifO_pos (by simpa using hneg)] at hst
        exact ⟨_, loopO_inr hst, .inr rfl⟩
      · rw [ifO_neg (by simpa using hneg), wr_succ (by omega)] at hst
        obtain ⟨y, hy, hor⟩ := ih (k + 1) v (by omega) (by omega) (by omega)
        refine ⟨y, by rw [loopO_inl hst]; exact hy, ?_⟩
        rcases hor with ⟨u, rfl, hu0, hu1, hall⟩ | rfl
        · refine .inl ⟨u, rfl, hu0, by omega, fun x hx => ?_⟩
          rw [List.drop_eq_getElem_cons hlt] at hx
          rcases List.mem_cons.1 hx with rfl | hx
          · exact hs (by omega)
          · exact hall x hx
        · exact .inr rfl
  have := key xs.length 0 left (by omega) h0 h1
  simpa using this
theorem eqLoop {α : Type} {L : Int → Option (Int ⊕ (Unit ⊕ Bool))} (xs : List α) (hn : xs.length < 4611686018427387904)
    (hstep : ∀ k (hk : k < xs.length), L (k : Int) = some (.inl (wr ((k : Int) + 1)))) (hend : L (xs.length : Int) = some (.inr (.inl ()))) : loopO L 0 = some (.inl ()) := by
  have := allList (R := Bool) (L := L) xs hn (fun _ => true) false (fun k hk => by rw [hstep k hk]; rfl) hend
  simpa using this
theorem eqList {α : Type} {L : Int → Option (Int ⊕ (Unit ⊕ Bool))} (xs ys : List α) (hl : xs.length = ys.length) (hn : xs.length < 4611686018427387904) (q : α → α → Bool)
    (hstep : ∀ k (hk : k < xs.length) (hk' : k < ys.length), L (k : Int) = if q xs[k] ys[k] = true then some (.inl (wr ((k : Int) + 1))) else some (.inr (.inr false))) (hend : L (xs.length : Int) = some (.inr (.inl ()))) :
    loopO L 0 = some (if (List.zipWith q xs ys).all id then .inl () else .inr false) := by
  rw [← range_all (List.zipWith q xs ys) id (fun k => if hk : k < xs.length then q xs[k] (ys[k]'(hl ▸ hk)) else false) (fun k hk => by
    have hk1 : k < xs.length := by rw [List.length_zipWith] at hk; omega
    rw [dif_pos hk1]; simp)]
  have hz : (List.zipWith q xs ys).length = xs.length := by rw [List.length_zipWith]; omega
  rw [hz]
  refine allLoop xs.length hn _ false (fun k hk ho => ?_) (fun k hk ho => ?_) hend
  · simp only [hk, dite_true] at ho; rw [hstep k hk (hl ▸ hk), if_pos ho]
  · simp only [hk, dite_true] at ho; rw [hstep k hk (hl ▸ hk), if_neg (by rw [ho]; simp)]
theorem findLoop {α : Type} {L : Int → Option (Int ⊕ (Unit ⊕ Int))} (xs : List α) (hn : xs.length < 4611686018427387904) (p : α → Bool)
    (hstep : ∀ k (hk : k < xs.length), L (k : Int) = if p xs[k] = true then some (.inr (.inr (k : Int))) else some (.inl (wr ((k : Int) + 1)))) (hend : L (xs.length : Int) = some (.inr (.inl ()))) :
    loopO L 0 = some (match xs.findIdx? p with | some k => .inr (k : Int) | .none => .inl ()) := by
  have key : ∀ j k, k + j = xs.length → loopO L (k : Int) = some (match (xs.drop k).findIdx? p with | some i => .inr ((k + i : Nat) : Int) | .none => .inl ()) := by
    intro j
    induction j with
    | zero =>
      intro k hk
      have : k = xs.length := by omega
      subst this
      rw [loopO_inr hend]; simp
    | succ j ih =>
      intro k hk
      have hlt : k < xs.length := by omega
      rw [List.drop_eq_getElem_cons hlt, List.findIdx?_cons]
      have hs := hstep k hlt
      cases hp : p xs[k] with
      | true => rw [hp, if_pos rfl] at hs; rw [loopO_inr hs]; simp
      | false =>
        rw [hp, if_neg (by simp), wr_succ (by omega)] at hs
        rw [loopO_inl hs, ih (k + 1) (by omega)]
        cases (xs.drop (k + 1)).findIdx? p with
        | none => rfl
        | some i => simp; omega
  have := key xs.length 0 (by omega)
  simpa using this
theorem allState {σ R : Type} {L : σ × Int → Option ((σ × Int) ⊕ (Unit ⊕ R))} (n : Nat) (hn : n < 4611686018427387904) (Inv : Nat → σ → Prop) (ok : Nat → Bool) (r : R)
    (hgo : ∀ k s, k < n → Inv k s → ok k = true → ∃ s', L (s, (k : Int)) = some (.inl (s', wr ((k : Int) + 1))) ∧ Inv (k + 1) s')
    (hno : ∀ k s, k < n → Inv k s → ok k = false → L (s, (k : Int)) = some (.inr (.inr r))) (hend : ∀ s, Inv n s → L (s, (n : Int)) = some (.inr (.inl ()))) (s : σ) (h0 : Inv 0 s) :
    loopO L (s, 0) = some (if (List.range n).all ok then .inl () else .inr r) := by
  have key : ∀ j k s, k + j = n → Inv k s → loopO L (s, (k : Int)) = some (if (List.range' k j).all ok then .inl () else .inr r) := by
    intro j
    induction j with
    | zero =>
      intro k s hk hi
      have : k = n := by omega
      subst this
      rw [loopO_inr (hend s hi)]; rfl
    | succ j ih =>
      intro k s hk hi
      rw [List.range'_succ, List.all_cons]
      cases ho : ok k with
      | false => rw [loopO_inr (hno k s (by omega) hi ho)]; simp
      | true =>
        obtain ⟨s', h1, h2⟩ := hgo k s (by omega) hi ho
        rw [loopO_inl h1, wr_succ (by omega), ih (k + 1) s' (by omega) h2, Bool.true_and]
  have := key n 0 s (by omega) h0
  rw [← List.range_eq_range'] at this
  exact this
theorem mget_mset : ∀ (m : List (Int × Bool)) (k j : Int) (v : Bool), mget (mset m k v) j = if j = k then v else mget m j
  | [], k, j, v => by simp only [mset, mget]
  | (a, b) :: r, k, j, v => by
    simp only [mset]
    by_cases h : k = a
    · subst h
      rw [if_pos rfl]
      simp only [mget]
      by_cases hj : j = k <;> simp [hj]
    · rw [if_neg h]
      simp only [mget]
      rw [mget_mset r k j v]
      by_cases hj : j = a
      · subst hj
        rw [if_pos rfl, if_pos rfl, if_neg (fun e => h e.symm)]
      · rw [if_neg hj, if_neg hj]
theorem wr_pred {k : Nat} (h : k < 4611686018427387904) : wr (((k + 1 : Nat) : Int) - 1) = (k : Int) := by
  rw [wr_in (by omega) (by omega)]; omega
theorem downLoop {σ R : Type} {L : σ × Int → Option ((σ × Int) ⊕ R)} (I : σ → Prop) (n : Nat) (hn : n < 4611686018427387904)
    (hgo : ∀ k s, k < n → I s → (∃ s', L (s, (k : Int)) = some (.inl (s', wr ((k : Int) - 1))) ∧ I s') ∨ ∃ r, L (s, (k : Int)) = some (.inr r)) (hend : ∀ s, I s → ∃ r, L (s, -1) = some (.inr r)) :
    ∀ (k : Nat) (s : σ), k ≤ n → I s → ∃ y, loopO L (s, (k : Int) - 1) = some y
  | 0, s, _, hi => by
    obtain ⟨r, hr⟩ := hend s hi
    exact ⟨r, loopO_inr hr⟩
  | k + 1, s, hk, hi => by
    have e : ((k + 1 : Nat) : Int) - 1 = (k : Int) := by omega
    rw [e]
    rcases hgo k s (by omega) hi with ⟨s', h1, h2⟩ | ⟨r, hr⟩
    · rw [loopO_inl h1, wr_in (n := (k : Int) - 1) (by omega) (by omega)]
      exact downLoop I n hn hgo hend k s' (by omega) h2
    · exact ⟨r, loopO_inr hr⟩

theorem idx_set {α : Type} {ys : List α} {i : Nat} (h : i < ys.length) (a : α) : idx (ys.set i a) (i : Int) = some a := by
  rw [idx_nat]; simp [h]
theorem upd_set {α : Type} {ys : List α} {i : Nat} (h : i < ys.length) (a b : α) : upd (ys.set i a) (i : Int) b = some (ys.set i b) := by
  rw [upd_lt (by simpa using h)]; simp
theorem mhLoop {α : Type} {M : List α × Int × Int → Option ((List α × Int × Int) ⊕ (Int × List α))} {H : List α → Int × Int → Option ((Int × Int) ⊕ (Int ⊕ Int))} (cost : α → Nat) (xs : List α) (hl : xs.length < 4611686018427387904)
    (hM : ∀ (i : Nat) (ys : List α) (k : Int) (hi : i < ys.length) (hx : i < xs.length), ys[i] = xs[i] → 0 ≤ k → k + cost xs[i] ≤ 4611686018427387904 →
      ∃ y, M (ys, k, (i : Int)) = some (.inl (ys.set i y, k + cost xs[i], wr ((i : Int) + 1))) ∧ ∀ zs : List α, zs[i]? = some y → H zs (k, (i : Int)) = some (.inl (k + cost xs[i], wr ((i : Int) + 1))))
    (hMe : ∀ ys k, ys.length = xs.length → M (ys, k, (xs.length : Int)) = some (.inr (k, ys))) (hHe : ∀ zs k, zs.length = xs.length → H zs (k, (xs.length : Int)) = some (.inr (.inl k))) (k : Int) (h0 : 0 ≤ k) (h1 : k + ((xs.map cost).sum : Nat) ≤ 4611686018427387904) :
    ∃ ys, ys.length = xs.length ∧ loopO M (xs, k, 0) = some (k + ((xs.map cost).sum : Nat), ys) ∧ loopO (H ys) (k, 0) = some (.inl (k + ((xs.map cost).sum : Nat))) := by
  have key : ∀ j i (ys : List α) (k : Int), i + j = xs.length → ys.length = xs.length → ys.drop i = xs.drop i → 0 ≤ k → k + (((xs.drop i).map cost).sum : Nat) ≤ 4611686018427387904 →
      ∃ zs : List α, zs.length = xs.length ∧ (∀ q, q < i → zs[q]? = ys[q]?) ∧ loopO M (ys, k, (i : Int)) = some (k + (((xs.drop i).map cost).sum : Nat), zs) ∧ loopO (H zs) (k, (i : Int)) = some (.inl (k + (((xs.drop i).map cost).sum : Nat))) := by
    intro j
    induction j with
    | zero =>
      intro i ys k hi hy _ _ _
      have : i = xs.length := by omega
      subst this
      refine ⟨ys, hy, fun _ _ => rfl, ?_, ?_⟩
      · rw [loopO_inr (hMe ys k hy)]; simp
      · rw [loopO_inr (hHe ys k hy)]; simp
    | succ j ih =>
      intro i ys k hi hy hd h0 hb
      have hlt : i < xs.length := by omega
      have hlty : i < ys.length := by omega
      rw [List.drop_eq_getElem_cons hlt, List.map_cons, List.sum_cons] at hb ⊢
      have he : ys[i] = xs[i] := by
        rw [List.drop_eq_getElem_cons hlt, List.drop_eq_getElem_cons hlty] at hd
        exact (List.cons.inj hd).1
      obtain ⟨y, e1, e2⟩ := hM i ys k hlty hlt he h0 (by omega)
      rw [wr_succ (by omega)] at e1
      obtain ⟨zs, z1, z2, z3, z4⟩ := ih (i + 1) (ys.set i y) (k + cost xs[i]) (by omega) (by simpa using hy) (by
        rw [List.drop_set_of_lt (by omega)]
        have := congrArg (List.drop 1) hd
        simpa [List.drop_drop, Nat.add_comm] using this) (by omega) (by omega)
      refine ⟨zs, z1, fun q hq => ?_, ?_, ?_⟩
      · rw [z2 q (by omega), List.getElem?_set_ne (by omega)]
      · rw [loopO_inl e1, z3]; congr 2; omega
      · have hz : zs[i]? = some y := by rw [z2 i (by omega)]; simp [hlty]
        have e3 := e2 zs hz
        rw [wr_succ (by omega)] at e3
        rw [loopO_inl e3, z4]; congr 2; omega
  obtain ⟨zs, z1, _, z3, z4⟩ := key xs.length 0 xs k (by omega) rfl rfl h0 (by simpa using h1)
  exact ⟨zs, z1, by simpa using z3, by simpa using z4⟩
theorem mkLoop {α : Type} {M : List α × Int × Int → Option ((List α × Int × Int) ⊕ (Int × List α))} (cost : α → Nat) (xs : List α) (hl : xs.length < 4611686018427387904)
    (hM : ∀ (i : Nat) (ys : List α) (k : Int) (hi : i < ys.length) (hx : i < xs.length), ys[i] = xs[i] → 0 ≤ k → k + cost xs[i] ≤ 4611686018427387904 → ∃ y, M (ys, k, (i : Int)) = some (.inl (ys.set i y, k + cost xs[i], wr ((i : Int) + 1))))
    (hMe : ∀ ys k, ys.length = xs.length → M (ys, k, (xs.length : Int)) = some (.inr (k, ys))) (k : Int) (h0 : 0 ≤ k) (h1 : k + ((xs.map cost).sum : Nat) ≤ 4611686018427387904) :
    ∃ ys, ys.length = xs.length ∧ loopO M (xs, k, 0) = some (k + ((xs.map cost).sum : Nat), ys) := by
  obtain ⟨ys, e0, e1, _⟩ := mhLoop (M := M) (H := fun _ p => if h : p.2.toNat < xs.length then some (.inl (p.1 + cost xs[p.2.toNat], wr (p.2 + 1))) else some (.inr (.inl p.1))) cost xs hl
    (fun i ys k hi hx he h0 hb => by
      obtain ⟨y, e⟩ := hM i ys k hi hx he h0 hb
      exact ⟨y, e, fun zs _ => by rw [dif_pos (by simpa using hx)]; rfl⟩) hMe (fun zs k _ => by rw [dif_neg (by simp)]) k h0 h1
  exact ⟨ys, e0, e1⟩
theorem sum_le {α : Type} (c : α → Nat) (b : Nat) : ∀ (xs : List α), (∀ x ∈ xs, c x ≤ b) → (xs.map c).sum ≤ xs.length * b
  | [], _ => by simp
  | x :: xs, h => by
    rw [List.map_cons, List.sum_cons, List.length_cons, Nat.succ_mul, Nat.add_comm]
    exact Nat.add_le_add (sum_le c b xs fun y hy => h y (List.mem_cons_of_mem _ hy)) (h x (by simp))
theorem sum_le' {α : Type} {c : α → Nat} {b : Nat} {xs : List α} (hl : xs.length ≤ 1048576) (h : ∀ x ∈ xs, c x ≤ b) : (xs.map c).sum ≤ 1048576 * b :=
  Nat.le_trans (sum_le c b xs h) (Nat.mul_le_mul_right b hl)
end K
end Go.Proofs.YtmhalmnbgkpmnaaGreat
