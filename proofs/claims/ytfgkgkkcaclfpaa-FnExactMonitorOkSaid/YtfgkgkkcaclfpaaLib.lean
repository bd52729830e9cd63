/- Plain laws about the words in which the pure functions are written: loops that scan, fill, mark. -/
import Derived.Test.YtfgkgkkcaclfpaaPure
namespace Go.Proofs.Ytfgkgkkcaclfpaa
open Go.RowKit K
namespace K
@[simp] theorem bnd_s {α β : Type} (a : α) (f : α → Option β) : Option.bind (some a) f = f a := rfl
theorem wr_succ {k : Nat} (h : k < 4611686018427387904) : wr ((k : Int) + 1) = ((k + 1 : Nat) : Int) := by
  rw [wr_in (by omega) (by omega)]; omega
theorem idx_lt {α : Type} {xs : List α} {k : Nat} (h : k < xs.length) : idx xs (k : Int) = some xs[k] := by rw [idx_nat]; exact List.getElem?_eq_getElem h
theorem idx_at {α : Type} {xs : List α} {k : Nat} {x : α} (h : xs[k]? = some x) : idx xs (k : Int) = some x := by rw [idx_nat]; exact h
theorem idx_of {α : Type} {xs : List α} {i : Int} (h0 : 0 ≤ i) (h1 : i < xs.length) : idx xs i = some (xs[i.toNat]'(by omega)) := by
  rw [idx, if_pos h0]; exact List.getElem?_eq_getElem (by omega)
theorem sidx_lt {s : ByteArray} {k : Nat} (h : k < s.size) : sidx s (k : Int) = some ((s[k]!).toNat : Int) := by
  rw [sidx, if_pos ⟨by omega, by omega⟩]; simp
theorem upd_lt {α : Type} {xs : List α} {k : Nat} (h : k < xs.length) (v : α) : upd xs (k : Int) v = some (xs.set k v) := by
  rw [upd, if_pos ⟨by omega, by omega⟩]; simp
theorem app_le {α : Type} {xs ys : List α} (h : xs.length + ys.length ≤ 1073741824) : app xs ys = some (xs ++ ys) := if_pos h
theorem mkO_nat {α : Type} {n : Nat} (h : n ≤ 1073741824) (z : α) : mkO (n : Int) z = some (List.replicate n z) := by
  rw [mkO, if_pos ⟨by omega, by omega⟩]; simp
theorem mkO_of {α : Type} {n : Int} (h0 : 0 ≤ n) (h : n ≤ 1073741824) (z : α) : mkO n z = some (List.replicate n.toNat z) := if_pos ⟨h0, h⟩
theorem ifO_pos {α : Type} {c : Bool} (h : c = true) (x y : Option α) : ifO c x y = x := by rw [h]; rfl
theorem ifO_neg {α : Type} {c : Bool} (h : c = false) (x y : Option α) : ifO c x y = y := by rw [h]; rfl
theorem ifO_if {α : Type} (c : Bool) (x y : Option α) : ifO c x y = if c = true then x else y := rfl
theorem fork_inl {X R T : Type} (e : X) (k : X → Option T) (k' : R → Option T) : fork (.inl e) k k' = k e := rfl
theorem fork_inr {X R T : Type} (e : R) (k : X → Option T) (k' : R → Option T) : fork (.inr e) k k' = k' e := rfl
theorem remO_of {a b : Int} (h : b ≠ 0) : remO a b = some (a.tmod b) := if_neg h
theorem quoO_of {a b : Int} (h : b ≠ 0) : quoO a b = some (wr (a.tdiv b)) := if_neg h

/-- A loop over k = 0, 1, .., n - 1 that goes on while ok holds, and else ends with r. -/
theorem allLoop {R : Type} {L : Int → Option (Int ⊕ (Unit ⊕ R))} (n : Nat) (hn : n < 4611686018427387904) (ok : Nat → Bool) (r : R)
    (hgo : ∀ k, k < n → ok k = true → L (k : Int) = some (.inl (wr ((k : Int) + 1)))) (hno : ∀ k, k < n → ok k = false → L (k : Int) = some (.inr (.inr r)))
    (hend : L (n : Int) = some (.inr (.inl ()))) : loopO L 0 = some (if (List.range n).all ok then .inl () else .inr r) := by
  have key : ∀ j k, k + j = n → loopO L (k : Int) = some (if (List.range' k j).all ok then .inl () else .inr r) := by
    intro j
    induction j with
    | zero =>
      intro k hk
      have : k = n := by omega
      subst this
      rw [loopO_inr hend]; rfl
    | succ j ih =>
      intro k hk
      rw [List.range'_succ, List.all_cons]
      cases ho : ok k with
      | false => rw [loopO_inr (hno k (by omega) ho)]; simp
      | true =>
        rw [loopO_inl (hgo k (by omega) ho), wr_succ (by omega), ih (k + 1) (by omega), Bool.true_and]
  have := key n 0 (by omega)
  rw [← List.range_eq_range'] at this
  exact this
theorem range_all {α : Type} (xs : List α) (q : α → Bool) (ok : Nat → Bool) (h : ∀ k (hk : k < xs.length), ok k = q xs[k]) : (List.range xs.length).all ok = xs.all q := by
  rw [Bool.eq_iff_iff, List.all_eq_true, List.all_eq_true]
  constructor
  · intro h1 x hx
    obtain ⟨k, hk, rfl⟩ := List.getElem_of_mem hx
    rw [← h k hk]; exact h1 k (List.mem_range.2 hk)
  · intro h1 k hk
    rw [h k (List.mem_range.1 hk)]; exact h1 _ (List.getElem_mem _)
/-- The same over a list. -/
theorem allList {α R : Type} {L : Int → Option (Int ⊕ (Unit ⊕ R))} (xs : List α) (hn : xs.length < 4611686018427387904) (q : α → Bool) (r : R)
    (hstep : ∀ k (hk : k < xs.length), L (k : Int) = if q xs[k] = true then some (.inl (wr ((k : Int) + 1))) else some (.inr (.inr r)))
    (hend : L (xs.length : Int) = some (.inr (.inl ()))) : loopO L 0 = some (if xs.all q then .inl () else .inr r) := by
  rw [← range_all xs q (fun k => if hk : k < xs.length then q xs[k] else false) (fun k hk => by rw [dif_pos hk])]
  refine allLoop xs.length hn _ r (fun k hk ho => ?_) (fun k hk ho => ?_) hend
  · simp only [hk, dite_true] at ho; rw [hstep k hk, if_pos ho]
  · simp only [hk, dite_true] at ho; rw [hstep k hk, if_neg (by rw [ho]; simp)]

/-- A new slice, filled element by element. -/
theorem fillLoop {α β : Type} {L : List β × Int → Option ((List β × Int) ⊕ List β)} (xs : List α) (f : α → β) (z : β) (hn : xs.length < 4611686018427387904)
    (hgo : ∀ k (hk : k < xs.length) (out : List β), out.length = xs.length → L (out, (k : Int)) = some (.inl (out.set k (f xs[k]), wr ((k : Int) + 1))))
    (hend : ∀ out, L (out, (xs.length : Int)) = some (.inr out)) : loopO L (List.replicate xs.length z, 0) = some (xs.map f) := by
  have key : ∀ j k (done : List β), k + j = xs.length → done = (xs.take k).map f → loopO L (done ++ List.replicate j z, (k : Int)) = some (xs.map f) := by
    intro j
    induction j with
    | zero =>
      intro k done hk hd
      have : k = xs.length := by omega
      subst this
      rw [loopO_inr (hend _), hd]; simp
    | succ j ih =>
      intro k done hk hd
      have hlt : k < xs.length := by omega
      have hdl : done.length = k := by rw [hd]; simp; omega
      have hl : (done ++ List.replicate (j + 1) z).length = xs.length := by simp [hdl]; omega
      rw [loopO_inl (hgo k hlt _ hl), wr_succ (by omega)]
      have e : (done ++ List.replicate (j + 1) z).set k (f xs[k]) = (done ++ [f xs[k]]) ++ List.replicate j z := by
        rw [List.set_append_right _ _ (by omega), hdl, Nat.sub_self, List.replicate_succ, List.set_cons_zero, List.append_assoc]; rfl
      rw [e]
      refine ih (k + 1) _ (by omega) ?_
      rw [hd, List.take_add_one, List.map_append, List.getElem?_eq_getElem hlt]; rfl
  have := key xs.length 0 [] (by omega) (by simp)
  simpa using this
end K
end Go.Proofs.Ytfgkgkkcaclfpaa
