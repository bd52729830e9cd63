/- The words in which the pure functions are written that the walks bring out of the program's text. -/
import Derived.Test.YtmhalmnbgkpmnaaGreatElems
namespace Go.Proofs.YtmhalmnbgkpmnaaGreat
open Go.RowKit
namespace K

def wr (n : Int) : Int := IntKind.i64.wrap n
theorem wr_eq (n : Int) : wr n = (n + 9223372036854775808) % 18446744073709551616 - 9223372036854775808 := IntKind.wrap_i64 n
theorem wr_id {n : Int} (h : I64 n) : wr n = n := h.wrap
theorem wr_in {n : Int} (h : -9223372036854775808 ≤ n) (h' : n ≤ 9223372036854775807) : wr n = n := I64.wrap ⟨h, h'⟩
theorem I64_wr (n : Int) : I64 (wr n) := by rw [wr_eq]; constructor <;> omega
def b8 (n : Int) : Int := IntKind.u8.wrap n
def u64w (n : Int) : Int := IntKind.u64.wrap n
theorem u64w_id {n : Int} (h : 0 ≤ n) (h' : n < 18446744073709551616) : u64w n = n := by unfold u64w; rw [IntKind.wrap_u64]; omega
def shl (a q : Int) : Int := wr (a * 2 ^ (min q.toNat 64))
def shr (a q : Int) : Int := a.fdiv (2 ^ (min q.toNat 64))
def and64 (a b : Int) : Int := wr (BitVec.ofInt 64 a &&& BitVec.ofInt 64 b).toNat
def or64 (a b : Int) : Int := wr (BitVec.ofInt 64 a ||| BitVec.ofInt 64 b).toNat
def xor64 (a b : Int) : Int := wr (BitVec.ofInt 64 a ^^^ BitVec.ofInt 64 b).toNat
def andn64 (a b : Int) : Int := wr (BitVec.ofInt 64 a &&& ~~~(BitVec.ofInt 64 b)).toNat
def xor8 (a b : Int) : Int := b8 (BitVec.ofInt 8 a ^^^ BitVec.ofInt 8 b).toNat

def need {α : Type} (c : Prop) [Decidable c] (k : Option α) : Option α := if c then k else .none
theorem need_some {α : Type} {c : Prop} [Decidable c] {k : Option α} {r : α} (h : need c k = some r) : c ∧ k = some r := by
  unfold need at h
  split at h
  · exact ⟨by assumption, h⟩
  · cases h
theorem need_t {α : Type} {c : Prop} [Decidable c] (h : c) (k : Option α) : need c k = k := if_pos h
theorem bnd {α β : Type} {e : Option α} {f : α → Option β} {r : β} (h : e.bind f = some r) : ∃ x, e = some x ∧ f x = some r := Option.bind_eq_some_iff.1 h
def ifO {α : Type} (c : Bool) (x y : Option α) : Option α := if c = true then x else y
theorem ifO_t {α : Type} {c : Bool} {x y : Option α} {r : α} (hc : c = true) (h : ifO c x y = some r) : x = some r := by rwa [ifO, if_pos hc] at h
theorem ifO_f {α : Type} {c : Bool} {x y : Option α} {r : α} (hc : c = false) (h : ifO c x y = some r) : y = some r := by rwa [ifO, if_neg (by rw [hc]; simp)] at h
@[simp] theorem ifO_true {α : Type} (x y : Option α) : ifO true x y = x := rfl
@[simp] theorem ifO_false {α : Type} (x y : Option α) : ifO false x y = y := rfl
def andO (a : Bool) (k : Option Bool) : Option Bool := if a = true then k else some false
def orO (a : Bool) (k : Option Bool) : Option Bool := if a = true then some true else k
theorem andO_t {a q : Bool} {k : Option Bool} (h : andO a k = some q) (ha : a = true) : k = some q := by rwa [andO, if_pos ha] at h
theorem andO_f {a q : Bool} {k : Option Bool} (h : andO a k = some q) (ha : a = false) : q = false := by
  rw [andO, if_neg (by rw [ha]; simp)] at h; exact (Option.some.inj h).symm
theorem orO_f {a q : Bool} {k : Option Bool} (h : orO a k = some q) (ha : a = false) : k = some q := by rwa [orO, if_neg (by rw [ha]; simp)] at h
theorem orO_t {a q : Bool} {k : Option Bool} (h : orO a k = some q) (ha : a = true) : q = true := by
  rw [orO, if_pos ha] at h; exact (Option.some.inj h).symm
theorem andO_some (a b : Bool) : andO a (some b) = some (a && b) := by cases a <;> rfl
theorem orO_some (a b : Bool) : orO a (some b) = some (a || b) := by cases a <;> rfl

def idx {α : Type} (xs : List α) (i : Int) : Option α := if 0 ≤ i then xs[i.toNat]? else .none
theorem idx_some {α : Type} {xs : List α} {i : Int} {x : α} (h : idx xs i = some x) : 0 ≤ i ∧ i < xs.length ∧ xs[i.toNat]? = some x := by
  unfold idx at h
  split at h
  · rename_i h0
    have := (List.getElem?_eq_some_iff.1 h).1
    exact ⟨h0, by omega, h⟩
  · cases h
theorem idx_nat {α : Type} (xs : List α) (k : Nat) : idx xs (k : Int) = xs[k]? := by simp [idx]
def sidx (s : ByteArray) (i : Int) : Option Int := if 0 ≤ i ∧ i < s.size then some ((s[i.toNat]!).toNat : Int) else .none
theorem sidx_some {s : ByteArray} {i x : Int} (h : sidx s i = some x) : (0 ≤ i ∧ i < s.size) ∧ ((s[i.toNat]!).toNat : Int) = x := by
  unfold sidx at h
  split at h
  · exact ⟨by assumption, Option.some.inj h⟩
  · cases h
def upd {α : Type} (xs : List α) (i : Int) (v : α) : Option (List α) := if 0 ≤ i ∧ i < xs.length then some (xs.set i.toNat v) else .none
theorem upd_some {α : Type} {xs ys : List α} {i : Int} {v : α} (h : upd xs i v = some ys) : (0 ≤ i ∧ i < xs.length) ∧ xs.set i.toNat v = ys := by
  unfold upd at h
  split at h
  · exact ⟨by assumption, Option.some.inj h⟩
  · cases h
def app {α : Type} (xs ys : List α) : Option (List α) := if xs.length + ys.length ≤ 1073741824 then some (xs ++ ys) else .none
theorem app_some {α : Type} {xs ys zs : List α} (h : app xs ys = some zs) : xs.length + ys.length ≤ 1073741824 ∧ xs ++ ys = zs := by
  unfold app at h
  split at h
  · exact ⟨by assumption, Option.some.inj h⟩
  · cases h
def mkO {α : Type} (n : Int) (z : α) : Option (List α) := if 0 ≤ n ∧ n ≤ 1073741824 then some (List.replicate n.toNat z) else .none
theorem mkO_some {α : Type} {n : Int} {z : α} {zs : List α} (h : mkO n z = some zs) : (0 ≤ n ∧ n ≤ 1073741824) ∧ List.replicate n.toNat z = zs := by
  unfold mkO at h
  split at h
  · exact ⟨by assumption, Option.some.inj h⟩
  · cases h
def subO {α : Type} (xs : List α) (lo hi : Int) : Option (List α) := if 0 ≤ lo ∧ lo ≤ hi ∧ hi ≤ xs.length then some ((xs.take hi.toNat).drop lo.toNat) else .none
theorem subO_some {α : Type} {xs ys : List α} {lo hi : Int} (h : subO xs lo hi = some ys) : (0 ≤ lo ∧ lo ≤ hi ∧ hi ≤ xs.length) ∧ (xs.take hi.toNat).drop lo.toNat = ys := by
  unfold subO at h
  split at h
  · exact ⟨by assumption, Option.some.inj h⟩
  · cases h
def ssub (s : ByteArray) (lo hi : Int) : Option ByteArray := if 0 ≤ lo ∧ lo ≤ hi ∧ hi ≤ s.size then some (s.extract lo.toNat hi.toNat) else .none
theorem ssub_some {s t : ByteArray} {lo hi : Int} (h : ssub s lo hi = some t) : (0 ≤ lo ∧ lo ≤ hi ∧ hi ≤ s.size) ∧ s.extract lo.toNat hi.toNat = t := by
  unfold ssub at h
  split at h
  · exact ⟨by assumption, Option.some.inj h⟩
  · cases h
def sapp (s t : ByteArray) : Option ByteArray := if s.size + t.size ≤ 1073741824 then some (s ++ t) else .none
theorem sapp_some {s t u : ByteArray} (h : sapp s t = some u) : s.size + t.size ≤ 1073741824 ∧ s ++ t = u := by
  unfold sapp at h
  split at h
  · exact ⟨by assumption, Option.some.inj h⟩
  · cases h
def quoO (a b : Int) : Option Int := if b = 0 then .none else some (wr (a.tdiv b))
theorem quoO_some {a b c : Int} (h : quoO a b = some c) : b ≠ 0 ∧ wr (a.tdiv b) = c := by
  unfold quoO at h
  split at h
  · cases h
  · exact ⟨by assumption, Option.some.inj h⟩
def remO (a b : Int) : Option Int := if b = 0 then .none else some (a.tmod b)
theorem remO_some {a b c : Int} (h : remO a b = some c) : b ≠ 0 ∧ a.tmod b = c := by
  unfold remO at h
  split at h
  · cases h
  · exact ⟨by assumption, Option.some.inj h⟩
def shlO (a q : Int) : Option Int := if 0 ≤ q then some (shl a q) else .none
theorem shlO_some {a q c : Int} (h : shlO a q = some c) : 0 ≤ q ∧ shl a q = c := by
  unfold shlO at h
  split at h
  · exact ⟨by assumption, Option.some.inj h⟩
  · cases h
def shrO (a q : Int) : Option Int := if 0 ≤ q then some (shr a q) else .none
theorem shrO_some {a q c : Int} (h : shrO a q = some c) : 0 ≤ q ∧ shr a q = c := by
  unfold shrO at h
  split at h
  · exact ⟨by assumption, Option.some.inj h⟩
  · cases h

def insO (xs : List Int) (i v : Int) : Option (List Int) := if 0 ≤ i ∧ i ≤ xs.length ∧ xs.length ≤ 1073741823 then some (xs.take i.toNat ++ v :: xs.drop i.toNat) else .none
theorem insO_some {xs ys : List Int} {i v : Int} (h : insO xs i v = some ys) : (0 ≤ i ∧ i ≤ xs.length ∧ xs.length ≤ 1073741823) ∧ xs.take i.toNat ++ v :: xs.drop i.toNat = ys := by
  unfold insO at h
  split at h
  · exact ⟨by assumption, Option.some.inj h⟩
  · cases h
def bytesL (s : ByteArray) : List Int := s.data.toList.map fun b => (b.toNat : Int)
def strB (xs : List Int) : ByteArray := xs.foldl (fun r n => r.push (UInt8.ofNat n.toNat)) ByteArray.empty
theorem bytesL_length (s : ByteArray) : (bytesL s).length = s.size := by
  unfold bytesL
  rw [List.length_map, Array.length_toList]; rfl
def mget : List (Int × Bool) → Int → Bool
  | [], _ => false
  | (a, b) :: r, k => if k = a then b else mget r k
def mset : List (Int × Bool) → Int → Bool → List (Int × Bool)
  | [], k, v => [(k, v)]
  | (a, b) :: r, k, v => if k = a then (a, v) :: r else (a, b) :: mset r k v
def iter {S R : Type} (f : S → Option (S ⊕ R)) : Nat → S → Option R
  | 0, _ => .none
  | n + 1, s => match f s with
    | some (.inl s') => iter f n s'
    | some (.inr r) => some r
    | .none => .none
theorem iter_det {S R : Type} {f : S → Option (S ⊕ R)} : ∀ (n m : Nat) (s : S) (r r' : R), iter f n s = some r → iter f m s = some r' → r = r'
  | 0, _, _, _, _, h, _ => by cases h
  | _, 0, _, _, _, _, h => by cases h
  | n + 1, m + 1, s, r, r', h, h' => by
    simp only [iter] at h h'
    cases hf : f s with
    | none => rw [hf] at h; cases h
    | some o =>
      rw [hf] at h h'
      cases o with
      | inl s' => exact iter_det n m s' r r' h h'
      | inr q => exact Option.some.inj (h.symm.trans h')
open Classical in
noncomputable def loopO {S R : Type} (f : S → Option (S ⊕ R)) (s : S) : Option R :=
  if h : ∃ r n, iter f n s = some r then some (Classical.choose h) else .none
theorem loopO_iff {S R : Type} {f : S → Option (S ⊕ R)} {s : S} {r : R} : loopO f s = some r ↔ ∃ n, iter f n s = some r := by
  unfold loopO
  constructor
  · intro h
    split at h
    · rename_i hh
      obtain ⟨n, hn⟩ := Classical.choose_spec hh
      exact ⟨n, by rw [← Option.some.inj h]; exact hn⟩
    · cases h
  · rintro ⟨n, hn⟩
    have hh : ∃ r n, iter f n s = some r := ⟨r, n, hn⟩
    rw [dif_pos hh]
    obtain ⟨m, hm⟩ := Classical.choose_spec hh
    rw [iter_det m n s _ _ hm hn]
theorem loopO_inl {S R : Type} {f : S → Option (S ⊕ R)} {s s' : S} (h : f s = some (.inl s')) : loopO f s = loopO f s' := by
  apply Option.ext
  intro r
  rw [loopO_iff, loopO_iff]
  constructor
  · rintro ⟨n, hn⟩
    cases n with
    | zero => cases hn
    | succ n => simp only [iter, h] at hn; exact ⟨n, hn⟩
  · rintro ⟨n, hn⟩
    exact ⟨n + 1, by simp only [iter, h]; exact hn⟩
theorem loopO_inr {S R : Type} {f : S → Option (S ⊕ R)} {s : S} {r : R} (h : f s = some (.inr r)) : loopO f s = some r :=
  loopO_iff.2 ⟨1, by simp only [iter, h]⟩
theorem loopO_to {S R : Type} {f : S → Option (S ⊕ R)} (I : S → Prop) (m : S → Nat) (g : S → R)
    (h : ∀ s, I s → (∃ s', f s = some (.inl s') ∧ I s' ∧ m s' < m s ∧ g s' = g s) ∨ f s = some (.inr (g s))) : ∀ s, I s → loopO f s = some (g s) := by
  have : ∀ n s, m s < n → I s → loopO f s = some (g s) := by
    intro n
    induction n with
    | zero => intro s hs; omega
    | succ n ih =>
      intro s hs hI
      rcases h s hI with ⟨s', h1, h2, h3, h4⟩ | h1
      · rw [loopO_inl h1, ih s' (by omega) h2, h4]
      · exact loopO_inr h1
  exact fun s hs => this _ s (Nat.lt_succ_self _) hs
theorem loopO_up {S R : Type} {f : S → Option (S ⊕ R)} (st : Nat → S) (n : Nat) (r : R) (hend : f (st n) = some (.inr r)) (hgo : ∀ k, k < n → f (st k) = some (.inl (st (k + 1)))) : ∀ k, k ≤ n → loopO f (st k) = some r := by
  intro k hk
  obtain ⟨j, rfl⟩ : ∃ j, n = k + j := ⟨n - k, by omega⟩
  clear hk
  induction j generalizing k with
  | zero => exact loopO_inr hend
  | succ j ih =>
    rw [loopO_inl (hgo k (by omega))]
    exact ih (k + 1) (by rw [show k + 1 + j = k + (j + 1) by omega]; exact hend) (fun i hi => hgo i (by omega))
def fork {X R T : Type} (x : X ⊕ R) (k : X → Option T) (k' : R → Option T) : Option T := match x with
  | .inl e => k e
  | .inr r => k' r
theorem fork_l {X R T : Type} {e : X} {k : X → Option T} {k' : R → Option T} {r : T} (h : fork (.inl e) k k' = some r) : k e = some r := h
theorem fork_r {X R T : Type} {e : R} {k : X → Option T} {k' : R → Option T} {r : T} (h : fork (.inr e) k k' = some r) : k' e = some r := h

end K
end Go.Proofs.YtmhalmnbgkpmnaaGreat
