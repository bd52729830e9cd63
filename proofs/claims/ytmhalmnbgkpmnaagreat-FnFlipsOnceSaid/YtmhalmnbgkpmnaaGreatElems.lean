/- Slices whose elements are of several cells. -/
import Derived.Test.YtmhalmnbgkpmnaaGreatMut
import Derived.Test.YtmhalmnbgkpmnaaGreatFrame
namespace Go.Proofs.YtmhalmnbgkpmnaaGreat
open Go.RowKit Go.ChangeShapes Go.WideShapes
namespace K

structure El (α : Type) where
  enc : α → List Value
  k : Nat
  ok : World → α → Prop
  mono : ∀ {w w' x}, Ext w w' → ok w x → ok w' x
  len : ∀ x, (enc x).length = k
structure RdS {α : Type} (S : El α) (w : World) (a : Option Addr) (n : Nat) (xs : List α) : Prop where
  len : n = xs.length
  bd : n ≤ 9223372036854775807
  at_ : ∀ i x, xs[i]? = some x → S.ok w x ∧ ∃ b o, a = some ⟨b, o, none⟩ ∧ ∀ j v, (S.enc x)[j]? = some v → w.cell? ⟨b, o + i * S.k + j, none⟩ = some v
theorem RdS.ext {α : Type} {S : El α} {w w' : World} {a : Option Addr} {n : Nat} {xs : List α} (h : RdS S w a n xs) (k : Ext w w') : RdS S w' a n xs :=
  ⟨h.len, h.bd, fun i x hx => let ⟨hr, b, o, e, hc⟩ := h.at_ i x hx; ⟨S.mono k hr, b, o, e, fun j v hj => k.cell (hc j v hj)⟩⟩
theorem RdS.get {α : Type} {S : El α} {w : World} {a : Option Addr} {n : Nat} {xs : List α} (h : RdS S w a n xs) {i : Nat} (hi : i < n) :
    ∃ b o x, a = some ⟨b, o, none⟩ ∧ xs[i]? = some x ∧ S.ok w x ∧ ∀ j v, (S.enc x)[j]? = some v → w.cell? ⟨b, o + i * S.k + j, none⟩ = some v := by
  have hx : xs[i]? = some (xs[i]'(by rw [← h.len]; exact hi)) := List.getElem?_eq_getElem _
  obtain ⟨hr, b, o, e, hc⟩ := h.at_ i _ hx
  exact ⟨b, o, _, e, hx, hr, hc⟩
theorem cells_add {w0 w : World} {F : List Chunk} (hs : St w0 F w) {b o : Nat} {l : List Value} (h : ∀ j v, l[j]? = some v → w0.cell? ⟨b, o + j, none⟩ = some v) : ∀ j v, l[j]? = some v → w.cell? ((⟨b, o, none⟩ : Addr).add j) = some v := fun j v hj => by
  rw [Addr.add_lit]; exact hs.cell (h j v hj)

theorem flatMap_at {α : Type} {enc : α → List Value} {k : Nat} (hk : ∀ x, (enc x).length = k) : ∀ (xs : List α) (i j : Nat) (x : α) (v : Value), xs[i]? = some x → (enc x)[j]? = some v → (xs.flatMap enc)[i * k + j]? = some v
  | [], _, _, _, _, h, _ => by simp at h
  | y :: r, 0, j, x, v, h, hv => by
    obtain rfl : y = x := by simpa using h
    have hj : j < (enc y).length := (List.getElem?_eq_some_iff.1 hv).1
    rw [List.flatMap_cons, Nat.zero_mul, Nat.zero_add, List.getElem?_append_left hj]; exact hv
  | y :: r, i + 1, j, x, v, h, hv => by
    rw [List.flatMap_cons, List.getElem?_append_right (by rw [hk, Nat.succ_mul]; omega), hk]
    have e : (i + 1) * k + j - k = i * k + j := by rw [Nat.succ_mul]; omega
    rw [e]
    exact flatMap_at hk r i j x v (by simpa using h) hv
theorem flatMap_len {α : Type} {enc : α → List Value} {k : Nat} (hk : ∀ x, (enc x).length = k) : ∀ xs : List α, (xs.flatMap enc).length = xs.length * k
  | [] => by simp
  | y :: r => by rw [List.flatMap_cons, List.length_append, hk, flatMap_len hk r, List.length_cons, Nat.succ_mul, Nat.add_comm]
theorem RdS.row {α : Type} {S : El α} {T m c : Nat} {a : Option Addr} {w : World} {xs : List α} (h : RowA T S.k a m c (xs.flatMap S.enc) w) (hm : m = xs.length) (hok : ∀ x ∈ xs, S.ok w x) : RdS S w a m xs := by
  refine ⟨hm, ?_, fun i x hx => ⟨hok x (List.mem_of_getElem? hx), ?_⟩⟩
  · rcases h.2 with ⟨_, rfl, _⟩ | ⟨g, pre, sp, post, _, _, h2, h3, _⟩
    · omega
    · unfold maxLen at h3; omega
  · have hi : i < m := by rw [hm]; exact (List.getElem?_eq_some_iff.1 hx).1
    obtain ⟨g, o, rfl⟩ := h.addr (by omega)
    refine ⟨g, o, rfl, fun j v hj => ?_⟩
    obtain ⟨g', o', e, hc⟩ := h.cell (flatMap_at S.len xs i j x v hx hj)
    simp only [Option.some.injEq, Addr.mk.injEq, and_true] at e
    obtain ⟨rfl, rfl⟩ := e
    rw [Nat.add_assoc]; exact hc

theorem lset_append : ∀ (vs xs sp : List Value) (j : Nat), j + vs.length ≤ xs.length → lset (xs ++ sp) j vs = lset xs j vs ++ sp
  | [], _, _, _, _ => rfl
  | v :: vs, xs, sp, j, h => by
    have hj : j < xs.length := by simp at h; omega
    show lset ((xs ++ sp).set j v) (j + 1) vs = lset (xs.set j v) (j + 1) vs ++ sp
    rw [List.set_append_left _ _ hj]
    exact lset_append vs _ sp (j + 1) (by simp at h ⊢; omega)
theorem lset_mid : ∀ (vs a z r : List Value), vs.length = z.length → lset (a ++ (z ++ r)) a.length vs = a ++ (vs ++ r)
  | [], a, z, r, h => by
    have : z = [] := List.eq_nil_of_length_eq_zero (by simpa using h.symm)
    subst this; rfl
  | v :: vs, a, z :: zs, r, h => by
    show lset ((a ++ (z :: zs ++ r)).set a.length v) (a.length + 1) vs = _
    rw [List.set_append_right _ _ (Nat.le_refl _), Nat.sub_self]
    show lset (a ++ (v :: (zs ++ r))) (a.length + 1) vs = _
    have := lset_mid vs (a ++ [v]) zs r (by simpa using h)
    simpa using this
  | v :: vs, a, [], r, h => by simp at h
def fillN {α : Type} (enc : α → List Value) (z : List Value) (xs : List α) (i : Nat) : List Value := (xs.take i).flatMap enc ++ (List.replicate (xs.length - i) z).flatten
theorem fillN_zero {α : Type} (enc : α → List Value) (z : List Value) (xs : List α) : fillN enc z xs 0 = (List.replicate xs.length z).flatten := by simp [fillN]
theorem fillN_all {α : Type} (enc : α → List Value) (z : List Value) (xs : List α) : fillN enc z xs xs.length = xs.flatMap enc := by simp [fillN]
theorem fillN_length {α : Type} {enc : α → List Value} {k : Nat} (hk : ∀ x, (enc x).length = k) (z : List Value) (hz : z.length = k) (xs : List α) (i : Nat) (hi : i ≤ xs.length) : (fillN enc z xs i).length = xs.length * k := by
  rw [fillN, List.length_append, flatMap_len hk, List.length_take, Nat.min_eq_left hi, List.length_flatten, List.map_replicate, List.sum_replicate_nat, hz, ← Nat.add_mul]
  congr 1; omega
theorem fillN_set {α : Type} {enc : α → List Value} {k : Nat} (hk : ∀ x, (enc x).length = k) (z : List Value) (hz : z.length = k) (xs : List α) (i : Nat) {x : α} (h : xs[i]? = some x) : lset (fillN enc z xs i) (i * k) (enc x) = fillN enc z xs (i + 1) := by
  obtain ⟨hi, rfl⟩ := List.getElem?_eq_some_iff.1 h
  unfold fillN
  have h2 : xs.length - i = (xs.length - (i + 1)) + 1 := by omega
  have h1 : ((xs.take i).flatMap enc).length = i * k := by rw [flatMap_len hk, List.length_take, Nat.min_eq_left (by omega)]
  rw [h2, List.replicate_succ, List.flatten_cons, ← h1, lset_mid _ _ _ _ (by rw [hk, hz]), List.take_add_one, List.flatMap_append, List.append_assoc]
  simp [h]

section
variable {P : Program} {n : Nat} {w0 : World} {E : Env} {d : Option Tmp} {ty : TypeId} {pos : String} {af : Array Edge} {g : Option (Nat × Bool)} {K : Value → List Chunk → Prop}
theorem run_eql_string (w : World) (t : TypeId) (p q : ByteArray) : (Go.binOp .eql t (.string p) (.string q)).run P w = .ok (.bool (p.toList == q.toList)) w := by
  simp only [Go.binOp]
  simp [Op.stringOp]
theorem run_neq_string (w : World) (t : TypeId) (p q : ByteArray) : (Go.binOp .neq t (.string p) (.string q)).run P w = .ok (.bool (!(p.toList == q.toList))) w := by
  simp only [Go.binOp]
  simp [Op.stringOp]
theorem OpV.seql {F : List Chunk} {t t' : TypeId} {x y : Operand} {p q : ByteArray} (hx : ev E x = some (.string p)) (hy : ev E y = some (.string q)) : OpV P w0 F E ⟨d, .binOp .eql t x y t', ty, pos, af, g⟩ (.bool (p.toList == q.toList)) :=
  .of_run fun a w hg _ => by
    simp [execOp, hg.ev hx, hg.ev hy, eqGuard_at_string, run_eql_string w t p q]
theorem OpV.sneq {F : List Chunk} {t t' : TypeId} {x y : Operand} {p q : ByteArray} (hx : ev E x = some (.string p)) (hy : ev E y = some (.string q)) : OpV P w0 F E ⟨d, .binOp .neq t x y t', ty, pos, af, g⟩ (.bool (!(p.toList == q.toList))) :=
  .of_run fun a w hg _ => by
    simp [execOp, hg.ev hx, hg.ev hy, eqGuard_at_string, run_neq_string w t p q]
theorem OpH.storeRowN {A C : List Chunk} {t : TypeId} {x y : Operand} {T k b o j m c : Nat} {xs vs : List Value} {v : Value} (hx : ev E x = some (.pointer (some ⟨b, o + j, .none⟩))) (hy : ev E y = some v) (hvs : v.cells = vs.toArray)
    (ht : tySize P t = some vs.length) (hl : j + vs.length ≤ m * k) (hv : vs.all Value.oneCell' = true)
    (hk : K undef (A ++ Chunk.row T k (some ⟨b, o, .none⟩) m c (lset xs j vs) :: C)) : OpH P w0 (A ++ Chunk.row T k (some ⟨b, o, .none⟩) m c xs :: C) E ⟨d, .store t x y, ty, pos, af, g⟩ K := fun a w hg hs K' Q' hK => by
  obtain ⟨h1, h2⟩ := (hs.own (Chunk.row T k (some ⟨b, o, .none⟩) m c xs) (by simp)).1
  rcases h2 with ⟨h, _⟩ | ⟨g', pre, sp, post, e, h2, h3, h4, h5⟩
  · cases h
  · simp only [Option.some.injEq, Addr.mk.injEq, and_true] at e
    obtain ⟨rfl, rfl⟩ := e
    have hs' : St w0 (A ++ Chunk.box b T (pre ++ (xs ++ (sp ++ post))) :: C) w := hs.swap rfl fun _ => h5
    refine OpH.store (K := fun v F' => v = undef ∧ F' = A ++ Chunk.box b T (lset (pre ++ (xs ++ (sp ++ post))) (pre.length + j) vs) :: C) hx hy hvs ht (Nat.ble_eq_true_of_le (by rw [List.length_append, List.length_append]; omega)) hv ⟨rfl, rfl⟩ a w hg hs' K' Q' ?_
    rintro v' F' w' ⟨rfl, rfl⟩ hst
    rw [lset_pre, lset_append vs xs (sp ++ post) j (by omega)] at hst
    exact hK _ _ w' hk (St.box_rowP (pre := pre) (sp := sp) (post := post) hst (by rw [lset_length]; exact h1) (by rw [List.length_append, lset_length, ← List.length_append]; exact h2) h3 h4)
end
section
variable {H : Type} {enc : TypeId × Value → H} {P : Program} {w : World} {base : Nat} {spare : Nat → Bool} {held : Bool} {fuel : Nat} {t : TypeId} {cs : List Value} {x : Go.DataW H × List MemPlace}
theorem slice_els {α : Type} [Inhabited α] {S : El α} {e : TypeId} (ht : P.underlying t = some (.slice e)) (hc : P.cellsOf e = S.k) (hk : 0 < S.k) (h : DataW.trod enc P w base spare held fuel t cs = some x)
    (hp : ∀ (m : Nat) l y, l.length = S.k → DataW.trod enc P w base spare held m e l = some y → ∃ x, S.enc x = l ∧ S.ok w x) : ∃ a n c xs, cs = [.slice a n c] ∧ RdS S w a n xs := by
  rcases Go.Deep.open_slice ht h with ⟨rfl, _⟩ | ⟨a, len, cap, m, n, D, Pl, rfl, _, hl, hm, hmm, _, hV⟩
  · exact ⟨.none, 0, 0, [], rfl, rfl, by omega, fun i x hx => by simp at hx⟩
  · have hm' : len ≤ m := by rw [hmm]; split <;> omega
    rw [hc] at hV
    obtain ⟨X, hX⟩ := Go.Deep.choose_lt (α := α) (n := len) (p := fun i x => S.ok w x ∧ w.cells? base (a.add (i * S.k)) S.k = some (S.enc x)) (fun i hi => by
      obtain ⟨l, h1, h2⟩ := hV i (by omega)
      obtain ⟨_, hlen, _⟩ := World.cells?_some h1
      obtain ⟨x, rfl, hx⟩ := hp n l _ hlen h2
      exact ⟨x, hx, h1⟩)
    have cell : ∀ i, i < len → ∀ j v, (S.enc (X i))[j]? = some v → w.cell? ((a.add (i * S.k)).add j) = some v := fun i hi j v hj => by
      obtain ⟨_, hlen, hcell⟩ := World.cells?_some (hX i hi).2
      have := hcell j (by rw [← S.len (X i)]; exact (List.getElem?_eq_some_iff.1 hj).1)
      rw [this]; exact hj
    refine ⟨some a, len, cap, (List.range len).map X, rfl, by simp, by unfold maxLen at hm; omega, fun i y hy => ?_⟩
    simp only [List.getElem?_map, Option.map_eq_some_iff] at hy
    obtain ⟨j, hj, rfl⟩ := hy
    obtain ⟨hjl, rfl⟩ := List.getElem?_eq_some_iff.1 hj
    rw [List.getElem_range]
    have hi : i < len := by simpa using hjl
    have hs : a.spot = .none := by
      have h0 := cell 0 (by omega) 0 ((S.enc (X 0))[0]'(by rw [S.len]; exact hk)) (List.getElem?_eq_getElem _)
      cases hsp : a.spot with
      | none => rfl
      | some k =>
        have e1 : (a.add (0 * S.k)).add 0 = a := by simp [Addr.add]
        rw [e1] at h0
        unfold World.cell? at h0
        rw [hsp] at h0
        split at h0 <;> simp at h0
    obtain ⟨b, o, sp⟩ := a
    subst hs
    refine ⟨(hX i hi).1, b, o, rfl, fun j v hj => ?_⟩
    have := cell i hi j v hj
    rwa [Addr.add_lit, Addr.add_lit] at this
theorem field_string {i ft off : Nat} (h : DataW.trod enc P w base spare held fuel t cs = some x) (hi : fldAt P t i = some (ft, off, 1)) (hk : P.underlying ft = some .string) : ∃ s : ByteArray, (cs.drop off).take 1 = [.string s] ∧ s.size ≤ 9223372036854775807 := by
  obtain ⟨m, y, hy⟩ := field_at h hi
  obtain ⟨s, h1, _, h3⟩ := DataW.trod_string hk hy
  exact ⟨s, h1, by unfold maxLen at h3; omega⟩
theorem field_els {α : Type} [Inhabited α] {S : El α} {i ft off e : Nat} (h : DataW.trod enc P w base spare held fuel t cs = some x) (hi : fldAt P t i = some (ft, off, 1)) (ht : P.underlying ft = some (.slice e)) (hc : P.cellsOf e = S.k) (hk : 0 < S.k)
    (hp : ∀ (m : Nat) l y, l.length = S.k → DataW.trod enc P w base spare held m e l = some y → ∃ x, S.enc x = l ∧ S.ok w x) : ∃ a n c xs, (cs.drop off).take 1 = [.slice a n c] ∧ RdS S w a n xs := by
  obtain ⟨m, y, hy⟩ := field_at h hi
  exact slice_els ht hc hk hy hp
end
end K
end Go.Proofs.YtmhalmnbgkpmnaaGreat
