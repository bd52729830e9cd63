/- The arguments of a law, opened: what is read through them. -/
import Derived.Test.YtmhalmnbgkpmnaaGreatOwn
import Derived.Test.YtmhalmnbgkpmnaaGreatFrame
namespace Go.Proofs.YtmhalmnbgkpmnaaGreat
open Go.RowKit Go.ChangeShapes Go.WideShapes
namespace K
section
variable {H : Type} {enc : TypeId × Value → H} {P : Program} {w : World} {base : Nat} {spare : Nat → Bool} {held : Bool} {fuel : Nat} {t : TypeId} {cs : List Value} {x : Go.DataW H × List MemPlace}
theorem slice_rd {α : Type} [Inhabited α] {A : Ty α} {ok : α → Prop} {e : TypeId} (ht : P.underlying t = some (.slice e)) (hc : P.cellsOf e = A.k) (h : DataW.trod enc P w base spare held fuel t cs = some x)
    (hp : ∀ (m : Nat) l y, l.length = A.k → DataW.trod enc P w base spare held m e l = some y → ∃ x, A.rd w l x ∧ ok x) : ∃ a n c xs, cs = [.slice a n c] ∧ Rd A w a n c xs ∧ (xs.length ≤ 9223372036854775807 ∧ ∀ x ∈ xs, ok x) := by
  rcases Go.Deep.open_slice ht h with ⟨rfl, _⟩ | ⟨a, len, cap, m, n, D, Pl, rfl, _, hl, hm, hmm, _, hV⟩
  · exact ⟨.none, 0, 0, [], rfl, ⟨rfl, ⟨by simp, by omega⟩, fun i x hx => by simp at hx⟩, by simp, by simp⟩
  · have hm' : len ≤ m := by rw [hmm]; split <;> omega
    rw [hc] at hV
    obtain ⟨X, hX⟩ := Go.Deep.choose_lt (α := α × List Value) (n := len) (p := fun i x => A.rd w x.2 x.1 ∧ ok x.1 ∧ w.cells? base (a.add (i * A.k)) A.k = some x.2) (fun i hi => by
      obtain ⟨l, h1, h2⟩ := hV i (by omega)
      obtain ⟨_, hlen, _⟩ := World.cells?_some h1
      obtain ⟨x, hx, ho⟩ := hp n l _ hlen h2
      exact ⟨(x, l), hx, ho, h1⟩)
    have cell : ∀ i, i < len → ∀ j v, (X i).2[j]? = some v → w.cell? ((a.add (i * A.k)).add j) = some v := fun i hi j v hj => by
      obtain ⟨_, hlen, hcell⟩ := World.cells?_some (hX i hi).2.2
      have := hcell j (by rw [← hlen]; exact (List.getElem?_eq_some_iff.1 hj).1)
      rw [this]; exact hj
    refine ⟨some a, len, cap, (List.range len).map fun i => (X i).1, rfl, ⟨by simp, ⟨by simpa using hl, by unfold maxLen at hm; omega⟩, fun i y hy => ?_⟩, by unfold maxLen at hm; simp; omega, fun y hy => ?_⟩
    · simp only [List.getElem?_map, Option.map_eq_some_iff] at hy
      obtain ⟨j, hj, rfl⟩ := hy
      obtain ⟨hjl, rfl⟩ := List.getElem?_eq_some_iff.1 hj
      rw [List.getElem_range]
      have hi : i < len := by simpa using hjl
      have hk : 0 < (X 0).2.length := by rw [A.len (hX 0 (by omega)).1]; exact A.pos
      have hs : a.spot = .none := by
        have h0 := cell 0 (by omega) 0 _ (List.getElem?_eq_getElem hk)
        cases hsp : a.spot with
        | none => rfl
        | some k =>
          have e1 : (a.add (0 * A.k)).add 0 = a := by simp [Addr.add]
          rw [e1] at h0
          unfold World.cell? at h0
          rw [hsp] at h0
          split at h0 <;> simp at h0
      obtain ⟨b, o, sp⟩ := a
      subst hs
      refine ⟨b, o, (X i).2, rfl, (hX i hi).1, fun j v hj => ?_⟩
      have := cell i hi j v hj
      rwa [Addr.add_lit, Addr.add_lit] at this
    · obtain ⟨i, hi, rfl⟩ := List.mem_map.1 hy
      exact (hX i (List.mem_range.1 hi)).2.1
theorem field_rd {α : Type} [Inhabited α] {A : Ty α} {ok : α → Prop} {i ft off e : Nat} (h : DataW.trod enc P w base spare held fuel t cs = some x) (hi : fldAt P t i = some (ft, off, 1)) (ht : P.underlying ft = some (.slice e)) (hc : P.cellsOf e = A.k)
    (hp : ∀ (m : Nat) l y, l.length = A.k → DataW.trod enc P w base spare held m e l = some y → ∃ x, A.rd w l x ∧ ok x) : ∃ a n c xs, (cs.drop off).take 1 = [.slice a n c] ∧ Rd A w a n c xs ∧ (xs.length ≤ 9223372036854775807 ∧ ∀ x ∈ xs, ok x) := by
  obtain ⟨m, y, hy⟩ := field_at h hi
  exact slice_rd ht hc hy hp
theorem arg_rd {α : Type} [Inhabited α] {A : Ty α} {ok : α → Prop} {e : TypeId} {r : Reach} {b0 : Nat} {v : Value} {d : DataW H} {p : List MemPlace} (ht : P.underlying t = some (.slice e)) (hc : P.cellsOf e = A.k) (hv : Value.okWide P w r b0 t v) (h : DataW.Trod enc P w base spare held t v d p)
    (hp : ∀ (m : Nat) l y, l.length = A.k → DataW.trod enc P w base spare held m e l = some y → ∃ x, A.rd w l x ∧ ok x) : ∃ a n c xs, v = .slice a n c ∧ Rd A w a n c xs ∧ (xs.length ≤ 9223372036854775807 ∧ ∀ x ∈ xs, ok x) := by
  obtain ⟨a, n, c, rfl⟩ := okWide_slice ht hv
  obtain ⟨fuel, hf⟩ := h
  obtain ⟨a', n', c', xs, he, hx⟩ := slice_rd ht hc hf hp
  simp [Value.cells] at he
  obtain ⟨rfl, rfl, rfl⟩ := he
  exact ⟨_, _, _, xs, rfl, hx⟩
theorem el_int {A : Ty Int} (hA : ∀ (w : World) cs n, cs = [.int .i64 n] → A.rd w cs n) (ht : P.underlying t = some (.int .i64)) (h : DataW.trod enc P w base spare held fuel t cs = some x) : ∃ n, A.rd w cs n ∧ I64 n := by
  obtain ⟨n, h1, _, h3⟩ := DataW.trod_int ht h
  exact ⟨n, hA w cs n h1, I64.of_wf h3⟩
theorem el_u8 {A : Ty Int} (hA : ∀ (w : World) cs n, cs = [.int .u8 n] → A.rd w cs n) (ht : P.underlying t = some (.int .u8)) (h : DataW.trod enc P w base spare held fuel t cs = some x) : ∃ n, A.rd w cs n ∧ (0 ≤ n ∧ n ≤ 255) := by
  obtain ⟨n, h1, _, h3⟩ := DataW.trod_int ht h
  refine ⟨n, hA w cs n h1, ?_⟩
  simp [Lit.wf, IntKind.min, IntKind.max, IntKind.signed, IntKind.bits] at h3
  omega
theorem el_bool {A : Ty Bool} (hA : ∀ (w : World) cs n, cs = [.bool n] → A.rd w cs n) (ht : P.underlying t = some .bool) (h : DataW.trod enc P w base spare held fuel t cs = some x) : ∃ n, A.rd w cs n ∧ True := by
  obtain ⟨n, h1, _⟩ := DataW.trod_bool ht h
  exact ⟨n, hA w cs n h1, trivial⟩
theorem field_str {i ft off : Nat} (h : DataW.trod enc P w base spare held fuel t cs = some x) (hi : fldAt P t i = some (ft, off, 1)) (hk : P.underlying ft = some .string) : ∃ s : ByteArray, (cs.drop off).take 1 = [.string s] ∧ s.size ≤ 9223372036854775807 := field_string h hi hk
end
end K
end Go.Proofs.YtmhalmnbgkpmnaaGreat
