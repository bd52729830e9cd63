/- Slices: what is read through them; memory that a callee hands back. -/
import Derived.Test.YtmhalmnbgkpmnaaGreatDrawn
import Derived.Deep.AppendSrc
namespace Go.Proofs.YtmhalmnbgkpmnaaGreat
open Go.RowKit
namespace K

theorem Ext.cell {w w' : World} (h : Ext w w') {p : Addr} {v : Value} (hc : w.cell? p = some v) : w'.cell? p = some v := by
  rw [Below.cell h (World.block_lt_of_cell? w p hc)]; exact hc
theorem St.cell {w0 : World} {F : List Chunk} {w : World} (h : St w0 F w) {p : Addr} {v : Value} (hc : w0.cell? p = some v) : w.cell? p = some v := Ext.cell h.below hc

theorem St.comp {w0 : World} {F G : List Chunk} {w w' : World} (h : St w0 F w) (k : St w G w') : St w0 (G ++ F) w' := by
  have h' := h.ext k.below
  refine ⟨h'.below, fun c hc => ?_, ?_⟩
  · rcases List.mem_append.1 hc with hc | hc
    · exact ⟨(k.own c hc).1, fun b hb => Nat.le_trans h.below.size ((k.own c hc).2 b hb)⟩
    · exact h'.own c hc
  · rw [List.flatMap_append, List.nodup_append]
    refine ⟨k.nodup, h.nodup, fun b hb b' hb' e => ?_⟩
    subst e
    obtain ⟨d, hd, hbd⟩ := List.mem_flatMap.1 hb'
    obtain ⟨c, hc, hbc⟩ := List.mem_flatMap.1 hb
    have h1 := d.bd w (h.own d hd).1 b hbd
    have h2 := (k.own c hc).2 b hbc
    omega
theorem flat_sub {F' F : List Chunk} (hs : List.Sublist F' F) : List.Sublist (F'.flatMap Chunk.fp) (F.flatMap Chunk.fp) := by
  induction hs with
  | slnil => exact List.Sublist.refl _
  | cons c _ ih => rw [List.flatMap_cons]; exact ih.trans (List.sublist_append_right _ _)
  | cons_cons c _ ih => rw [List.flatMap_cons, List.flatMap_cons]; exact (List.Sublist.refl _).append ih
theorem St.sub {w0 : World} {F F' : List Chunk} {w : World} (h : St w0 F w) (hs : List.Sublist F' F) : St w0 F' w :=
  ⟨h.below, fun c hc => h.own c (hs.subset hc), (flat_sub hs).nodup h.nodup⟩
theorem St.forget {w0 : World} {F : List Chunk} {w : World} (h : St w0 F w) : St w0 [] w := h.sub (List.nil_sublist _)

section
variable {P : Program} {n : Nat} {w0 : World} {F : List Chunk} {E : Env} {d : Option Tmp} {ty : TypeId} {pos : String} {af : Array Edge} {g : Option (Nat × Bool)} {K : Value → List Chunk → Prop}
theorem OpH.callR {R : Value → List Chunk → Prop} {f : FuncId} {xs : Array Operand} {tys : Array TypeId} {vs : List Value} (hxs : evs E xs.toList vs) (hf : callable P f = true)
    (hc : ∀ w, St w0 F w → Calls P f vs.toArray w fun e w' => ∃ v G, e = .returned v ∧ R v G ∧ St w G w') (hk : ∀ v G, R v G → K v (G ++ F)) :
    OpH P w0 F E ⟨d, .call ⟨.value (.func f), xs, tys⟩, ty, pos, af, g⟩ K :=
  .call hxs hf fun w hs => (hc w hs).mono fun _ _ ⟨v, G, he, hr, hst⟩ => ⟨v, G ++ F, he, hk v G hr, hs.comp hst⟩
theorem OpH.light {o : Oper} {v : Value} (h : OpV P w0 F E o v) (hk : K v F) : OpH P w0 F E o K := fun a w hg hs K' Q' hK =>
  Oper.wp_of_quiet (C := St w0 F) (K := fun a' => a' = a.put o.dst v) hs (fun a' w' hw' e => by subst e; exact hK v F w' hk hw') ⟨v, fun w' hw' => h.at hg hw', rfl⟩
end

structure RdI (w : World) (a : Option Addr) (n : Nat) (xs : List Int) : Prop where
  len : n = xs.length
  bd : n ≤ 9223372036854775807
  at_ : ∀ k x, xs[k]? = some x → I64 x ∧ ∃ b o, a = some ⟨b, o, none⟩ ∧ w.cell? ⟨b, o + k, none⟩ = some (.int .i64 x)
theorem RdI.ext {w w' : World} {a : Option Addr} {n : Nat} {xs : List Int} (h : RdI w a n xs) (k : Ext w w') : RdI w' a n xs :=
  ⟨h.len, h.bd, fun i x hx => let ⟨hr, b, o, e, hc⟩ := h.at_ i x hx; ⟨hr, b, o, e, k.cell hc⟩⟩
theorem RdI.get {w : World} {a : Option Addr} {n : Nat} {xs : List Int} (h : RdI w a n xs) {k : Nat} (hk : k < n) : ∃ b o x, a = some ⟨b, o, none⟩ ∧ xs[k]? = some x ∧ I64 x ∧ w.cell? ⟨b, o + k, none⟩ = some (.int .i64 x) := by
  have hx : xs[k]? = some (xs[k]'(by rw [← h.len]; exact hk)) := List.getElem?_eq_getElem _
  obtain ⟨hr, b, o, e, hc⟩ := h.at_ k _ hx
  exact ⟨b, o, _, e, hx, hr, hc⟩
theorem RdI.rng {w : World} {a : Option Addr} {n : Nat} {xs : List Int} (h : RdI w a n xs) : ∀ x ∈ xs, I64 x := fun x hx => by
  obtain ⟨k, hk⟩ := List.mem_iff_getElem?.1 hx
  exact (h.at_ k x hk).1
theorem RdI.nil (w : World) (a : Option Addr) : RdI w a 0 [] := ⟨rfl, by omega, fun k x h => by simp at h⟩
theorem RdI.box {w : World} {g : Nat} {T : TypeId} {xs : List Int} {sp : List Value} (h : w.heap[g]? = some (.cells (xs.map (Value.int .i64) ++ sp).toArray T (0, 0))) (hr : ∀ x ∈ xs, I64 x) (hn : xs.length ≤ 9223372036854775807) : RdI w (some ⟨g, 0, none⟩) xs.length xs :=
  ⟨rfl, hn, fun k x hx => ⟨hr x (List.mem_of_getElem? hx), g, 0, rfl, by
    rw [Nat.zero_add]
    refine cell_box h ?_
    rw [List.getElem?_append_left (by simpa using (List.getElem?_eq_some_iff.1 hx).1), List.getElem?_map, hx]; rfl⟩⟩

structure RdB (w : World) (a : Option Addr) (n : Nat) (xs : List Bool) : Prop where
  len : n = xs.length
  bd : n ≤ 9223372036854775807
  at_ : ∀ k x, xs[k]? = some x → ∃ b o, a = some ⟨b, o, none⟩ ∧ w.cell? ⟨b, o + k, none⟩ = some (.bool x)
theorem RdB.ext {w w' : World} {a : Option Addr} {n : Nat} {xs : List Bool} (h : RdB w a n xs) (k : Ext w w') : RdB w' a n xs :=
  ⟨h.len, h.bd, fun i x hx => let ⟨b, o, e, hc⟩ := h.at_ i x hx; ⟨b, o, e, k.cell hc⟩⟩
theorem RdB.get {w : World} {a : Option Addr} {n : Nat} {xs : List Bool} (h : RdB w a n xs) {k : Nat} (hk : k < n) : ∃ b o x, a = some ⟨b, o, none⟩ ∧ xs[k]? = some x ∧ w.cell? ⟨b, o + k, none⟩ = some (.bool x) := by
  have hx : xs[k]? = some (xs[k]'(by rw [← h.len]; exact hk)) := List.getElem?_eq_getElem _
  obtain ⟨b, o, e, hc⟩ := h.at_ k _ hx
  exact ⟨b, o, _, e, hx, hc⟩
theorem RdB.box {w : World} {g : Nat} {T : TypeId} {xs : List Bool} {sp : List Value} (h : w.heap[g]? = some (.cells (xs.map Value.bool ++ sp).toArray T (0, 0))) (hn : xs.length ≤ 9223372036854775807) : RdB w (some ⟨g, 0, none⟩) xs.length xs :=
  ⟨rfl, hn, fun k x hx => ⟨g, 0, rfl, by
    rw [Nat.zero_add]
    refine cell_box h ?_
    rw [List.getElem?_append_left (by simpa using (List.getElem?_eq_some_iff.1 hx).1), List.getElem?_map, hx]; rfl⟩⟩

structure RdU (w : World) (a : Option Addr) (n : Nat) (xs : List UInt8) : Prop where
  len : n = xs.length
  bd : n ≤ 9223372036854775807
  at_ : ∀ k x, xs[k]? = some x → ∃ b o, a = some ⟨b, o, none⟩ ∧ w.cell? ⟨b, o + k, none⟩ = some (.int .u8 x.toNat)
theorem RdU.ext {w w' : World} {a : Option Addr} {n : Nat} {xs : List UInt8} (h : RdU w a n xs) (k : Ext w w') : RdU w' a n xs :=
  ⟨h.len, h.bd, fun i x hx => let ⟨b, o, e, hc⟩ := h.at_ i x hx; ⟨b, o, e, k.cell hc⟩⟩
theorem RdU.get {w : World} {a : Option Addr} {n : Nat} {xs : List UInt8} (h : RdU w a n xs) {k : Nat} (hk : k < n) : ∃ b o x, a = some ⟨b, o, none⟩ ∧ xs[k]? = some x ∧ w.cell? ⟨b, o + k, none⟩ = some (.int .u8 x.toNat) := by
  have hx : xs[k]? = some (xs[k]'(by rw [← h.len]; exact hk)) := List.getElem?_eq_getElem _
  obtain ⟨b, o, e, hc⟩ := h.at_ k _ hx
  exact ⟨b, o, _, e, hx, hc⟩

section
variable {P : Program} {n : Nat} {w0 : World} {F : List Chunk} {E : Env} {d : Option Tmp} {ty : TypeId} {pos : String} {af : Array Edge} {g : Option (Nat × Bool)} {K : Value → List Chunk → Prop}
theorem OpV.idx {t : TypeId} {x y : Operand} {b o m c s : Nat} {i : Int} (hx : ev E x = some (.slice (some ⟨b, o, none⟩) m c)) (hy : ev E y = some (.int .i64 i)) (ht : sliceElem P t = some s) (h0 : 0 ≤ i) (h1 : i < m) :
    OpV P w0 F E ⟨d, .indexAddr t x y, ty, pos, af, g⟩ (.pointer (some ⟨b, o + i.toNat * s, none⟩)) := by
  have := OpV.indexAddr (P := P) (w0 := w0) (F := F) (E := E) (d := d) (ty := ty) (pos := pos) (af := af) (g := g) hx hy ht h0 h1
  rwa [Addr.add_lit] at this
theorem OpV.idx1 {t : TypeId} {x y : Operand} {b o m c k : Nat} (hx : ev E x = some (.slice (some ⟨b, o, none⟩) m c)) (hy : ev E y = some (.int .i64 k)) (ht : sliceElem P t = some 1) (h1 : k < m) :
    OpV P w0 F E ⟨d, .indexAddr t x y, ty, pos, af, g⟩ (.pointer (some ⟨b, o + k, none⟩)) := by
  have := OpV.idx (P := P) (w0 := w0) (F := F) (E := E) (d := d) (ty := ty) (pos := pos) (af := af) (g := g) hx hy ht (by omega) (by omega)
  simpa using this
theorem OpV.idxN {t : TypeId} {x y : Operand} {b o m c k s : Nat} (hx : ev E x = some (.slice (some ⟨b, o, none⟩) m c)) (hy : ev E y = some (.int .i64 k)) (ht : sliceElem P t = some s) (h1 : k < m) :
    OpV P w0 F E ⟨d, .indexAddr t x y, ty, pos, af, g⟩ (.pointer (some ⟨b, o + k * s, none⟩)) := by
  have := OpV.idx (P := P) (w0 := w0) (F := F) (E := E) (d := d) (ty := ty) (pos := pos) (af := af) (g := g) hx hy ht (by omega) (by omega)
  simpa using this

theorem St.setAt {w0 : World} {A C : List Chunk} {b k : Nat} {T : TypeId} {l : List Value} {w : World} (h : St w0 (A ++ Chunk.box b T l :: C) w) (v : Value) : St w0 (A ++ Chunk.box b T (l.set k v) :: C) (w.setCell ⟨b, k, none⟩ v) := h.setBox v
theorem OpH.store1 {A C : List Chunk} {t : TypeId} {x y : Operand} {b k : Nat} {T : TypeId} {l : List Value} {v : Value} (hx : ev E x = some (.pointer (some ⟨b, k, none⟩))) (hy : ev E y = some v) (hvs : v.cells = #[v])
    (ht : tySize P t = some 1) (hl : k < l.length) (hv : v.oneCell' = true)
    (hk : K undef (A ++ Chunk.box b T (l.set k v) :: C)) : OpH P w0 (A ++ Chunk.box b T l :: C) E ⟨d, .store t x y, ty, pos, af, g⟩ K :=
  .of_run0 fun a w hg hs => by
    obtain ⟨w', h1, h2⟩ := run_storeCells_box (P := P) (k := k) [v] 0 hs (by simp; omega) (by simp [hv])
    obtain ⟨i, hi, his⟩ := Option.map_eq_some_iff.1 ht
    refine ⟨w', _, ?_, by simpa [lset] using h2, hk⟩
    simp [execOp, hg.ev hx, hg.ev hy, Instr.storeAt, Instr.sureAddr, storeVar, hvs, sizeOf, typeInfo, hi, his, h1]

end

theorem lset_pre (pre : List Value) : ∀ (vs l : List Value) (m : Nat), lset (pre ++ l) (pre.length + m) vs = pre ++ lset l m vs
  | [], _, _ => rfl
  | u :: us, l, m => by
    show lset ((pre ++ l).set (pre.length + m) u) (pre.length + m + 1) us = pre ++ lset (l.set m u) (m + 1) us
    rw [List.set_append_right _ _ (by omega), show pre.length + m - pre.length = m by omega]
    exact lset_pre pre us _ (m + 1)
theorem lset_back (xs : List Value) : ∀ (vs sp : List Value), vs.length ≤ sp.length → lset (xs ++ sp) xs.length vs = (xs ++ vs) ++ sp.drop vs.length := by
  intro vs sp h
  have := lset_pre xs vs sp 0
  rw [Nat.add_zero] at this
  rw [this, List.append_assoc]
  congr 1
  have key : ∀ (vs sp done : List Value), vs.length ≤ sp.length → lset (done ++ sp) done.length vs = done ++ (vs ++ sp.drop vs.length) := by
    intro vs
    induction vs with
    | nil => intro sp done _; simp [lset]
    | cons v vs ih =>
      intro sp done h
      cases sp with
      | nil => simp at h
      | cons z zs =>
        show lset ((done ++ z :: zs).set done.length v) (done.length + 1) vs = _
        rw [List.set_append_right _ _ (Nat.le_refl _), Nat.sub_self, List.set_cons_zero]
        have := ih zs (done ++ [v]) (by simpa using h)
        simpa using this
  simpa using key vs sp [] h
def RowA (T k : Nat) (a : Option Addr) (n c : Nat) (xs : List Value) (w : World) : Prop :=
  xs.length = n * k ∧ ((a = .none ∧ n = 0 ∧ c = 0) ∨ ∃ g pre sp post, a = some ⟨g, pre.length, .none⟩ ∧ (xs ++ sp).length = c * k ∧ n ≤ c ∧ c ≤ maxLen ∧ w.heap[g]? = some (.cells (pre ++ (xs ++ (sp ++ post))).toArray T (0, 0)))
def blk : Option Addr → List Nat
  | some p => [p.block]
  | .none => []
theorem RowA.sup {T k : Nat} {a : Option Addr} {n c : Nat} {xs : List Value} (w w' : World) (h : ∀ b ∈ blk a, w'.heap[b]? = w.heap[b]?) (hA : RowA T k a n c xs w) : RowA T k a n c xs w' := by
  refine ⟨hA.1, ?_⟩
  rcases hA.2 with h0 | ⟨g, pre, sp, post, rfl, h1, h2, h3, h4⟩
  · exact .inl h0
  · exact .inr ⟨g, pre, sp, post, rfl, h1, h2, h3, by rw [h g (by simp [blk])]; exact h4⟩
theorem RowA.bd {T k : Nat} {a : Option Addr} {n c : Nat} {xs : List Value} (w : World) (hA : RowA T k a n c xs w) : ∀ b ∈ blk a, b < w.heap.size := by
  intro b hb
  rcases hA.2 with ⟨rfl, _⟩ | ⟨g, pre, sp, post, rfl, _, _, _, h4⟩
  · simp [blk] at hb
  · have : b = g := by simpa [blk] using hb
    subst this; exact (Array.getElem?_eq_some_iff.1 h4).1
def Chunk.row (T k : Nat) (a : Option Addr) (n c : Nat) (xs : List Value) : Chunk := .any (blk a) (RowA T k a n c xs) RowA.sup RowA.bd

section
variable {T k : Nat} {a : Option Addr} {m c : Nat} {xs : List Value} {w : World}
theorem St.swap {w0 : World} {A C : List Chunk} {x y : Chunk} {w : World} (h : St w0 (A ++ x :: C) w) (hfp : y.fp = x.fp) (hA : x.A w → y.A w) : St w0 (A ++ y :: C) w :=
  h.set hfp (hA (h.own x (by simp)).1) (fun _ _ => rfl) rfl rfl rfl rfl
theorem St.box_row {w0 : World} {A C : List Chunk} {g : Nat} {sp : List Value} (h : St w0 (A ++ Chunk.box g T (xs ++ sp) :: C) w) (h1 : xs.length = m * k) (h2 : (xs ++ sp).length = c * k) (h3 : m ≤ c) (h4 : c ≤ maxLen) : St w0 (A ++ Chunk.row T k (some ⟨g, 0, .none⟩) m c xs :: C) w :=
  h.swap rfl fun hA => ⟨h1, .inr ⟨g, [], sp, [], rfl, h2, h3, h4, by rw [List.append_nil]; exact hA⟩⟩
theorem St.box_rowP {w0 : World} {A C : List Chunk} {g : Nat} {pre sp post : List Value} (h : St w0 (A ++ Chunk.box g T (pre ++ (xs ++ (sp ++ post))) :: C) w) (h1 : xs.length = m * k) (h2 : (xs ++ sp).length = c * k) (h3 : m ≤ c) (h4 : c ≤ maxLen) : St w0 (A ++ Chunk.row T k (some ⟨g, pre.length, .none⟩) m c xs :: C) w :=
  h.swap rfl fun hA => ⟨h1, .inr ⟨g, pre, sp, post, rfl, h2, h3, h4, hA⟩⟩
theorem RowA.cell (h : RowA T k a m c xs w) {j : Nat} {v : Value} (hj : xs[j]? = some v) : ∃ g o, a = some ⟨g, o, .none⟩ ∧ w.cell? ⟨g, o + j, .none⟩ = some v := by
  rcases h.2 with ⟨_, rfl, _⟩ | ⟨g, pre, sp, post, rfl, _, _, _, h4⟩
  · have := h.1
    have h0 : xs = [] := List.eq_nil_of_length_eq_zero (by simpa using this)
    subst h0; simp at hj
  · exact ⟨g, pre.length, rfl, cell_box h4 (by rw [List.getElem?_append_right (by omega), show pre.length + j - pre.length = j by omega, List.getElem?_append_left (List.getElem?_eq_some_iff.1 hj).1]; exact hj)⟩
theorem RowA.addr (h : RowA T k a m c xs w) (hm : 0 < m) : ∃ g o, a = some ⟨g, o, .none⟩ := by
  rcases h.2 with ⟨_, rfl, _⟩ | ⟨g, pre, sp, post, rfl, _⟩
  · omega
  · exact ⟨g, _, rfl⟩
theorem RdI.row {xs : List Int} (h : RowA T 1 a m c (xs.map (Value.int .i64)) w) (hr : ∀ x ∈ xs, I64 x) : RdI w a m xs := by
  have hl : m = xs.length := by have := h.1; simp at this; omega
  refine ⟨hl, ?_, fun i x hx => ⟨hr x (List.mem_of_getElem? hx), ?_⟩⟩
  · rcases h.2 with ⟨_, rfl, _⟩ | ⟨g, pre, sp, post, _, _, h2, h3, _⟩
    · omega
    · unfold maxLen at h3; omega
  · obtain ⟨g, o, e, hc⟩ := h.cell (j := i) (v := .int .i64 x) (by simp [hx])
    exact ⟨g, o, e, hc⟩
theorem RdB.row {xs : List Bool} (h : RowA T 1 a m c (xs.map Value.bool) w) : RdB w a m xs := by
  have hl : m = xs.length := by have := h.1; simp at this; omega
  refine ⟨hl, ?_, fun i x hx => ?_⟩
  · rcases h.2 with ⟨_, rfl, _⟩ | ⟨g, pre, sp, post, _, _, h2, h3, _⟩
    · omega
    · unfold maxLen at h3; omega
  · obtain ⟨g, o, e, hc⟩ := h.cell (j := i) (v := .bool x) (by simp [hx])
    exact ⟨g, o, e, hc⟩
end

section
variable {P : Program} {n : Nat} {w0 : World} {F : List Chunk} {E : Env} {d : Option Tmp} {ty : TypeId} {pos : String} {af : Array Edge} {g : Option (Nat × Bool)} {K : Value → List Chunk → Prop}
theorem OpH.storeRow {A C : List Chunk} {t : TypeId} {x y : Operand} {T k b o j m c : Nat} {xs : List Value} {v : Value} (hx : ev E x = some (.pointer (some ⟨b, o + j, .none⟩))) (hy : ev E y = some v) (hvs : v.cells = #[v])
    (ht : tySize P t = some 1) (hl : j < m * k) (hv : v.oneCell' = true)
    (hk : K undef (A ++ Chunk.row T k (some ⟨b, o, .none⟩) m c (xs.set j v) :: C)) : OpH P w0 (A ++ Chunk.row T k (some ⟨b, o, .none⟩) m c xs :: C) E ⟨d, .store t x y, ty, pos, af, g⟩ K :=
  .of_run0 fun a w hg hs => by
    obtain ⟨h1, h2⟩ := (hs.own (Chunk.row T k (some ⟨b, o, .none⟩) m c xs) (by simp)).1
    rcases h2 with ⟨h0, _⟩ | ⟨g', pre, sp, post, e, h3, h4, h5, h6⟩
    · cases h0
    · simp only [Option.some.injEq, Addr.mk.injEq, and_true] at e
      obtain ⟨rfl, rfl⟩ := e
      have hs' : St w0 (A ++ Chunk.box b T (pre ++ (xs ++ (sp ++ post))) :: C) w := hs.swap rfl fun _ => h6
      obtain ⟨w', r1, r2⟩ := run_storeCells_box (P := P) (k := pre.length + j) [v] 0 hs' (by simp; omega) (by simp [hv])
      obtain ⟨i, hi, his⟩ := Option.map_eq_some_iff.1 ht
      have e2 : lset (pre ++ (xs ++ (sp ++ post))) (pre.length + j + 0) [v] = pre ++ (xs.set j v ++ (sp ++ post)) := by
        rw [Nat.add_zero, lset_pre]
        simp only [lset]
        rw [List.set_append_left _ _ (by omega)]
      rw [e2] at r2
      refine ⟨w', _, ?_, r2.box_rowP (by simpa using h1) (by simpa using h3) h4 h5, hk⟩
      simp [execOp, hg.ev hx, hg.ev hy, Instr.storeAt, Instr.sureAddr, storeVar, hvs, sizeOf, typeInfo, hi, his, r1]

def makeInfo (P : Program) (t : TypeId) : Option (Nat × Nat × List Value) := match P.underlying t with
  | some (.slice e) => match P.info? e with
    | some i => match i.zero with
      | some z => if i.size = z.cells.size then some (e, i.bytes, z.cells.toList) else .none
      | .none => .none
    | .none => .none
  | _ => .none
theorem makeInfo_open {t e by_ : Nat} {zs : List Value} (h : makeInfo P t = some (e, by_, zs)) : ∃ i z, P.underlying t = some (.slice e) ∧ P.info? e = some i ∧ i.zero = some z ∧ i.bytes = by_ ∧ z.cells.toList = zs ∧ i.size = zs.length := by
  unfold makeInfo at h
  split at h
  · rename_i e' hu
    split at h
    · rename_i i hi
      split at h
      · rename_i z hz
        split at h
        · rename_i hsz
          simp only [Option.some.injEq, Prod.mk.injEq] at h
          obtain ⟨rfl, rfl, rfl⟩ := h
          exact ⟨i, z, hu, hi, hz, rfl, rfl, by simpa using hsz⟩
        · cases h
      · cases h
    · cases h
  · cases h
theorem madeCells_toList (z : Array Value) (n : Nat) : (madeCells z (n * z.size)).toList = (List.replicate n z.toList).flatten := by
  induction n with
  | zero => simp [madeCells]
  | succ n ih =>
    rw [List.replicate_succ', List.flatten_append, ← ih]
    apply List.ext_getElem?
    intro j
    simp only [madeCells, Array.toList_map, Array.toList_range, List.flatten_cons, List.flatten_nil, List.append_nil]
    rw [List.getElem?_append]
    simp only [List.length_map, List.length_range, List.getElem?_map]
    by_cases h1 : j < n * z.size
    · have h2 : j < (n + 1) * z.size := Nat.lt_of_lt_of_le h1 (Nat.mul_le_mul_right _ (by omega))
      simp [h1, h2]
    · by_cases h2 : j < (n + 1) * z.size
      · have e1 : (n + 1) * z.size = n * z.size + z.size := by rw [Nat.add_mul]; simp
        have h3 : j - n * z.size < z.size := by omega
        have h4 : j % z.size = j - n * z.size := by
          have : j = (j - n * z.size) + n * z.size := by omega
          rw [this, Nat.add_mul_mod_self_right, Nat.mod_eq_of_lt (by omega)]; omega
        simp [h1, h2, h4, h3]
      · have e1 : (n + 1) * z.size = n * z.size + z.size := by rw [Nat.add_mul]; simp
        have h3 : ¬ j - n * z.size < z.size := by omega
        simp [h1, h2, h3]
theorem OpH.make {t e by_ l c : Nat} {zs : List Value} {x y : Operand} (hx : ev E x = some (.int .i64 l)) (hy : ev E y = some (.int .i64 c)) (ht : makeInfo P t = some (e, by_, zs)) (hlc : l ≤ c) (hb : by_ * c ≤ 281474976710656) (hc : c ≤ 9223372036854775807)
    (hk : ∀ g, K (.slice (some ⟨g, 0, .none⟩) l c) (Chunk.box g e ((List.replicate c zs).flatten) :: F)) : OpH P w0 F E ⟨d, .makeSlice t x y, ty, pos, af, g⟩ K :=
  .of_run fun a w hg hs => by
    obtain ⟨i, z, hu, hi, hz, hby, hzs, hsz⟩ := makeInfo_open ht
    have hb' : (i.bytes : Int) * (c : Int) ≤ 281474976710656 := by
      rw [hby]
      have : ((by_ * c : Nat) : Int) ≤ 281474976710656 := by omega
      rwa [Int.natCast_mul] at this
    have hr := run_make (P := P) w t e i z hu hi hz .i64 .i64 l c (by omega) (by omega) hb' (by omega)
    simp only [Int.toNat_natCast] at hr
    have e1 : madeCells z.cells (c * i.size) = ((List.replicate c zs).flatten).toArray := by
      have hz' : i.size = z.cells.size := by rw [hsz, ← hzs]; simp
      rw [hz', ← hzs, ← madeCells_toList]
    rw [e1] at hr
    exact ⟨_, _, _, by simp [execOp, hg.ev hx, hg.ev hy, hr], hs.alloc e _, hk _⟩

def CellsAt (w : World) (a : Option Addr) (news : List Value) : Prop := ∀ j v, news[j]? = some v → ∃ b o, a = some ⟨b, o, .none⟩ ∧ w.cell? ⟨b, o + j, .none⟩ = some v
theorem append_run {A C : List Chunk} {t tx e by_ : Nat} {zs : List Value} {x y : Operand} {tys : Array TypeId} {a : Option Addr} {m c m2 : Nat} {u : Value} {xs news : List Value} (hx : ev E x = some (.slice a m c)) (hy : ev E y = some u) (hty : tys = #[t, tx])
    (ht : makeInfo P t = some (e, by_, zs))
    {ac : Act} {w : World} (hg : Gets E ac) (hs : St w0 (A ++ Chunk.row e zs.length a m c xs :: C) w) (hsrc : Src P zs.length tx u m2 news w) (hb : (m + m2) * by_ ≤ 140737488355328) (hm : m + m2 ≤ 4611686018427387904) 
    (hk : ∀ a' c', K (.slice a' (m + m2) c') (A ++ Chunk.row e zs.length a' (m + m2) c' (xs ++ news) :: C)) :
    ∃ v w' F', (execOp ac.eval ⟨d, .call ⟨.builtin .append, #[x, y], tys⟩, ty, pos, af, g⟩).run P w = .ok (.value v) w' ∧ St w0 F' w' ∧ K v F' := by
  subst hty
  obtain ⟨i, z, hu, hi, hz, hby, hzs', hsz⟩ := makeInfo_open ht
  have hS := hsrc
  rw [← hsz] at hS
  have hl : news.length = m2 * zs.length := by rw [← hsz]; exact hS.newsLen
  have hrow := (hs.own (Chunk.row e zs.length a m c xs) (by simp)).1
  have hxl : xs.length = m * i.size := by rw [hsz]; exact hrow.1
  have run : ∀ v w', (Builtin.append_ #[t, tx] ty #[.slice a m c, u]).run P w = .ok v w' → (execOp ac.eval ⟨d, .call ⟨.builtin .append, #[x, y], #[t, tx]⟩, ty, pos, af, g⟩).run P w = .ok (.value v) w' := fun v w' h => by
    simp [execOp, resolve, invoke, builtin, hg.ev hx, hg.ev hy, h]
  have hsz0 : z.cells.size = i.size := by rw [hsz, ← hzs']; simp
  have grow : ∀ old, old < m + m2 → ∀ w', w' = w.drew.alloc (.cells ((xs ++ news).toArray ++ Builtin.zeroCells z.cells (grownCap w (m + m2) old e - (m + m2))) e) → St w0 (A ++ Chunk.row e zs.length (some ⟨w.heap.size, 0, .none⟩) (m + m2) (grownCap w (m + m2) old e) (xs ++ news) :: C) w' := fun old _ w' ew => by
    subst ew
    have hge := grownCap_ge w (m + m2) old e
    have hcm : grownCap w (m + m2) old e ≤ maxLen := grownCap_le_maxLen w (m + m2) old e (by unfold maxLen; omega)
    have h0 : St w0 (A ++ C) w := hs.sub (by simp)
    have hx0 : Ext w (w.drew.alloc (.cells ((xs ++ news).toArray ++ Builtin.zeroCells z.cells (grownCap w (m + m2) old e - (m + m2))) e)) := Ext.trans (Ext.refl w).drew (Ext.alloc _ _)
    refine (h0.add hx0 (Chunk.row e zs.length (some ⟨w.heap.size, 0, .none⟩) (m + m2) (grownCap w (m + m2) old e) (xs ++ news)) ⟨by rw [List.length_append, hrow.1, hl, Nat.add_mul], .inr ⟨w.heap.size, [], (Builtin.zeroCells z.cells (grownCap w (m + m2) old e - (m + m2))).toList, [], rfl, ?_, hge, hcm, ?_⟩⟩ (by simp [Chunk.row, Chunk.fp, blk]) (by simp [Chunk.row, Chunk.fp, blk])).perm List.perm_middle.symm
    · have hzc : (Builtin.zeroCells z.cells (grownCap w (m + m2) old e - (m + m2))).toList.length = (grownCap w (m + m2) old e - (m + m2)) * zs.length := by
        have := size_zeroCells z.cells (grownCap w (m + m2) old e - (m + m2))
        rw [hsz0, hsz] at this
        simpa using this
      rw [List.length_append, List.length_append, hrow.1, hl, hzc, ← Nat.add_mul, ← Nat.add_mul]
      congr 1; omega
    · have := heap_alloc_new w.drew (.cells ((xs ++ news).toArray ++ Builtin.zeroCells z.cells (grownCap w (m + m2) old e - (m + m2))) e)
      simp only [World.size_drew] at this
      rw [this]
      simp
  have fit : ∀ old, old < m + m2 → old ≤ 4611686018427387904 ∨ True → Builtin.nextslicecap (m + m2) old * i.bytes ≤ 281474976710656 := fun old ho _ => growslice_fits (by omega) (by rw [hby]; exact hb)
  rcases hrow.2 with ⟨rfl, rfl, rfl⟩ | ⟨g', pre, sp, post, rfl, h3, h4, h5, h6⟩
  · have hx0 : xs = [] := List.eq_nil_of_length_eq_zero (by simpa using hrow.1)
    subst hx0
    by_cases hpos' : m2 = 0
    · subst hpos'
      have hn0 : news = [] := List.eq_nil_of_length_eq_zero (by simpa using hl)
      subst hn0
      refine ⟨.slice .none 0 0, w, _, run _ _ ?_, hs, by have := hk .none 0; simpa using this⟩
      rcases hS.kind with ⟨e', hk'⟩ | hk' <;> simp [Builtin.append_, run_underlying hu, run_underlying hk', sizeOf, typeInfo, hi, hS.len, hS.cells]
    · have hr := run_append_grow_src (P := P) w t tx ty e i z hu hi hz .none 0 0 [] (run_firstCells_none w.drew i.size 0 0 0) u m2 news hS (by omega) (by omega) (fit 0 (by omega) (.inr trivial))
      exact ⟨_, _, _, run _ _ hr, grow 0 (by omega) _ rfl, hk _ _⟩
  · by_cases hroom : m + m2 ≤ c
    · have h7 : sp.length = c * zs.length - m * zs.length := by
        rw [List.length_append, hrow.1] at h3; omega
      have h8 : (m + m2) * zs.length ≤ c * zs.length := Nat.mul_le_mul_right _ hroom
      rw [Nat.add_mul] at h8
      have hs' : St w0 (A ++ Chunk.box g' e (pre ++ (xs ++ (sp ++ post))) :: C) w := hs.swap rfl fun _ => h6
      obtain ⟨w', r1, r2⟩ := run_storeCells_box (P := P) (k := pre.length + xs.length) news 0 hs' (by simp only [List.length_append]; omega) (List.all_eq_true.2 hS.one)
      have e2 : lset (pre ++ (xs ++ (sp ++ post))) (pre.length + xs.length + 0) news = pre ++ ((xs ++ news) ++ (sp.drop news.length ++ post)) := by
        rw [Nat.add_zero, lset_pre, lset_back xs news (sp ++ post) (by rw [List.length_append]; omega), List.drop_append_of_le_length (by omega)]
      rw [e2] at r2
      refine ⟨_, w', _, run _ _ ?_, r2.box_rowP (by rw [List.length_append, hrow.1, hl, Nat.add_mul]) ?_ hroom h5, hk (some ⟨g', pre.length, .none⟩) c⟩
      · have e3 : (⟨g', pre.length, .none⟩ : Addr).add (m * i.size) = ⟨g', pre.length + xs.length, .none⟩ := by rw [Addr.add_lit, hxl]
        rcases hS.kind with ⟨e', hk'⟩ | hk' <;> simp [Builtin.append_, run_underlying hu, run_underlying hk', sizeOf, typeInfo, hi, hS.len, hroom, hS.cells, e3, r1]
      · simp only [List.length_append, List.length_drop, hrow.1, hl]
        omega
    · have hold : (Builtin.firstCells i.size m (.slice (some ⟨g', pre.length, .none⟩) m c)).run P w.drew = .ok xs.toArray w.drew := run_firstCells_some w.drew i.size m ⟨g', pre.length, .none⟩ m c xs hxl (fun j v hj => by
        rw [Addr.add_lit]
        have : w.cell? ⟨g', pre.length + j, .none⟩ = some v := cell_box h6 (by rw [List.getElem?_append_right (by omega), show pre.length + j - pre.length = j by omega, List.getElem?_append_left (List.getElem?_eq_some_iff.1 hj).1]; exact hj)
        simpa using this)
      have hr := run_append_grow_src (P := P) w t tx ty e i z hu hi hz (some ⟨g', pre.length, .none⟩) m c xs hold u m2 news hS (by omega) (by omega) (fit c (by omega) (.inr trivial))
      exact ⟨_, _, _, run _ _ hr, grow c (by omega) _ rfl, hk _ _⟩
theorem OpH.appendG {A C : List Chunk} {t tx e by_ : Nat} {zs : List Value} {x y : Operand} {tys : Array TypeId} {a : Option Addr} {m c m2 : Nat} {u : Value} {xs news : List Value} (hx : ev E x = some (.slice a m c)) (hy : ev E y = some u) (hty : tys = #[t, tx])
    (ht : makeInfo P t = some (e, by_, zs))
    (hsrc : ∀ w, St w0 (A ++ Chunk.row e zs.length a m c xs :: C) w → Src P zs.length tx u m2 news w) (hb : (m + m2) * by_ ≤ 140737488355328) (hm : m + m2 ≤ 4611686018427387904) 
    (hk : ∀ a' c', K (.slice a' (m + m2) c') (A ++ Chunk.row e zs.length a' (m + m2) c' (xs ++ news) :: C)) :
    OpH P w0 (A ++ Chunk.row e zs.length a m c xs :: C) E ⟨d, .call ⟨.builtin .append, #[x, y], tys⟩, ty, pos, af, g⟩ K :=
  .of_run fun _ w hg hs => append_run hx hy hty ht hg hs (hsrc w hs) hb hm hk
theorem CellsAt.src {w : World} {tx e' size m2 c2 : Nat} {a2 : Option Addr} {news : List Value} (hk : P.underlying tx = some (.slice e')) (h : CellsAt w a2 news) (hl : news.length = m2 * size) (hs : 0 < size) (h1 : ∀ v ∈ news, v.oneCell' = true) : Src P size tx (.slice a2 m2 c2) m2 news w := by
  cases news with
  | nil =>
    have : m2 = 0 := by
      rcases Nat.eq_zero_or_pos m2 with h0 | h0
      · exact h0
      · have := Nat.mul_pos h0 hs
        simp only [List.length_nil] at hl; omega
    subst this
    cases a2 with
    | none => exact Src.ofNil w hk c2
    | some a => exact Src.ofSlice w hk a 0 c2 [] (by simp) (fun j u hj => by simp at hj) (fun u hu => by cases hu)
  | cons v0 r0 =>
    obtain ⟨b, o, e0, _⟩ := h 0 v0 rfl
    subst e0
    refine Src.ofSlice w hk _ m2 c2 _ hl (fun j u hj => ?_) h1
    obtain ⟨b', o', h1', h2'⟩ := h j u hj
    simp only [Option.some.injEq, Addr.mk.injEq, and_true] at h1'
    obtain ⟨rfl, rfl⟩ := h1'
    rw [Addr.add_lit]; exact h2'
theorem OpH.append {A C : List Chunk} {t e by_ : Nat} {zs : List Value} {x y : Operand} {tys : Array TypeId} {a a2 : Option Addr} {m c m2 c2 : Nat} {xs news : List Value} (hx : ev E x = some (.slice a m c)) (hy : ev E y = some (.slice a2 m2 c2)) (hty : tys = #[t, t])
    (ht : makeInfo P t = some (e, by_, zs)) (hzs : 0 < zs.length) (hl : news.length = m2 * zs.length) (hone : ∀ v ∈ news, v.oneCell' = true)
    (hnews : ∀ w, St w0 (A ++ Chunk.row e zs.length a m c xs :: C) w → CellsAt w a2 news) (hb : (m + m2) * by_ ≤ 140737488355328) (hm : m + m2 ≤ 4611686018427387904) 
    (hk : ∀ a' c', K (.slice a' (m + m2) c') (A ++ Chunk.row e zs.length a' (m + m2) c' (xs ++ news) :: C)) :
    OpH P w0 (A ++ Chunk.row e zs.length a m c xs :: C) E ⟨d, .call ⟨.builtin .append, #[x, y], tys⟩, ty, pos, af, g⟩ K := by
  obtain ⟨i, z, hu, _⟩ := makeInfo_open ht
  exact OpH.appendG hx hy hty ht (fun w hs => (hnews w hs).src hu hl hzs hone) hb hm hk

def evps (E : Env) : List (Nat × Operand) → List (Nat × Value) → Prop
  | [], vs => vs = []
  | (i, x) :: xs, vs => ∃ v r, vs = (i, v) :: r ∧ ev E x = some v ∧ evps E xs r
theorem evps.nil {E : Env} : evps E [] [] := rfl
theorem evps.cons {E : Env} {i : Nat} {x : Operand} {xs : List (Nat × Operand)} {v : Value} {r : List (Nat × Value)} (h : ev E x = some v) (hr : evps E xs r) : evps E ((i, x) :: xs) ((i, v) :: r) := ⟨v, r, rfl, h, hr⟩
theorem Gets.evps {E : Env} {a : Act} (h : Gets E a) : ∀ (xs : List (Nat × Operand)) {vs : List (Nat × Value)}, _root_.Go.Proofs.YtmhalmnbgkpmnaaGreat.K.evps E xs vs → xs.map (fun (i, x) => (i, a.eval x)) = vs
  | [], _, e => by cases e; rfl
  | (i, x) :: xs, _, ⟨v, r, e, hx, hr⟩ => by subst e; simp [h.ev hx, Gets.evps h xs hr]
theorem OpV.build {t : TypeId} {ps : Array (Nat × Operand)} {pvs : List (Nat × Value)} {cells : Array Value} (hp : evps E ps.toList pvs) (hb : P.built t pvs = some cells) :
    OpV P w0 F E ⟨d, .build t ps, ty, pos, af, g⟩ (.agg cells) :=
  .of_run fun a w hg _ => by
    have h1 : (ps.map fun (i, x) => (i, a.eval x)).toList = pvs := by rw [Array.toList_map]; exact hg.evps ps.toList hp
    have h2 := run_build (P := P) w t (ps.map fun (i, x) => (i, a.eval x)) cells (by rw [h1]; exact hb)
    simp [execOp, h2]
def builtSlice (P : Program) (t len : Nat) (pvs : List (Nat × Value)) : Option (Nat × List Value) := match P.underlying t with
  | some (.slice e) => match P.info? e with
    | some i => match i.zero with
      | some z => if len * i.size > 2 ^ 24 then .none else
          match Instr.fill (fun k => some (k * i.size, i.size)) ((Array.range (len * i.size)).map (z.cells[· % z.cells.size]!)) pvs with
          | some cells => if len * i.size = 0 then (if cells.size = 0 then some (e, []) else .none) else some (e, cells.toList)
          | .none => .none
      | .none => .none
    | .none => .none
  | _ => .none
theorem OpH.buildSlice {t len e : Nat} {ps : Array (Nat × Operand)} {pvs : List (Nat × Value)} {l : List Value} (hp : evps E ps.toList pvs) (hb : builtSlice P t len pvs = some (e, l))
    (hk : ∀ g, K (.slice (some ⟨g, 0, .none⟩) len len) (Chunk.box g e l :: F)) : OpH P w0 F E ⟨d, .buildSlice t len ps, ty, pos, af, g⟩ K :=
  .of_run fun a w hg hs => by
    have h1 : (ps.map fun (i, x) => (i, a.eval x)).toList = pvs := by rw [Array.toList_map]; exact hg.evps ps.toList hp
    unfold builtSlice at hb
    split at hb
    · rename_i e' hu
      split at hb
      · rename_i i hi
        split at hb
        · rename_i z hz
          split at hb
          · cases hb
          · rename_i hsz
            split at hb
            · rename_i cells hc
              have hrun : (Instr.buildSlice t len (ps.map fun (i, x) => (i, a.eval x))).run P w = .ok (.slice (some ⟨w.heap.size, 0, .none⟩) len len) (w.alloc (.cells cells e' (0, 0))) := by
                by_cases h0 : len * i.size = 0
                · have hz0 : (Array.range (len * i.size)).map (z.cells[· % z.cells.size]!) = #[] := by rw [h0]; simp
                  rw [hz0] at hc
                  have h1' : List.map (fun x => (x.fst, a.eval x.snd)) ps.toList = pvs := hg.evps ps.toList hp
                  simp [Instr.buildSlice, run_underlying hu, sizeOf, typeInfo, hi, h0, h1', hc, newRow, Array.range_zero']
                · simp only [Instr.buildSlice, Sem.run_bind, run_underlying hu, Result.andThen_ok, sizeOf, typeInfo, run_program, hi, Sem.run_pure, h0, if_false, h1, if_neg hsz, zeroValue, hz]
                  simp [hc, newRow]
              split at hb
              · rename_i h0
                split at hb
                · rename_i hcs
                  simp only [Option.some.injEq, Prod.mk.injEq] at hb
                  obtain ⟨rfl, rfl⟩ := hb
                  have : cells = ([] : List Value).toArray := by simpa using hcs
                  rw [this] at hrun
                  exact ⟨_, _, _, by simp [execOp, hrun], hs.alloc _ _, hk _⟩
                · cases hb
              · simp only [Option.some.injEq, Prod.mk.injEq] at hb
                obtain ⟨rfl, rfl⟩ := hb
                have : cells = cells.toList.toArray := by simp
                rw [this] at hrun
                exact ⟨_, _, _, by simp [execOp, hrun], hs.alloc _ _, hk _⟩
            · cases hb
        · cases hb
      · cases hb
    · cases hb
theorem OpV.nilCheck {x : Operand} {p : Addr} (hx : ev E x = some (.pointer (some p))) : OpV P w0 F E ⟨d, .nilCheck x, ty, pos, af, g⟩ (.pointer (some p)) :=
  .of_run fun a w hg _ => by simp [execOp, hg.ev hx]
theorem OpV.eqNil {t t' : TypeId} {x : Operand} {a : Option Addr} {m c : Nat} (hx : ev E x = some (.slice a m c)) (ht : (sliceElem P t).isSome = true) : OpV P w0 F E ⟨d, .binOp .eql t x (.const (.slice .none 0 0)) t', ty, pos, af, g⟩ (.bool a.isNone) :=
  .of_run fun ac w hg _ => by
    unfold sliceElem at ht
    split at ht
    · rename_i e hu
      have h1 : ac.eval (.const (.slice .none 0 0)) = .slice .none 0 0 := rfl
      simp [execOp, hg.ev hx, h1, eqGuard_at_slice, Lib.run_eql_slice_nil w t e a m c 0 0 hu]
    · cases ht
theorem OpV.shl {t t' : TypeId} {x y : Operand} {k yk : IntKind} {p q : Int} (hx : ev E x = some (.int k p)) (hy : ev E y = some (.int yk q)) (h : 0 ≤ q) : OpV P w0 F E ⟨d, .binOp .shl t x y t', ty, pos, af, g⟩ (.int k (k.wrap (p * 2 ^ (min q.toNat k.bits)))) :=
  .of_run fun ac w hg _ => by
    have h0 : ¬ q < 0 := by omega
    simp [execOp, hg.ev hx, hg.ev hy, eqGuard_shl, binOp_shl, Op.shift, h0]
theorem OpV.shr {t t' : TypeId} {x y : Operand} {k yk : IntKind} {p q : Int} (hx : ev E x = some (.int k p)) (hy : ev E y = some (.int yk q)) (h : 0 ≤ q) : OpV P w0 F E ⟨d, .binOp .shr t x y t', ty, pos, af, g⟩ (.int k (p.fdiv (2 ^ (min q.toNat k.bits)))) :=
  .of_run fun ac w hg _ => by
    have h0 : ¬ q < 0 := by omega
    simp [execOp, hg.ev hx, hg.ev hy, eqGuard_shr, binOp_shr, Op.shift, h0]
end

def OwnI (T : TypeId) (xs : List Int) (v : Value) (G : List Chunk) : Prop := ∃ a c, v = .slice a xs.length c ∧ G = [Chunk.row T 1 a xs.length c (xs.map (Value.int .i64))]
def OwnB (T : TypeId) (xs : List Bool) (v : Value) (G : List Chunk) : Prop := ∃ a c, v = .slice a xs.length c ∧ G = [Chunk.row T 1 a xs.length c (xs.map Value.bool)]
theorem CellsAt.ints {w : World} {a : Option Addr} {n : Nat} {xs : List Int} (h : RdI w a n xs) : CellsAt w a (xs.map (Value.int .i64)) := fun j v hj => by
  rw [List.getElem?_map] at hj
  obtain ⟨x, hx, rfl⟩ := Option.map_eq_some_iff.1 hj
  obtain ⟨_, b, o, e, hc⟩ := h.at_ j x hx
  exact ⟨b, o, e, hc⟩
theorem CellsAt.box {w : World} {g : Nat} {T : TypeId} {l : List Value} (h : w.heap[g]? = some (.cells l.toArray T (0, 0))) : CellsAt w (some ⟨g, 0, .none⟩) l := fun j v hj => ⟨g, 0, rfl, by rw [Nat.zero_add]; exact cell_box h hj⟩
def fill {α : Type} (f : α → Value) (z : Value) (xs : List α) (k : Nat) : List Value := (xs.take k).map f ++ List.replicate (xs.length - k) z
theorem fill_zero {α : Type} (f : α → Value) (z : Value) (xs : List α) : fill f z xs 0 = (List.replicate xs.length [z]).flatten := by simp [fill]
theorem fill_all {α : Type} (f : α → Value) (z : Value) (xs : List α) : fill f z xs xs.length = xs.map f := by simp [fill]
theorem fill_length {α : Type} (f : α → Value) (z : Value) (xs : List α) (k : Nat) (hk : k ≤ xs.length) : (fill f z xs k).length = xs.length := by simp [fill]; omega
theorem fill_set {α : Type} (f : α → Value) (z : Value) (xs : List α) (k : Nat) {x : α} (h : xs[k]? = some x) : (fill f z xs k).set k (f x) = fill f z xs (k + 1) := by
  obtain ⟨hk, rfl⟩ := List.getElem?_eq_some_iff.1 h
  unfold fill
  have h1 : ((xs.take k).map f).length = k := by simp; omega
  rw [List.set_append_right _ _ (by omega), h1, Nat.sub_self]
  have h2 : xs.length - k = (xs.length - (k + 1)) + 1 := by omega
  rw [h2, List.replicate_succ, List.set_cons_zero, List.take_add_one, List.map_append, List.append_assoc]
  simp [h]
theorem ints_one {xs : List Int} : ∀ v ∈ xs.map (Value.int .i64), v.oneCell' = true := fun v hv => by
  obtain ⟨x, _, rfl⟩ := List.mem_map.1 hv; rfl
end K
end Go.Proofs.YtmhalmnbgkpmnaaGreat
