/- Own slices: made, filled, written into. -/
import Derived.Test.YtmhalmnbgkpmnaaGreatRules
import Derived.Lib.ConvBytes
import Derived.Laws.BytesArg
namespace Go.Proofs.YtmhalmnbgkpmnaaGreat
open Go.RowKit
namespace K

structure Flat {α : Type} (A : Ty α) (enc : α → List Value) : Prop where
  rd : ∀ {w cs x}, A.rd w cs x → cs = enc x
  ow : ∀ w x, A.ow [] w (enc x) x
def Ty.flat {α : Type} (T : TypeId) (k : Nat) (enc : α → List Value) (pos : 0 < k) (len : ∀ x, (enc x).length = k) (one : ∀ x, (enc x).all Value.oneCell' = true) : Ty α where
  T := T
  k := k
  rd := fun _ cs x => cs = enc x
  ow := fun fp _ cs x => fp = [] ∧ cs = enc x
  pos := pos
  len := fun h => by rw [h]; exact len _
  ext := fun _ h => h
  one := fun h => by rw [h]; exact one _
  ro := fun h => h.2
  sup := fun _ h => h
  bd := fun h b hb => by rw [h.1] at hb; cases hb
theorem Flat.of {α : Type} {T : TypeId} {k : Nat} {enc : α → List Value} {pos : 0 < k} {len : ∀ x, (enc x).length = k} {one : ∀ x, (enc x).all Value.oneCell' = true} : Flat (Ty.flat T k enc pos len one) enc := ⟨fun h => h, fun _ _ => ⟨rfl, rfl⟩⟩

section
variable {α : Type} {A : Ty α} {enc : α → List Value} {w0 w : World} {F C : List Chunk} {fp : List Nat} {a : Option Addr} {m c : Nat} {xs : List α} {css : List (List Value)} {fps : List (List Nat)}
theorem Flat.inn (h : Flat A enc) (xs : List α) (w : World) : Inn A (xs.map enc) (xs.map fun _ => []) xs w :=
  ⟨by simp, by simp, fun i x hx => ⟨enc x, [], by simp [hx], by simp [hx], h.ow w x⟩⟩
theorem flatten_nils (xs : List α) : (xs.map fun _ => ([] : List Nat)).flatten = [] := by induction xs <;> simp_all
theorem St.elFlat (h : Flat A enc) (x : α) (hs : St w0 F w) : St w0 (Chunk.el A [] (enc x) x :: F) w :=
  hs.add (Ext.refl w) _ (h.ow w x) (by simp [Chunk.el, Chunk.fp]) (by simp [Chunk.el, Chunk.fp])
theorem St.tl (h : St w0 (F ++ C) w) : St w0 C w := h.sub (List.sublist_append_right _ _)
theorem St.drop1 {c : Chunk} (h : St w0 (F ++ c :: C) w) : St w0 (F ++ C) w := h.sub (by simp)
theorem St.join' {G : List Chunk} (c : Chunk) (h : St w0 (F ++ (G ++ C)) w) (hA : c.A w) (hn : c.fp.Nodup) (hfp : ∀ b ∈ c.fp, b ∈ G.flatMap Chunk.fp) : St w0 (F ++ c :: C) w := by
  refine ⟨h.below, fun d hd => ?_, ?_⟩
  · rcases List.mem_append.1 hd with hd | hd
    · exact h.own d (by simp [hd])
    · rcases List.mem_cons.1 hd with rfl | hd
      · refine ⟨hA, fun b hb => ?_⟩
        obtain ⟨d, hd, hbd⟩ := List.mem_flatMap.1 (hfp b hb)
        exact (h.own d (by simp [hd])).2 b hbd
      · exact h.own d (by simp [hd])
  · have := h.nodup
    rw [List.flatMap_append, List.flatMap_append, List.nodup_append] at this
    obtain ⟨h1, h2, h3⟩ := this
    rw [List.nodup_append] at h2
    rw [List.flatMap_append, List.flatMap_cons, List.nodup_append]
    refine ⟨h1, ?_, fun b hb b' hb' => ?_⟩
    · rw [List.nodup_append]
      exact ⟨hn, h2.2.1, fun b hb b' hb' => h2.2.2 b (hfp b hb) b' hb'⟩
    · rcases List.mem_append.1 hb' with hb' | hb'
      · exact h3 b hb b' (List.mem_append_left _ (hfp b' hb'))
      · exact h3 b hb b' (List.mem_append_right _ hb')
theorem nodup_set : ∀ {fps : List (List Nat)} {f : List Nat} (i : Nat), (fps.flatten ++ f).Nodup → ((fps.set i f).flatten).Nodup
  | [], f, i, h => by simp
  | p :: r, f, 0, h => by
    rw [List.set_cons_zero, List.flatten_cons]
    rw [List.flatten_cons, List.append_assoc, List.nodup_append] at h
    exact (List.perm_append_comm).nodup_iff.1 h.2.1
  | p :: r, f, i + 1, h => by
    rw [List.set_cons_succ, List.flatten_cons]
    rw [List.flatten_cons, List.append_assoc, List.nodup_append] at h
    rw [List.nodup_append]
    refine ⟨h.1, nodup_set i h.2.1, fun b hb b' hb' => h.2.2 b hb b' ?_⟩
    obtain ⟨q, hq, hbq⟩ := List.mem_flatten.1 hb'
    rcases List.mem_or_eq_of_mem_set hq with hq | rfl
    · exact List.mem_append_left _ (List.mem_flatten.2 ⟨q, hq, hbq⟩)
    · exact List.mem_append_right _ hbq
theorem flatMap_inv {k : Nat} (hk : ∀ x, (enc x).length = k) : ∀ (xs : List α) (j : Nat) (v : Value), (xs.flatMap enc)[j]? = some v → ∃ i r x, xs[i]? = some x ∧ (enc x)[r]? = some v ∧ j = i * k + r
  | [], j, v, h => by simp at h
  | x :: xs, j, v, h => by
    rw [List.flatMap_cons] at h
    rcases Nat.lt_or_ge j (enc x).length with hj | hj
    · rw [List.getElem?_append_left hj] at h
      exact ⟨0, j, x, rfl, h, by omega⟩
    · rw [List.getElem?_append_right hj] at h
      obtain ⟨i, r, y, h1, h2, h3⟩ := flatMap_inv hk xs _ v h
      refine ⟨i + 1, r, y, by simpa using h1, h2, ?_⟩
      rw [hk] at h3 hj
      rw [Nat.succ_mul]; omega
theorem Flat.len (h : Flat A enc) (x : α) : (enc x).length = A.k := A.len (A.ro (h.ow default x))
theorem Rd.cellsAt {a2 : Option Addr} {m2 c2 : Nat} {ys : List α} (h : Flat A enc) (hr : Rd A w a2 m2 c2 ys) : CellsAt w a2 (ys.flatMap enc) := fun j v hj => by
  obtain ⟨i, r, x, h1, h2, rfl⟩ := flatMap_inv h.len ys j v hj
  obtain ⟨b, o, cs, e, hd, hc⟩ := hr.2.2 i x h1
  have := h.rd hd
  subst this
  exact ⟨b, o, e, by rw [← Nat.add_assoc]; exact hc r v h2⟩
theorem Inn.append {cs2 : List (List Value)} {fs2 : List (List Nat)} {ys : List α} (h : Inn A css fps xs w) (k : Inn A cs2 fs2 ys w) : Inn A (css ++ cs2) (fps ++ fs2) (xs ++ ys) w := by
  refine ⟨by simp [h.1, k.1], by simp [h.2.1, k.2.1], fun i y hy => ?_⟩
  rcases Nat.lt_or_ge i xs.length with hi | hi
  · rw [List.getElem?_append_left hi] at hy
    rw [List.getElem?_append_left (by rw [h.1]; exact hi), List.getElem?_append_left (by rw [h.2.1]; exact hi)]
    exact h.2.2 i y hy
  · rw [List.getElem?_append_right hi] at hy
    rw [List.getElem?_append_right (by rw [h.1]; exact hi), List.getElem?_append_right (by rw [h.2.1]; exact hi), h.1, h.2.1]
    exact k.2.2 _ y hy
theorem Rd.fld {i : Int} {x : α} {b o j : Nat} {v : Value} (h : Rd A w a m c xs) (hx : idx xs i = some x) (ha : a = some ⟨b, o, .none⟩) (hv : ∀ cs, A.rd w cs x → cs[j]? = some v) : w.cell? ⟨b, o + i.toNat * A.k + j, .none⟩ = some v := by
  obtain ⟨b', o', cs, e, hr, hc⟩ := h.atIdx hx
  rw [ha] at e
  simp only [Option.some.injEq, Addr.mk.injEq, and_true] at e
  obtain ⟨rfl, rfl⟩ := e
  exact hc j v (hv cs hr)
theorem Rd.all {i : Int} {x : α} {b o : Nat} (hf : Flat A enc) (h : Rd A w a m c xs) (hx : idx xs i = some x) (ha : a = some ⟨b, o, .none⟩) : ∀ j v, (enc x)[j]? = some v → w.cell? ((⟨b, o + i.toNat * A.k, .none⟩ : Addr).add j) = some v := fun j v hj => by
  rw [Addr.add_lit]
  exact h.fld hx ha fun cs hr => by rw [hf.rd hr]; exact hj
theorem Rd.cell1 {i : Int} {x : α} {b o : Nat} {v : Value} (hf : Flat A enc) (h : Rd A w a m c xs) (hx : idx xs i = some x) (ha : a = some ⟨b, o, .none⟩) (hv : (enc x)[0]? = some v) : w.cell? ⟨b, o + i.toNat * A.k, .none⟩ = some v :=
  h.fld (j := 0) hx ha fun cs hr => by rw [hf.rd hr]; exact hv
theorem Rd.cellJ {i : Int} {x : α} {b o j : Nat} {v : Value} (hf : Flat A enc) (h : Rd A w a m c xs) (hx : idx xs i = some x) (ha : a = some ⟨b, o, .none⟩) (hv : (enc x)[j]? = some v) : w.cell? ⟨b, o + i.toNat * A.k + j, .none⟩ = some v :=
  h.fld hx ha fun cs hr => by rw [hf.rd hr]; exact hv
theorem ownAddr {i : Int} {x : α} (hin : ∃ w, St w0 F w) (hm : Chunk.own A fp a m c xs ∈ F) (hx : idx xs i = some x) : ∃ g o, a = some ⟨g, o, .none⟩ := by
  obtain ⟨w, hs⟩ := hin
  obtain ⟨h0, h1, _⟩ := idx_some hx
  exact Ow.addr (hs.mem hm) (by omega)
theorem ownLen (hin : ∃ w, St w0 F w) (hm : Chunk.own A fp a m c xs ∈ F) : m = xs.length := by
  obtain ⟨w, hs⟩ := hin
  exact (hs.mem hm : Ow A fp a m c xs w).1
theorem ownCap (hin : ∃ w, St w0 F w) (hm : Chunk.own A fp a m c xs ∈ F) : xs.length ≤ c := by
  obtain ⟨w, hs⟩ := hin
  exact (Ow.cap (hs.mem hm)).1
theorem St.cellsAt {b o : Nat} {l : List Value} (hs : St w0 F w) (h : ∀ (j : Nat) v, l[j]? = some v → w0.cell? ⟨b, o + j, .none⟩ = some v) : ∀ j v, l[j]? = some v → w.cell? ((⟨b, o, .none⟩ : Addr).add j) = some v := fun j v hj => by
  rw [Addr.add_lit]; exact hs.cell (h j v hj)
theorem Rd.isNil (h : Rd A w a m c xs) (ha : a.isNone = true) : xs = [] := by
  cases xs with
  | nil => rfl
  | cons x r =>
    obtain ⟨b, o, cs, e, _⟩ := h.2.2 0 x rfl
    subst e; cases ha
theorem ownAddrU {i : Int} {ys : List α} {x : α} (hin : ∃ w, St w0 F w) (hm : Chunk.own A fp a m c xs ∈ F) (hx : upd xs i x = some ys) : ∃ g o, a = some ⟨g, o, .none⟩ := by
  obtain ⟨w, hs⟩ := hin
  obtain ⟨⟨h0, h1⟩, _⟩ := upd_some hx
  exact Ow.addr (hs.mem hm) (by omega)
end

def InX {α : Type} (A : Ty α) (css : List (List Value)) (fps : List (List Nat)) (xs : List α) (i : Nat) (w : World) : Prop :=
  css.length = xs.length ∧ fps.length = xs.length ∧ ∀ (j : Nat) (x : α), j ≠ i → xs[j]? = some x → ∃ cs f, css[j]? = some cs ∧ fps[j]? = some f ∧ A.ow f w cs x
theorem InX.mem {fps : List (List Nat)} {i j : Nat} {f : List Nat} (hij : j ≠ i) (h : fps[j]? = some f) : ∀ b ∈ f, b ∈ (fps.set i []).flatten := fun b hb =>
  List.mem_flatten.2 ⟨f, List.mem_of_getElem? (i := j) (by rw [List.getElem?_set_ne (Ne.symm hij)]; exact h), hb⟩
def Chunk.inX {α : Type} (A : Ty α) (css : List (List Value)) (fps : List (List Nat)) (xs : List α) (i : Nat) : Chunk :=
  .any (fps.set i []).flatten (InX A css fps xs i)
    (fun _ _ h hA => ⟨hA.1, hA.2.1, fun j x hj hx => let ⟨cs, f, h1, h2, h3⟩ := hA.2.2 j x hj hx; ⟨cs, f, h1, h2, A.sup (fun b hb => h b (InX.mem hj h2 b hb)) h3⟩⟩)
    (fun w hA b hb => by
      obtain ⟨f, hf, hbf⟩ := List.mem_flatten.1 hb
      obtain ⟨j, hj⟩ := List.mem_iff_getElem?.1 hf
      by_cases hji : j = i
      · subst hji
        rw [List.getElem?_set] at hj
        simp only [if_true] at hj
        split at hj
        · cases hj; cases hbf
        · cases hj
      · rw [List.getElem?_set_ne (Ne.symm hji)] at hj
        have hlt : j < xs.length := by rw [← hA.2.1]; exact (List.getElem?_eq_some_iff.1 hj).1
        obtain ⟨cs, f', _, h2, h3⟩ := hA.2.2 j xs[j] hji (List.getElem?_eq_getElem hlt)
        rw [hj] at h2
        cases h2
        exact A.bd h3 b hbf)
theorem perm_set_nil : ∀ {fps : List (List Nat)} {i : Nat} {f : List Nat}, fps[i]? = some f → List.Perm fps.flatten (f ++ (fps.set i []).flatten)
  | [], _, _, h => by simp at h
  | p :: r, 0, f, h => by
    obtain rfl : p = f := by simpa using h
    simp
  | p :: r, i + 1, f, h => by
    have ih := perm_set_nil (fps := r) (i := i) (f := f) (by simpa using h)
    rw [List.set_cons_succ, List.flatten_cons, List.flatten_cons]
    refine (List.Perm.append_left p ih).trans ?_
    rw [← List.append_assoc, ← List.append_assoc]
    exact List.Perm.append_right _ List.perm_append_comm
theorem St.focus {α : Type} {A : Ty α} {w0 w : World} {F C : List Chunk} {fp : List Nat} {a : Option Addr} {m c : Nat} {xs : List α} {i : Int} {x : α} (hx : idx xs i = some x) (h : St w0 (F ++ Chunk.own A fp a m c xs :: C) w) :
    ∃ g : List (List Value) × List (List Nat) × List Value × List Nat, (g.1[i.toNat]? = some g.2.2.1 ∧ ∀ cs ∈ g.1, cs.length = A.k) ∧ St w0 (F ++ ([Chunk.el A g.2.2.2 g.2.2.1 x, Chunk.row A.T A.k a xs.length c g.1.flatten, Chunk.inX A g.1 g.2.1 xs i.toNat] ++ C)) w := by
  obtain ⟨rfl, css, fps, rfl, h1⟩ := St.ownOpen h
  have hin : Inn A css fps xs w := (h1.own (Chunk.inn A css fps xs) (by simp)).1
  obtain ⟨cs, f, h2, h3, h4⟩ := hin.2.2 _ _ (idx_some hx).2.2
  refine ⟨(css, fps, cs, f), ⟨h2, hin.len⟩, ?_⟩
  have hd : St w0 (F ++ ([Chunk.row A.T A.k a xs.length c css.flatten, Chunk.inn A css fps xs] ++ C)) w := h1
  have hrow := (h1.own (Chunk.row A.T A.k a xs.length c css.flatten) (by simp)).1
  have hp := perm_set_nil h3
  have hn := hd.nodup
  refine ⟨hd.below, fun d hdm => ?_, ?_⟩
  · rcases List.mem_append.1 hdm with hm | hm
    · exact hd.own d (by simp [hm])
    · rcases List.mem_append.1 hm with hm | hm
      · simp only [List.mem_cons, List.not_mem_nil, or_false] at hm
        have hf : ∀ b ∈ fps.flatten, w0.heap.size ≤ b := (h1.own (Chunk.inn A css fps xs) (by simp)).2
        rcases hm with rfl | rfl | rfl
        · exact ⟨h4, fun b hb => hf b (hp.mem_iff.2 (List.mem_append_left _ hb))⟩
        · exact hd.own _ (by simp)
        · exact ⟨⟨hin.1, hin.2.1, fun j y _ hy => hin.2.2 j y hy⟩, fun b hb => hf b (hp.mem_iff.2 (List.mem_append_right _ hb))⟩
      · exact hd.own d (by simp [hm])
  · refine List.Perm.nodup ?_ hn
    simp only [List.flatMap_append, List.flatMap_cons, List.flatMap_nil, List.append_nil, Chunk.row, Chunk.inn, Chunk.el, Chunk.inX, Chunk.fp]
    refine List.Perm.append_left _ (List.Perm.append_right _ ?_)
    refine (List.Perm.append_left _ hp).trans ?_
    rw [← List.append_assoc, ← List.append_assoc]
    exact List.Perm.append_right _ List.perm_append_comm
theorem St.unfocus {α : Type} {A : Ty α} {w0 w : World} {F C : List Chunk} {f : List Nat} {a : Option Addr} {m c : Nat} {xs ys : List α} {css : List (List Value)} {fps : List (List Nat)} {cs : List Value} {i : Int} {x : α} (hcs : css[i.toNat]? = some cs) (hm : m = xs.length) (hu : upd xs i x = some ys)
    (h : St w0 (F ++ ([Chunk.el A f cs x, Chunk.row A.T A.k a xs.length c css.flatten, Chunk.inX A css fps xs i.toNat] ++ C)) w) : ∃ fp, True ∧ St w0 (F ++ Chunk.own A fp a m c ys :: C) w := by
  subst hm
  obtain ⟨⟨h0, h1⟩, rfl⟩ := upd_some hu
  have hel : A.ow f w cs x := (h.own (Chunk.el A f cs x) (by simp)).1
  have hrow := (h.own (Chunk.row A.T A.k a xs.length c css.flatten) (by simp)).1
  have hin : InX A css fps xs i.toNat w := (h.own (Chunk.inX A css fps xs i.toNat) (by simp)).1
  have hi : i.toNat < fps.length := by rw [hin.2.1]; omega
  have hset : css.set i.toNat cs = css := by
    apply List.ext_getElem?
    intro j
    rw [List.getElem?_set]
    split
    · rename_i e; subst e; rw [if_pos (List.getElem?_eq_some_iff.1 hcs).1, hcs]
    · rfl
  have hinn : Inn A css (fps.set i.toNat f) (xs.set i.toNat x) w := by
    refine ⟨by simp [hin.1], by simp [hin.2.1], fun j y hy => ?_⟩
    by_cases hji : j = i.toNat
    · subst hji
      rw [List.getElem?_set] at hy
      simp only [if_true] at hy
      rw [if_pos (by omega)] at hy
      cases hy
      exact ⟨cs, f, hcs, by simp [hi], hel⟩
    · rw [List.getElem?_set_ne (Ne.symm hji)] at hy
      obtain ⟨cs', f', h2, h3, h4⟩ := hin.2.2 j y hji hy
      exact ⟨cs', f', h2, by rw [List.getElem?_set_ne (Ne.symm hji)]; exact h3, h4⟩
  have hp : List.Perm (fps.set i.toNat f).flatten (f ++ (fps.set i.toNat []).flatten) := by
    have := perm_set_nil (fps := fps.set i.toNat f) (i := i.toNat) (f := f) (by simp [hi])
    rwa [List.set_set] at this
  have hn := h.nodup
  refine ⟨blk a ++ (fps.set i.toNat f).flatten, trivial, ?_⟩
  refine St.join' (F := F) (G := [Chunk.el A f cs x, Chunk.row A.T A.k a xs.length c css.flatten, Chunk.inX A css fps xs i.toNat]) _ h ⟨by simp, css, fps.set i.toNat f, rfl, by rw [List.length_set]; exact hrow, hinn⟩ ?_ ?_
  · have hsub : (([Chunk.el A f cs x, Chunk.row A.T A.k a xs.length c css.flatten, Chunk.inX A css fps xs i.toNat] : List Chunk).flatMap Chunk.fp).Nodup := by
      rw [List.flatMap_append, List.flatMap_append, List.nodup_append] at hn
      rw [List.nodup_append] at hn
      exact hn.2.1.1
    simp only [List.flatMap_cons, List.flatMap_nil, List.append_nil, Chunk.row, Chunk.el, Chunk.inX, Chunk.fp] at hsub
    refine List.Perm.nodup ?_ hsub
    refine List.Perm.trans ?_ (List.Perm.append_left _ hp.symm)
    rw [← List.append_assoc, ← List.append_assoc]
    exact List.Perm.append_right _ List.perm_append_comm
  · intro b hb
    have hb' : b ∈ blk a ++ (fps.set i.toNat f).flatten := hb
    simp only [List.flatMap_cons, List.flatMap_nil, List.append_nil, Chunk.row, Chunk.el, Chunk.inX, Chunk.fp]
    rcases List.mem_append.1 hb' with hb | hb
    · exact List.mem_append_right _ (List.mem_append_left _ hb)
    · rcases List.mem_append.1 (hp.mem_iff.1 hb) with hb | hb
      · exact List.mem_append_left _ hb
      · exact List.mem_append_right _ (List.mem_append_right _ hb)
theorem focCell {A : List (List Value)} {T k m c g o i j : Nat} {cs : List Value} {v : Value} {a : Option Addr} {w : World} (h : RowA T k a m c A.flatten w) (hk : ∀ cs ∈ A, cs.length = k) (hcs : A[i]? = some cs) (ha : a = some ⟨g, o, .none⟩) (hv : cs[j]? = some v) : w.cell? ⟨g, o + i * k + j, .none⟩ = some v := by
  obtain ⟨g', o', e, hc⟩ := h.cell (flatten_at hk hcs hv)
  rw [ha] at e
  simp only [Option.some.injEq, Addr.mk.injEq, and_true] at e
  obtain ⟨rfl, rfl⟩ := e
  rw [Nat.add_assoc]; exact hc
theorem WC.exF {P : Program} {n : Nat} {w0 : World} {c : Code} {Q : Exit → Act → World → Prop} {E : Env} {F : List Chunk} {X : Type} {Pre : X → Prop} {F' : X → List Chunk} (h : ∀ w, St w0 F w → ∃ x, Pre x ∧ St w0 (F' x) w) (k : ∀ x, Pre x → WC P n w0 c Q E (F' x)) : WC P n w0 c Q E F := fun a w ha hs => by
  obtain ⟨x, hp, hst⟩ := h w hs
  exact k x hp a w ha hst
theorem WL.exF {P : Program} {n : Nat} {w0 : World} {ops : Array Oper} {l : List Oper} {Q : Exit → Act → World → Prop} {E : Env} {F : List Chunk} {X : Type} {Pre : X → Prop} {F' : X → List Chunk} (h : ∀ w, St w0 F w → ∃ x, Pre x ∧ St w0 (F' x) w) (k : ∀ x, Pre x → WL P n w0 ops Q l E (F' x)) : WL P n w0 ops Q l E F := fun a w ha hs => by
  obtain ⟨x, hp, hst⟩ := h w hs
  exact k x hp a w ha hst
theorem cellsPart {w : World} {b o off : Nat} {l part : List Value} (hd : ∀ (j : Nat) v, l[j]? = some v → w.cell? ⟨b, o + j, .none⟩ = some v) (hp : (l.drop off).take part.length = part) : ∀ (j : Nat) v, part[j]? = some v → w.cell? ⟨b, o + off + j, .none⟩ = some v := fun j v hj => by
  have hj' : ((l.drop off).take part.length)[j]? = some v := by rw [hp]; exact hj
  rw [List.getElem?_take] at hj'
  split at hj'
  · rw [List.getElem?_drop] at hj'
    have := hd _ _ hj'
    rwa [← Nat.add_assoc] at this
  · cases hj'
theorem Rd.lit1 {α : Type} {A : Ty α} {w : World} {b : Nat} {T : TypeId} {cs : List Value} {x : α} (hb : w.heap[b]? = some (.cells cs.toArray T (0, 0))) (hr : A.rd w cs x) : Rd A w (some ⟨b, 0, .none⟩) 1 1 [x] := by
  refine ⟨rfl, by simp, fun i y hy => ?_⟩
  have h0 : i = 0 := by have := (List.getElem?_eq_some_iff.1 hy).1; simp at this; omega
  subst h0
  obtain rfl : x = y := by simpa using hy
  exact ⟨b, 0, cs, rfl, hr, fun j v hj => by rw [Nat.zero_mul, Nat.add_zero, Nat.zero_add]; exact cell_box hb hj⟩
theorem En.exF {n : Nat} {w0 : World} {e : Exit} {Q : Exit → Act → World → Prop} {E : Env} {F : List Chunk} {X : Type} {Pre : X → Prop} {F' : X → List Chunk} (h : ∀ w, St w0 F w → ∃ x, Pre x ∧ St w0 (F' x) w) (k : ∀ x, Pre x → En n w0 Q e E (F' x)) : En n w0 Q e E F := fun a w ha hs => by
  obtain ⟨x, hp, hst⟩ := h w hs
  exact k x hp a w ha hst

theorem flatten_lset {k : Nat} : ∀ {css : List (List Value)}, (∀ cs ∈ css, cs.length = k) → ∀ {i : Nat} {cs : List Value} {off : Nat} {vs : List Value}, css[i]? = some cs → off + vs.length ≤ k → lset css.flatten (i * k + off) vs = (css.set i (lset cs off vs)).flatten
  | [], _, i, _, _, _, h, _ => by simp at h
  | c :: r, hk, 0, cs, off, vs, h, hl => by
    obtain rfl : c = cs := by simpa using h
    rw [List.flatten_cons, List.set_cons_zero, List.flatten_cons, Nat.zero_mul, Nat.zero_add]
    exact lset_append vs c _ off (by rw [hk c (by simp)]; exact hl)
  | c :: r, hk, i + 1, cs, off, vs, h, hl => by
    have hc := hk c (by simp)
    have ih := flatten_lset (css := r) (fun d hd => hk d (by simp [hd])) (i := i) (cs := cs) (off := off) (vs := vs) (by simpa using h) hl
    rw [List.flatten_cons, List.set_cons_succ, List.flatten_cons, ← ih]
    have e : (i + 1) * k + off = c.length + (i * k + off) := by rw [hc, Nat.succ_mul]; omega
    rw [e]
    have key : ∀ (vs l : List Value) (m : Nat), lset (c ++ l) (c.length + m) vs = c ++ lset l m vs := by
      intro vs
      induction vs with
      | nil => intro l m; rfl
      | cons u us ih2 =>
        intro l m
        show lset ((c ++ l).set (c.length + m) u) (c.length + m + 1) us = c ++ lset (l.set m u) (m + 1) us
        rw [List.set_append_right _ _ (by omega), show c.length + m - c.length = m by omega]
        exact ih2 _ (m + 1)
    exact key vs _ _

section
variable {P : Program} {n : Nat} {w0 : World} {E : Env} {d : Option Tmp} {ty : TypeId} {pos : String} {af : Array Edge} {g : Option (Nat × Bool)} {K : Value → List Chunk → Prop} {α : Type} {A : Ty α} {enc : α → List Value} {F C : List Chunk} {fp : List Nat} {a : Option Addr} {m c : Nat} {xs ys : List α}
theorem OpH.mapK {o : Oper} {K K' : Value → List Chunk → Prop} (h : OpH P w0 F E o K) (hk : ∀ v F', K v F' → K' v F') : OpH P w0 F E o K' := fun a w hg hs K1 Q' hK => h a w hg hs K1 Q' fun v F' w' h1 h2 => hK v F' w' (hk v F' h1) h2
theorem OpH.post {o : Oper} {K K' : Value → List Chunk → Prop} (h : OpH P w0 F E o K) (hk : ∀ v F' w', K v F' → St w0 F' w' → ∃ F2, K' v F2 ∧ St w0 F2 w') : OpH P w0 F E o K' := fun a w hg hs K1 Q' hK => h a w hg hs K1 Q' fun v F' w' h1 h2 => by
  obtain ⟨F2, h3, h4⟩ := hk v F' w' h1 h2
  exact hK v F2 w' h3 h4
theorem OpH.makeO {t by_ : Nat} {zs : List Value} {x y : Operand} {z : α} {l cc : Int} (hx : ev E x = some (.int .i64 l)) (hy : ev E y = some (.int .i64 cc)) (ht : makeInfo P t = some (A.T, by_, zs)) (hz : ∀ w, A.ow [] w zs z) (hb : by_ ≤ 65536)
    (h : mkO l z = some ys) (hc : l ≤ cc ∧ cc ≤ 1073741824) (hk : ∀ g, K (.slice (some ⟨g, 0, .none⟩) ys.length cc.toNat) (Chunk.own A [g] (some ⟨g, 0, .none⟩) ys.length cc.toNat ys :: F)) : OpH P w0 F E ⟨d, .makeSlice t x y, ty, pos, af, g⟩ K := by
  obtain ⟨⟨h0, h1⟩, rfl⟩ := mkO_some h
  obtain ⟨h2, h3⟩ := hc
  have hzl : zs.length = A.k := A.len (A.ro (hz default))
  obtain ⟨l', rfl⟩ : ∃ l' : Nat, l = l' := ⟨l.toNat, by omega⟩
  obtain ⟨c', rfl⟩ : ∃ c' : Nat, cc = c' := ⟨cc.toNat, by omega⟩
  have hbb : by_ * c' ≤ 281474976710656 := Nat.le_trans (Nat.mul_le_mul hb (show c' ≤ 1073741824 by omega)) (by decide)
  refine OpH.post (OpH.make (K := fun v F' => ∃ g, v = .slice (some ⟨g, 0, .none⟩) l' c' ∧ F' = Chunk.box g A.T ((List.replicate c' zs).flatten) :: F) hx hy ht (by omega) hbb (by omega) fun g => ⟨g, rfl, rfl⟩) ?_
  rintro v F' w' ⟨g, rfl, rfl⟩ hs
  refine ⟨Chunk.own A [g] (some ⟨g, 0, .none⟩) (List.replicate l' z).length c' (List.replicate l' z) :: F, ?_, ?_⟩
  · have := hk g
    simpa using this
  · have hbx := (hs.own (Chunk.box g A.T ((List.replicate c' zs).flatten)) (by simp)).1
    refine St.join (F := []) (G := [Chunk.box g A.T ((List.replicate c' zs).flatten)]) _ hs ⟨rfl, List.replicate l' zs, List.replicate l' [], by simp [blk], ?_, ⟨by simp, by simp, fun i x hx => ?_⟩⟩ (by simp [Chunk.own, Chunk.fp])
    · refine ⟨?_, .inr ⟨g, [], (List.replicate (c' - l') zs).flatten, [], rfl, ?_, by simp; omega, by unfold maxLen; omega, ?_⟩⟩
      · rw [flatten_len (k := A.k) (fun cs hcs => by rw [List.eq_of_mem_replicate hcs]; exact hzl)]; simp
      · rw [← List.flatten_append, List.replicate_append_replicate, flatten_len (k := A.k) (fun cs hcs => by rw [List.eq_of_mem_replicate hcs]; exact hzl), List.length_replicate]
        congr 1; omega
      · rw [List.append_nil, ← List.flatten_append, List.replicate_append_replicate, show l' + (c' - l') = c' by omega]; exact hbx
    · have hi : i < l' := by simpa using (List.getElem?_eq_some_iff.1 hx).1
      have : x = z := List.eq_of_mem_replicate (List.mem_of_getElem? hx)
      subst this
      exact ⟨zs, [], by simp [hi], by simp [hi], hz w'⟩
theorem OpV.lenO {t : TypeId} {ty' : Array TypeId} {x : Operand} (hx : ev E x = some (.slice a m c)) (ht : (sliceElem P t).isSome = true) (hty : ty' = #[t]) (hn : m = xs.length) :
    OpV P w0 F E ⟨d, .call ⟨.builtin .len, #[x], ty'⟩, ty, pos, af, g⟩ (.int .i64 xs.length) := by
  subst hn
  exact .len hx ht hty
theorem OpV.inhF {o : Oper} {v : Value} (h : (∃ w, St w0 F w) → OpV P w0 F E o v) : OpV P w0 F E o v := fun a w hg hs => h ⟨w, hs⟩ a w hg hs
def fieldTy (P : Program) (s k : Nat) : Option (Nat × Nat) := match P.underlying s with
  | some (.struct fs) => (fs[k]?).map fun f => (f.type, f.offset)
  | _ => .none
theorem fieldTy_open {s k ft off : Nat} (h : fieldTy P s k = some (ft, off)) : ∃ fs f, P.underlying s = some (.struct fs) ∧ fs[k]? = some f ∧ f.type = ft ∧ f.offset = off := by
  unfold fieldTy at h
  split at h
  · rename_i fs hu
    obtain ⟨f, hf, he⟩ := Option.map_eq_some_iff.1 h
    simp only [Prod.mk.injEq] at he
    exact ⟨fs, f, hu, hf, he.1, he.2⟩
  · cases h
theorem OpV.field1 {s k ft off : Nat} {x : Operand} {cs : List Value} {v : Value} (hx : ev E x = some (.agg cs.toArray)) (hf : fieldTy P s k = some (ft, off)) (ht : plainTy P ft = true) (hv : cs[off]? = some v) : OpV P w0 F E ⟨d, .field s x k, ty, pos, af, g⟩ v :=
  .of_run fun a w hg _ => by
    obtain ⟨fs, f, hu, hfs, rfl, rfl⟩ := fieldTy_open hf
    simp [execOp, hg.ev hx, Instr.field, run_underlying hu, hfs, asAgg, part, run_isAgg_plain ht w, hv]
theorem OpV.fieldN {s k ft off n : Nat} {x : Operand} {cs l : List Value} (hx : ev E x = some (.agg cs.toArray)) (hf : fieldTy P s k = some (ft, off)) (ht : aggTy P ft = some n) (hl : (cs.drop off).take n = l) : OpV P w0 F E ⟨d, .field s x k, ty, pos, af, g⟩ (.agg l.toArray) :=
  .of_run fun a w hg _ => by
    obtain ⟨fs, f, hu, hfs, rfl, rfl⟩ := fieldTy_open hf
    subst hl
    simp [execOp, hg.ev hx, Instr.field, run_underlying hu, hfs, asAgg, part, (run_isAgg_agg ht w).1, (run_isAgg_agg ht w).2, List.extract_toArray]
theorem OpV.makeFunc {f : FuncId} {cs : Array Operand} {vs : List Value} (hc : evs E cs.toList vs) : OpV P w0 F E ⟨d, .makeFunc (.func f) #[] cs, ty, pos, af, g⟩ (.func (.func f) #[] vs.toArray) :=
  .of_run fun a w hg _ => by
    have h1 : cs.map a.eval = vs.toArray := by
      apply Array.toList_inj.1
      rw [Array.toList_map, hg.evs cs.toList hc]
    simp [execOp, Instr.makeFunc, h1]
theorem OpV.loadCap {t : TypeId} {x : Operand} {b k : Nat} {T : TypeId} {l : List Value} {v : Value} (hx : ev E x = some (.pointer (some ⟨b, k, none⟩))) (ht : plainTy P t = true) (hb : w0.heap[b]? = some (.cells l.toArray T (0, 0))) (hk : l[k]? = some v) :
    OpV P w0 F E ⟨d, .load t x, ty, pos, af, g⟩ v :=
  .load1 hx ht fun _ hs => cell_box (hs.old hb) hk
theorem OpV.loadCapN {t : TypeId} {x : Operand} {b k n : Nat} {T : TypeId} {l l' : List Value} (hx : ev E x = some (.pointer (some ⟨b, k, none⟩))) (hb : w0.heap[b]? = some (.cells l.toArray T (0, 0))) (ht : aggTy P t = some n) (hl : (l.drop k).take n = l') (hn : l'.length = n) :
    OpV P w0 F E ⟨d, .load t x, ty, pos, af, g⟩ (.agg l'.toArray) :=
  .loadN hx ht hn fun _ hs j v hj => by
    rw [Addr.add_lit]
    refine cell_box (hs.old hb) ?_
    subst hl
    rw [List.getElem?_take] at hj
    split at hj
    · rw [List.getElem?_drop] at hj; exact hj
    · cases hj
theorem St.litOwn {w : World} {g : Nat} {css : List (List Value)} {fps : List (List Nat)} {l : List Value} (h : St w0 (Chunk.inn A css fps xs :: Chunk.box g A.T l :: C) w) (hl : l = css.flatten) (hmax : xs.length ≤ 1073741824) : St w0 (Chunk.own A (g :: fps.flatten) (some ⟨g, 0, .none⟩) xs.length xs.length xs :: C) w := by
  subst hl
  have hin : Inn A css fps xs w := (h.own (Chunk.inn A css fps xs) (by simp)).1
  have hbx := (h.own (Chunk.box g A.T css.flatten) (by simp)).1
  have hp : St w0 ([] ++ ([Chunk.box g A.T css.flatten, Chunk.inn A css fps xs] ++ C)) w := h.perm (List.Perm.swap _ _ _)
  refine St.join (F := []) (G := [Chunk.box g A.T css.flatten, Chunk.inn A css fps xs]) _ hp ⟨rfl, css, fps, rfl, ⟨by rw [flatten_len hin.len, hin.1], .inr ⟨g, [], [], [], rfl, by rw [List.append_nil, flatten_len hin.len, hin.1], Nat.le_refl _, by unfold maxLen; omega, by rw [List.append_nil, List.append_nil]; exact hbx⟩⟩, hin⟩ (by simp [Chunk.own, Chunk.inn, Chunk.fp])
theorem St.innNil {w : World} (h : St w0 C w) : St w0 (Chunk.inn A [] [] [] :: C) w :=
  h.add (Ext.refl w) _ ⟨rfl, rfl, fun i x hx => by simp at hx⟩ (by simp [Chunk.inn, Chunk.fp]) (by simp [Chunk.inn, Chunk.fp])
theorem St.innSnoc {w : World} {css : List (List Value)} {fps : List (List Nat)} {f : List Nat} {cs : List Value} {x : α} (h : St w0 (Chunk.el A f cs x :: Chunk.inn A css fps xs :: C) w) : St w0 (Chunk.inn A (css ++ [cs]) (fps ++ [f]) (xs ++ [x]) :: C) w := by
  have hel : A.ow f w cs x := (h.own (Chunk.el A f cs x) (by simp)).1
  have hin : Inn A css fps xs w := (h.own (Chunk.inn A css fps xs) (by simp)).1
  have hp : St w0 ([] ++ ([Chunk.inn A css fps xs, Chunk.el A f cs x] ++ C)) w := h.perm (List.Perm.swap _ _ _)
  exact St.join (F := []) (G := [Chunk.inn A css fps xs, Chunk.el A f cs x]) _ hp (hin.snoc hel) (by simp [Chunk.inn, Chunk.el, Chunk.fp])
theorem OpH.litN {t len : Nat} {ps : Array (Nat × Operand)} {pvs : List (Nat × Value)} {l : List Value} {css : List (List Value)} {fps : List (List Nat)} (hp : evps E ps.toList pvs) (hb : builtSlice P t len pvs = some (A.T, l)) (hl : l = css.flatten) (hn : len = xs.length) (hmax : xs.length ≤ 1073741824)
    (hk : ∀ g fp', K (.slice (some ⟨g, 0, .none⟩) xs.length xs.length) (Chunk.own A fp' (some ⟨g, 0, .none⟩) xs.length xs.length xs :: C)) : OpH P w0 (Chunk.inn A css fps xs :: C) E ⟨d, .buildSlice t len ps, ty, pos, af, g⟩ K := by
  subst hl; subst hn
  refine OpH.post (OpH.buildSlice (K := fun v F' => ∃ g, v = .slice (some ⟨g, 0, .none⟩) xs.length xs.length ∧ F' = Chunk.box g A.T css.flatten :: Chunk.inn A css fps xs :: C) hp hb fun g => ⟨g, rfl, rfl⟩) ?_
  rintro v F' w' ⟨g, rfl, rfl⟩ hs
  exact ⟨_, hk g _, St.litOwn (hs.perm (List.Perm.swap _ _ _)) rfl hmax⟩
theorem OpH.litF {t len : Nat} {ps : Array (Nat × Operand)} {pvs : List (Nat × Value)} {l : List Value} (hF : Flat A enc) (hp : evps E ps.toList pvs) (hb : builtSlice P t len pvs = some (A.T, l)) (hl : l = xs.flatMap enc) (hn : len = xs.length) (hmax : xs.length ≤ 1073741824)
    (hk : ∀ g, K (.slice (some ⟨g, 0, .none⟩) xs.length xs.length) (Chunk.own A [g] (some ⟨g, 0, .none⟩) xs.length xs.length xs :: F)) : OpH P w0 F E ⟨d, .buildSlice t len ps, ty, pos, af, g⟩ K := by
  subst hl; subst hn
  refine OpH.post (OpH.buildSlice (K := fun v F' => ∃ g, v = .slice (some ⟨g, 0, .none⟩) xs.length xs.length ∧ F' = Chunk.box g A.T (xs.flatMap enc) :: F) hp hb fun g => ⟨g, rfl, rfl⟩) ?_
  rintro v F' w' ⟨g, rfl, rfl⟩ hs
  refine ⟨_, hk g, ?_⟩
  have hbx := (hs.own (Chunk.box g A.T (xs.flatMap enc)) (by simp)).1
  refine St.join (F := []) (G := [Chunk.box g A.T (xs.flatMap enc)]) _ hs ⟨rfl, xs.map enc, xs.map fun _ => [], by rw [flatten_nils]; rfl, ⟨?_, .inr ⟨g, [], [], [], rfl, ?_, Nat.le_refl _, by unfold maxLen; omega, ?_⟩⟩, hF.inn xs w'⟩ (by simp [Chunk.own, Chunk.fp])
  · rw [flatten_len (k := A.k) (fun cs hcs => by obtain ⟨x, _, rfl⟩ := List.mem_map.1 hcs; exact hF.len x)]; simp
  · rw [List.append_nil, flatten_len (k := A.k) (fun cs hcs => by obtain ⟨x, _, rfl⟩ := List.mem_map.1 hcs; exact hF.len x)]; simp
  · rw [List.append_nil, List.append_nil, ← List.flatMap_def]; exact hbx
theorem OpH.lit0 {t : Nat} {ps : Array (Nat × Operand)} {pvs : List (Nat × Value)} (hp : evps E ps.toList pvs) (hb : builtSlice P t 0 pvs = some (A.T, []))
    (hk : ∀ g, K (.slice (some ⟨g, 0, .none⟩) 0 0) (Chunk.own A [g] (some ⟨g, 0, .none⟩) 0 0 [] :: F)) : OpH P w0 F E ⟨d, .buildSlice t 0 ps, ty, pos, af, g⟩ K := by
  refine OpH.post (OpH.buildSlice (K := fun v F' => ∃ g, v = .slice (some ⟨g, 0, .none⟩) 0 0 ∧ F' = Chunk.box g A.T [] :: F) hp hb fun g => ⟨g, rfl, rfl⟩) ?_
  rintro v F' w' ⟨g, rfl, rfl⟩ hs
  refine ⟨_, hk g, ?_⟩
  have hbx := (hs.own (Chunk.box g A.T []) (by simp)).1
  exact St.join (F := []) (G := [Chunk.box g A.T []]) _ hs ⟨rfl, [], [], rfl, ⟨by simp, .inr ⟨g, [], [], [], rfl, by simp, Nat.le_refl _, Nat.zero_le _, hbx⟩⟩, ⟨rfl, rfl, fun i x h => by simp at h⟩⟩ (by simp [Chunk.own, Chunk.fp])
theorem app_nil {ys : List α} (h : ys.length ≤ 1073741824) : app [] ys = some ys := by simp [app, h]
theorem OpH.appS {t by_ m2 c2 : Nat} {zs : List Value} {x y : Operand} {tys : Array TypeId} {a2 : Option Addr} {us : List α} (hF : Flat A enc) (hx : ev E x = some (.slice a m c)) (hy : ev E y = some (.slice a2 m2 c2)) (hty : tys = #[t, t])
    (ht : makeInfo P t = some (A.T, by_, zs)) (hz : zs.length = A.k) (hb : by_ ≤ 65536) (hr : ∀ w, St w0 (F ++ Chunk.own A fp a m c xs :: C) w → Rd A w a2 m2 c2 ys) (hp : app xs ys = some us)
    (hk : ∀ fp' a' c', K (.slice a' us.length c') (F ++ Chunk.own A fp' a' us.length c' us :: C)) :
    OpH P w0 (F ++ Chunk.own A fp a m c xs :: C) E ⟨d, .call ⟨.builtin .append, #[x, y], tys⟩, ty, pos, af, g⟩ K := fun ac w hg hs K' Q' hK => by
  obtain ⟨hlen, rfl⟩ := app_some hp
  obtain rfl := (hr w hs).1
  obtain ⟨rfl, css, fps, hfp, hs1⟩ := St.ownOpen hs
  have hbb : (xs.length + ys.length) * by_ ≤ 140737488355328 := Nat.le_trans (Nat.mul_le_mul hlen hb) (by decide)
  have hone : ∀ v ∈ ys.flatMap enc, v.oneCell' = true := fun v hv => by
    obtain ⟨y, _, hv⟩ := List.mem_flatMap.1 hv
    exact List.all_eq_true.1 (A.one (A.ro (hF.ow default y))) v hv
  refine OpH.append (A := F) (C := Chunk.inn A css fps xs :: C) (t := t) (e := A.T) (by_ := by_) (zs := zs) (m := xs.length) (m2 := ys.length) (xs := css.flatten) (news := ys.flatMap enc)
    (K := fun v' F' => ∃ a' c', v' = .slice a' (xs.length + ys.length) c' ∧ F' = F ++ Chunk.row A.T zs.length a' (xs.length + ys.length) c' (css.flatten ++ ys.flatMap enc) :: Chunk.inn A css fps xs :: C) hx hy hty ht (by rw [hz]; exact A.pos) (by rw [flatMap_len hF.len, hz]) hone
    (fun w' hs' => Rd.cellsAt hF (hr w' (by rw [hz] at hs'; rw [hfp]; exact St.ownClose hs'))) hbb (by omega) (fun a' c' => ⟨a', c', rfl, rfl⟩) ac w hg (by rw [hz]; exact hs1) K' Q' ?_
  rintro v' F' w' ⟨a', c', rfl, rfl⟩ hst
  rw [hz] at hst
  have hin' : Inn A css fps xs w' := (hst.own (Chunk.inn A css fps xs) (by simp)).1
  have hrow := (hst.own (Chunk.row A.T A.k a' (xs.length + ys.length) c' (css.flatten ++ ys.flatMap enc)) (by simp)).1
  have e : css.flatten ++ ys.flatMap enc = (css ++ ys.map enc).flatten := by rw [List.flatten_append, List.flatMap_def]
  have hj := St.join (F := F) (G := [Chunk.row A.T A.k a' (xs.length + ys.length) c' (css.flatten ++ ys.flatMap enc), Chunk.inn A css fps xs]) (Chunk.own A (blk a' ++ (fps ++ ys.map fun _ => []).flatten) a' (xs ++ ys).length c' (xs ++ ys)) hst
    ⟨rfl, css ++ ys.map enc, fps ++ ys.map fun _ => [], rfl, by rw [List.length_append, ← e]; exact hrow, hin'.append (hF.inn ys w')⟩ (by rw [List.flatten_append, flatten_nils]; simp [Chunk.own, Chunk.row, Chunk.inn, Chunk.fp])
  refine hK _ _ w' ?_ hj
  have := hk (blk a' ++ (fps ++ ys.map fun _ => []).flatten) a' c'
  rw [List.length_append] at this ⊢
  exact this
theorem OpH.setEl {t b o : Nat} {x y : Operand} {i : Int} {f : List Nat} {cs : List Value} {v : α} {u : Value} (ha : a = some ⟨b, o, .none⟩) (hx : ev E x = some (.pointer (some ⟨b, o + i.toNat * A.k, .none⟩))) (hy : ev E y = some u) (hu : u.cells = cs.toArray) (ht : tySize P t = some A.k) (h : upd xs i v = some ys)
    (hk : ∀ fp', K undef (Chunk.own A fp' a m c ys :: C)) : OpH P w0 (Chunk.el A f cs v :: Chunk.own A fp a m c xs :: C) E ⟨d, .store t x y, ty, pos, af, g⟩ K := fun ac w hg hs K' Q' hK => by
  subst ha
  obtain ⟨⟨h0, h1⟩, rfl⟩ := upd_some h
  have hel : A.ow f w cs v := (hs.own (Chunk.el A f cs v) (by simp)).1
  obtain ⟨rfl, css, fps, hfp, hs1⟩ := St.ownOpen (F := [Chunk.el A f cs v]) hs
  have hin : Inn A css fps xs w := (hs1.own (Chunk.inn A css fps xs) (by simp)).1
  have hcl := A.len (A.ro hel)
  have hi : i.toNat < xs.length := by omega
  refine OpH.storeRowN (A := [Chunk.el A f cs v]) (C := Chunk.inn A css fps xs :: C) (K := fun v' F' => v' = undef ∧ F' = Chunk.el A f cs v :: Chunk.row A.T A.k (some ⟨b, o, .none⟩) xs.length c (lset css.flatten (i.toNat * A.k) cs) :: Chunk.inn A css fps xs :: C) hx hy hu (by rw [hcl]; exact ht) (by
      have := Nat.mul_le_mul_right A.k (show i.toNat + 1 ≤ xs.length by omega)
      rw [Nat.succ_mul] at this; rw [hcl]; exact this) (A.one (A.ro hel)) ⟨rfl, rfl⟩ ac w hg hs1 K' Q' ?_
  rintro v' F' w' ⟨rfl, rfl⟩ hst
  have hel' : A.ow f w' cs v := (hst.own (Chunk.el A f cs v) (by simp)).1
  have hin' : Inn A css fps xs w' := (hst.own (Chunk.inn A css fps xs) (by simp)).1
  have hrow := (hst.own (Chunk.row A.T A.k (some ⟨b, o, .none⟩) xs.length c (lset css.flatten (i.toNat * A.k) cs)) (by simp)).1
  rw [flatten_set hin'.len hcl (by rw [hin'.1]; exact hi)] at hrow
  have hperm : St w0 ([] ++ ([Chunk.row A.T A.k (some ⟨b, o, .none⟩) xs.length c (lset css.flatten (i.toNat * A.k) cs), Chunk.inn A css fps xs, Chunk.el A f cs v] ++ C)) w' := hst.perm (by
    refine List.Perm.trans (List.perm_middle (l₁ := [Chunk.row A.T A.k (some ⟨b, o, .none⟩) xs.length c (lset css.flatten (i.toNat * A.k) cs), Chunk.inn A css fps xs])).symm ?_
    exact List.Perm.refl _)
  have hnd := hperm.nodup
  have hj := St.join' (F := []) (Chunk.own A (blk (some ⟨b, o, .none⟩) ++ (fps.set i.toNat f).flatten) (some ⟨b, o, .none⟩) xs.length c (xs.set i.toNat v)) hperm ⟨by simp, css.set i.toNat cs, fps.set i.toNat f, rfl, by rw [List.length_set]; exact hrow, hin'.set hel'⟩ ?_ ?_
  · exact hK _ _ w' (hk _) hj
  · simp only [List.nil_append, List.flatMap_append, List.flatMap_cons, List.flatMap_nil, List.append_nil, Chunk.row, Chunk.inn, Chunk.el, Chunk.fp] at hnd
    rw [List.nodup_append] at hnd
    have h2 := hnd.1
    rw [List.nodup_append] at h2
    show (blk (some ⟨b, o, .none⟩) ++ (fps.set i.toNat f).flatten).Nodup
    rw [List.nodup_append]
    refine ⟨h2.1, nodup_set _ h2.2.1, fun p hp q hq => h2.2.2 p hp q ?_⟩
    obtain ⟨l, hl, hql⟩ := List.mem_flatten.1 hq
    rcases List.mem_or_eq_of_mem_set hl with hl | rfl
    · exact List.mem_append_left _ (List.mem_flatten.2 ⟨l, hl, hql⟩)
    · exact List.mem_append_right _ hql
  · intro p hp
    have hp' : p ∈ blk (some ⟨b, o, .none⟩) ++ (fps.set i.toNat f).flatten := hp
    simp only [List.flatMap_cons, List.flatMap_nil, List.append_nil, Chunk.row, Chunk.inn, Chunk.el, Chunk.fp]
    rcases List.mem_append.1 hp' with hp | hq
    · exact List.mem_append_left _ hp
    · obtain ⟨l, hl, hql⟩ := List.mem_flatten.1 hq
      rcases List.mem_or_eq_of_mem_set hl with hl | rfl
      · exact List.mem_append_right _ (List.mem_append_left _ (List.mem_flatten.2 ⟨l, hl, hql⟩))
      · exact List.mem_append_right _ (List.mem_append_right _ hql)
theorem OpH.setFld {t b o off : Nat} {x y : Operand} {i : Int} {v v' : α} {u : Value} {vs : List Value} (ha : a = some ⟨b, o, .none⟩) (hx : ev E x = some (.pointer (some ⟨b, o + i.toNat * A.k + off, .none⟩))) (hy : ev E y = some u) (hu : u.cells = vs.toArray) (ht : tySize P t = some vs.length) (hone : vs.all Value.oneCell' = true) (hoff : Nat.ble (off + vs.length) A.k = true)
    (hi : idx xs i = some v) (hf : ∀ f w cs, A.ow f w cs v → A.ow f w (lset cs off vs) v') (h : upd xs i v' = some ys)
    (hk : K undef (F ++ Chunk.own A fp a m c ys :: C)) : OpH P w0 (F ++ Chunk.own A fp a m c xs :: C) E ⟨d, .store t x y, ty, pos, af, g⟩ K := fun ac w hg hs K' Q' hK => by
  subst ha
  obtain ⟨⟨h0, h1⟩, rfl⟩ := upd_some h
  obtain ⟨rfl, css, fps, hfp, hs1⟩ := St.ownOpen hs
  have hin : Inn A css fps xs w := (hs1.own (Chunk.inn A css fps xs) (by simp)).1
  have hlt : i.toNat < xs.length := by omega
  have hoff' := Nat.le_of_ble_eq_true hoff
  rw [Nat.add_assoc] at hx
  refine OpH.storeRowN (A := F) (C := Chunk.inn A css fps xs :: C) (K := fun v' F' => v' = undef ∧ F' = F ++ Chunk.row A.T A.k (some ⟨b, o, .none⟩) xs.length c (lset css.flatten (i.toNat * A.k + off) vs) :: Chunk.inn A css fps xs :: C) hx hy hu ht (by
      have := Nat.mul_le_mul_right A.k (show i.toNat + 1 ≤ xs.length by omega)
      rw [Nat.succ_mul] at this; omega) hone ⟨rfl, rfl⟩ ac w hg hs1 K' Q' ?_
  rintro v'' F' w' ⟨rfl, rfl⟩ hst
  have hin' : Inn A css fps xs w' := (hst.own (Chunk.inn A css fps xs) (by simp)).1
  obtain ⟨cs, f, h3, h4, h5⟩ := hin'.2.2 i.toNat v (idx_some hi).2.2
  have hrow := (hst.own (Chunk.row A.T A.k (some ⟨b, o, .none⟩) xs.length c (lset css.flatten (i.toNat * A.k + off) vs)) (by simp)).1
  rw [flatten_lset hin'.len h3 hoff'] at hrow
  have hset : fps.set i.toNat f = fps := by
    apply List.ext_getElem?
    intro j
    rw [List.getElem?_set]
    split
    · rename_i e; subst e; rw [if_pos (List.getElem?_eq_some_iff.1 h4).1, h4]
    · rfl
  have hj := St.join (F := F) (G := [Chunk.row A.T A.k (some ⟨b, o, .none⟩) xs.length c (lset css.flatten (i.toNat * A.k + off) vs), Chunk.inn A css fps xs]) (Chunk.own A fp (some ⟨b, o, .none⟩) xs.length c (xs.set i.toNat v')) hst
    ⟨by simp, css.set i.toNat (lset cs off vs), fps, hfp, by rw [List.length_set]; exact hrow, by have := hin'.set (i := i.toNat) (hf f w' cs h5); rwa [hset] at this⟩ (by rw [show (Chunk.own A fp (some ⟨b, o, .none⟩) xs.length c (xs.set i.toNat v')).fp = fp from rfl, hfp]; simp [Chunk.row, Chunk.inn, Chunk.fp])
  exact hK _ _ w' hk hj
def Chunk.frz {α : Type} (A : Ty α) (b : Nat) (a : Option Addr) (n c : Nat) (xs : List α) : Chunk :=
  .any [b] (fun w => b < w.heap.size ∧ ∀ w', w'.heap[b]? = w.heap[b]? → Rd A w' a n c xs)
    (fun w w' h hA => ⟨by
      have h1 := h b (by simp)
      rw [Array.getElem?_eq_getElem hA.1] at h1
      exact (Array.getElem?_eq_some_iff.1 h1).1, fun w2 h2 => hA.2 w2 (by rw [h2]; exact h b (by simp))⟩)
    (fun w hA b' hb => by
      have : b' = b := by simpa using hb
      rw [this]; exact hA.1)
theorem OpV.strBR {A : Ty Int} {enc : Int → List Value} {xs : List Int} {x : Operand} {t t' e : TypeId} {a : Option Addr} {n c : Nat} (hF : Flat A enc) (hE : ∀ x, enc x = [.int .u8 x]) (hx : ev E x = some (.slice a n c)) (hs : P.underlying t = some (.slice e)) (he : P.underlying e = some (.int .u8)) (hd : P.underlying t' = some .string)
    (hr : ∀ w, St w0 F w → Rd A w a n c xs) : OpV P w0 F E ⟨d, .convert t t' x, ty, pos, af, g⟩ (.string (strB xs)) :=
  .of_run fun ac w hg hst => by
    have hrd := hr w hst
    have hk : A.k = 1 := by have := hF.len 0; rw [hE] at this; exact this.symm
    have hrun : (convert t t' (.slice a n c)).run P w = .ok (.string (strB xs)) w := by
      obtain rfl := hrd.1
      cases xs with
      | nil =>
        cases a with
        | none => rw [run_convert_bytes_nil w t e hs he _ c t' hd]; rfl
        | some ad =>
          rw [run_convert_bytes_string w t t' e _ _ _ hs he hd]
          have hl := run_loadCells_list (P := P) w ad [] (fun j v hj => by simp at hj)
          exact run_bytesToString w ad 0 c [] hl
      | cons y ys =>
        obtain ⟨b, o, _, ea, _, _⟩ := hrd.2.2 0 y rfl
        subst ea
        rw [run_convert_bytes_string w t t' e _ _ _ hs he hd]
        have hl := run_loadCells_list (P := P) w ⟨b, o, .none⟩ ((y :: ys).map (Value.int .u8)) (fun j v hj => by
          rw [List.getElem?_map, Option.map_eq_some_iff] at hj
          obtain ⟨z, hz, rfl⟩ := hj
          obtain ⟨b', o', cs, e1, hr1, hc⟩ := hrd.2.2 j z hz
          simp only [Option.some.injEq, Addr.mk.injEq, and_true] at e1
          obtain ⟨rfl, rfl⟩ := e1
          rw [hF.rd hr1, hE] at hc
          have := hc 0 _ rfl
          rw [Addr.add_lit]
          rwa [hk, Nat.mul_one, Nat.add_zero] at this)
        rw [List.length_map] at hl
        exact run_bytesToString w ⟨b, o, .none⟩ _ c _ hl
    simp [execOp, hg.ev hx, hrun]
theorem OpH.bytesOf {A : Ty Int} {enc : Int → List Value} {s : ByteArray} {x : Operand} {t t' : TypeId} (hF : Flat A enc) (hE : ∀ x, enc x = [.int .u8 x]) (hx : ev E x = some (.string s)) (hs : P.underlying t = some .string) (hd : P.underlying t' = some (.slice A.T)) (he : P.underlying A.T = some (.int .u8)) (hn : s.size ≤ 1073741824)
    (hk : ∀ b c, K (.slice (some ⟨b, 0, .none⟩) (bytesL s).length c) (Chunk.frz A b (some ⟨b, 0, .none⟩) (bytesL s).length c (bytesL s) :: F)) : OpH P w0 F E ⟨d, .convert t t' x, ty, pos, af, g⟩ K :=
  .of_run fun ac w hg hst => by
    have hA1 : A.k = 1 := by have := hF.len 0; rw [hE] at this; exact this.symm
    have hr := Lib.run_convert_string_bytes (P := P) w t t' A.T s hs hd he
    have hge := grownCap_ge w s.size 0 A.T
    have hcm : grownCap w s.size 0 A.T ≤ maxLen := grownCap_le_maxLen w s.size 0 A.T (by unfold maxLen; omega)
    have hnew := Lib.bytesWorld_at_new w A.T s
    have hx0 : Ext w (Lib.bytesWorld w A.T s) := ⟨by simp [Lib.bytesWorld, World.freeze, World.alloc, World.drew, -World.alloc_eq, -World.drew_eq], by simp [Lib.bytesWorld, World.freeze, World.alloc, World.drew, -World.alloc_eq, -World.drew_eq], by simp [Lib.bytesWorld, World.freeze, World.alloc, World.drew, -World.alloc_eq, -World.drew_eq], by rw [Lib.bytesWorld_size]; omega, fun k hk => Lib.bytesWorld_at_old w A.T s k hk⟩
    have hl : (bytesL s).length = s.size := bytesL_length s
    have k1 := hk w.heap.size (grownCap w s.size 0 A.T)
    rw [hl] at k1
    refine ⟨_, _, _, by simp [execOp, hg.ev hx, hr], hst.add hx0 (Chunk.frz A w.heap.size (some ⟨w.heap.size, 0, .none⟩) s.size (grownCap w s.size 0 A.T) (bytesL s)) ⟨by rw [Lib.bytesWorld_size]; omega, fun w' hw' => ⟨hl.symm, ⟨by rw [hl]; exact hge, by unfold maxLen at hcm; omega⟩, fun i y hy => ⟨w.heap.size, 0, [.int .u8 y], rfl, by have := A.ro (hF.ow w' y); rwa [hE] at this, fun j v hj => ?_⟩⟩⟩ (by simp [Chunk.frz, Chunk.fp]) (by simp [Chunk.frz, Chunk.fp]), k1⟩
    have hj0 : j = 0 := by have := (List.getElem?_eq_some_iff.1 hj).1; simp at this; omega
    subst hj0
    obtain rfl : Value.int .u8 y = v := by simpa using hj
    rw [hnew] at hw'
    have hi : i < s.data.size := by have := (List.getElem?_eq_some_iff.1 hy).1; rw [hl] at this; exact this
    have hcell : (Lib.bytesCells w A.T s)[i]? = some (.int .u8 y) := by
      unfold Lib.bytesCells
      rw [Array.getElem?_append_left (by simpa using hi)]
      unfold bytesL at hy
      rw [List.getElem?_map, Option.map_eq_some_iff] at hy
      obtain ⟨u, hu, rfl⟩ := hy
      rw [Array.getElem?_toList] at hu
      simp [hu]
    rw [hA1, Nat.zero_add, Nat.mul_one, Nat.add_zero]
    unfold World.cell?
    rw [hw']
    simpa using hcell
theorem OpH.appB {A : Ty Int} {enc : Int → List Value} {xs us : List Int} {t t2 by_ : Nat} {zs : List Value} {x y : Operand} {tys : Array TypeId} {s : ByteArray} (hF : Flat A enc) (hE : ∀ x, enc x = [.int .u8 x]) (hx : ev E x = some (.slice a m c)) (hy : ev E y = some (.string s)) (hty : tys = #[t, t2])
    (ht : makeInfo P t = some (A.T, by_, zs)) (hz : zs.length = A.k) (hb : by_ ≤ 65536) (hu : P.underlying t2 = some .string) (hp : app xs (bytesL s) = some us)
    (hk : ∀ fp' a' c', K (.slice a' us.length c') (F ++ Chunk.own A fp' a' us.length c' us :: C)) :
    OpH P w0 (F ++ Chunk.own A fp a m c xs :: C) E ⟨d, .call ⟨.builtin .append, #[x, y], tys⟩, ty, pos, af, g⟩ K := fun ac w hg hs K' Q' hK => by
  obtain ⟨hlen, rfl⟩ := app_some hp
  have hbl := bytesL_length s
  have hA1 : A.k = 1 := by have := hF.len 0; rw [hE] at this; exact this.symm
  obtain ⟨rfl, css, fps, hfp, hs1⟩ := St.ownOpen hs
  have hbb : (xs.length + s.size) * by_ ≤ 140737488355328 := Nat.le_trans (Nat.mul_le_mul (show xs.length + s.size ≤ 1073741824 by omega) hb) (by decide)
  have ebc : byteCells s = (bytesL s).flatMap enc := by
    have : enc = fun x => [Value.int .u8 x] := funext hE
    rw [this]
    simp [byteCells, bytesL, List.flatMap_map, ← List.map_eq_flatMap]
  refine OpH.appendG (A := F) (C := Chunk.inn A css fps xs :: C) (t := t) (tx := t2) (e := A.T) (by_ := by_) (zs := zs) (m := xs.length) (m2 := s.size) (xs := css.flatten) (news := byteCells s)
    (K := fun v' F' => ∃ a' c', v' = .slice a' (xs.length + s.size) c' ∧ F' = F ++ Chunk.row A.T zs.length a' (xs.length + s.size) c' (css.flatten ++ byteCells s) :: Chunk.inn A css fps xs :: C) hx hy hty ht
    (fun w' _ => by rw [hz, hA1]; exact Src.ofString w' hu s) hbb (by omega) (fun a' c' => ⟨a', c', rfl, rfl⟩) ac w hg (by rw [hz]; exact hs1) K' Q' ?_
  rintro v' F' w' ⟨a', c', rfl, rfl⟩ hst
  rw [hz] at hst
  have hin' : Inn A css fps xs w' := (hst.own (Chunk.inn A css fps xs) (by simp)).1
  have hrow := (hst.own (Chunk.row A.T A.k a' (xs.length + s.size) c' (css.flatten ++ byteCells s)) (by simp)).1
  have e : css.flatten ++ byteCells s = (css ++ (bytesL s).map enc).flatten := by rw [List.flatten_append, ebc, List.flatMap_def]
  have hll : (xs ++ bytesL s).length = xs.length + s.size := by rw [List.length_append, hbl]
  have hj := St.join (F := F) (G := [Chunk.row A.T A.k a' (xs.length + s.size) c' (css.flatten ++ byteCells s), Chunk.inn A css fps xs]) (Chunk.own A (blk a' ++ (fps ++ (bytesL s).map fun _ => []).flatten) a' (xs ++ bytesL s).length c' (xs ++ bytesL s)) hst
    ⟨rfl, css ++ (bytesL s).map enc, fps ++ (bytesL s).map fun _ => [], rfl, by rw [hll, ← e]; exact hrow, hin'.append (hF.inn (bytesL s) w')⟩ (by rw [List.flatten_append, flatten_nils]; simp [Chunk.own, Chunk.row, Chunk.inn, Chunk.fp])
  refine hK _ _ w' ?_ hj
  have := hk (blk a' ++ (fps ++ (bytesL s).map fun _ => []).flatten) a' c'
  rw [hll] at this ⊢
  exact this
end
end K
end Go.Proofs.YtmhalmnbgkpmnaaGreat
