/- Memory laid by: slices of the call's own that are only read from now on, and that several rows may share. -/
import Derived.Test.YtmhalmnbgkpmnaaGreatTail
namespace Go.Proofs.YtmhalmnbgkpmnaaGreat
open Go.RowKit
namespace K

def Chunk.vault (G : List Nat) (w1 : World) : Chunk :=
  .any G (fun w => ∀ b ∈ G, b < w.heap.size ∧ w.heap[b]? = w1.heap[b]?)
    (fun w w' h hA b hb => ⟨by
      have h1 := h b hb
      rw [Array.getElem?_eq_getElem (hA b hb).1] at h1
      exact (Array.getElem?_eq_some_iff.1 h1).1, (h b hb).trans (hA b hb).2⟩)
    (fun _ hA b hb => (hA b hb).1)
def Vl {α : Type} (A : Ty α) (w1 : World) (G : List Nat) (a : Option Addr) (n c : Nat) (xs : List α) : Prop := ∃ f, (∀ b ∈ f, b ∈ G) ∧ Ow A f a n c xs w1
def Ty.al {α : Type} (A : Ty α) (w1 : World) (G : List Nat) : Ty α where
  T := A.T
  k := A.k
  rd := fun _ cs x => ∃ f, (∀ b ∈ f, b ∈ G) ∧ A.ow f w1 cs x
  ow := fun fp _ cs x => fp = [] ∧ ∃ f, (∀ b ∈ f, b ∈ G) ∧ A.ow f w1 cs x
  pos := A.pos
  len := fun ⟨_, _, h⟩ => A.len (A.ro h)
  ext := fun _ h => h
  one := fun ⟨_, _, h⟩ => A.one (A.ro h)
  ro := fun h => h.2
  sup := fun _ h => h
  bd := fun h b hb => by rw [h.1] at hb; cases hb
def Up (w1 : World) (G : List Nat) (w2 : World) (G2 : List Nat) : Prop := ∀ b ∈ G, b ∈ G2 ∧ w2.heap[b]? = w1.heap[b]?
section
variable {α : Type} {A : Ty α} {w0 w w1 w2 : World} {F C : List Chunk} {G G2 fp : List Nat} {a : Option Addr} {m n c : Nat} {xs ys : List α} {css : List (List Value)} {fps : List (List Nat)}
theorem Vl.rd (hv : Vl A w1 G a n c xs) (h : ∀ b ∈ G, b < w.heap.size ∧ w.heap[b]? = w1.heap[b]?) : Rd A w a n c xs := by
  obtain ⟨f, hf, ho⟩ := hv
  exact Ow.rd (Ow.sup w1 w (fun b hb => (h b (hf b hb)).2) ho)
theorem Vl.len (hv : Vl A w1 G a n c xs) : n = xs.length := by
  obtain ⟨f, _, ho⟩ := hv
  exact ho.1
theorem Vl.up (hv : Vl A w1 G a n c xs) (h : Up w1 G w2 G2) : Vl A w2 G2 a n c xs := by
  obtain ⟨f, hf, ho⟩ := hv
  exact ⟨f, fun b hb => (h b (hf b hb)).1, Ow.sup w1 w2 (fun b hb => (h b (hf b hb)).2) ho⟩
theorem Vl.nil : Vl A w1 G .none 0 0 [] := ⟨[], fun _ h => (by cases h), Ow.nil w1⟩
theorem Rd.al (h : Rd (A.al w1 G) w a n c xs) (hG : ∀ b ∈ G, b < w.heap.size ∧ w.heap[b]? = w1.heap[b]?) : Rd A w a n c xs :=
  ⟨h.1, h.2.1, fun i x hx => let ⟨b, o, cs, e, ⟨_, hf, ho⟩, hc⟩ := h.2.2 i x hx; ⟨b, o, cs, e, A.ro (A.sup (fun b hb => (hG b (hf b hb)).2) ho), hc⟩⟩
theorem Ty.al_up {cs : List Value} {x : α} {w' : World} (h : (A.al w1 G).rd w cs x) (hu : Up w1 G w2 G2) : (A.al w2 G2).rd w' cs x := by
  obtain ⟨f, hf, ho⟩ := h
  exact ⟨f, fun b hb => (hu b (hf b hb)).1, A.sup (fun b hb => (hu b (hf b hb)).2) ho⟩
theorem Ow.alMap (hA : ∀ cs x, (A.al w1 G).rd w cs x → (A.al w2 G2).rd w cs x) (h : Ow (A.al w1 G) fp a n c xs w) : Ow (A.al w2 G2) fp a n c xs w := by
  obtain ⟨hn, css, fps, rfl, hrow, h1, h2, h3⟩ := h
  exact ⟨hn, css, fps, rfl, hrow, h1, h2, fun i x hx => let ⟨cs, f, e1, e2, e3, e4⟩ := h3 i x hx; ⟨cs, f, e1, e2, e3, hA cs x e4⟩⟩
theorem St.alUp (hu : Up w1 G w2 G2) (h : St w0 (F ++ Chunk.own (A.al w1 G) fp a m c xs :: C) w) : St w0 (F ++ Chunk.own (A.al w2 G2) fp a m c xs :: C) w := by
  refine St.swapS (F := F) (G := [Chunk.own (A.al w1 G) fp a m c xs]) (G' := [Chunk.own (A.al w2 G2) fp a m c xs]) h (fun d hd => ?_) (List.Sublist.refl _)
  rw [List.mem_singleton.1 hd]
  exact Ow.alMap (fun cs x hr => Ty.al_up hr hu) (h.own (Chunk.own (A.al w1 G) fp a m c xs) (by simp)).1
theorem St.vault0 (h : St w0 F w) : St w0 (Chunk.vault [] w0 :: F) w :=
  h.add (Ext.refl w) _ (fun b hb => by cases hb) (by simp [Chunk.vault, Chunk.fp]) (by simp [Chunk.vault, Chunk.fp])
theorem St.vaultPut (h : St w0 (F ++ ([Chunk.own A fp a m c xs, Chunk.vault G w1] ++ C)) w) : ∃ g : World × List Nat, (Up w1 G g.1 g.2 ∧ Vl A g.1 g.2 a m c xs) ∧ St w0 (F ++ Chunk.vault g.2 g.1 :: C) w := by
  have ho : Ow A fp a m c xs w := (h.own (Chunk.own A fp a m c xs) (by simp)).1
  have hv : ∀ b ∈ G, b < w.heap.size ∧ w.heap[b]? = w1.heap[b]? := (h.own (Chunk.vault G w1) (by simp)).1
  refine ⟨(w, fp ++ G), ⟨fun b hb => ⟨List.mem_append_right _ hb, (hv b hb).2⟩, fp, fun b hb => List.mem_append_left _ hb, ho⟩, ?_⟩
  refine St.swapS (F := F) (G' := [Chunk.vault (fp ++ G) w]) h (fun d hd => ?_) (by simp [Chunk.vault, Chunk.own, Chunk.fp])
  rw [List.mem_singleton.1 hd]
  intro b hb
  refine ⟨?_, rfl⟩
  rcases List.mem_append.1 hb with hb | hb
  · exact Ow.bd w ho b hb
  · exact (hv b hb).1
theorem St.vaultRow (h : St w0 (F ++ ([Chunk.own A fp a m c xs, Chunk.vault G w1] ++ C)) w) : ∃ g : World × List Nat × List Nat, Up w1 G g.1 g.2.1 ∧ St w0 (F ++ ([Chunk.own (A.al g.1 g.2.1) g.2.2 a m c xs, Chunk.vault g.2.1 g.1] ++ C)) w := by
  obtain ⟨hn, css, fps, hfp, hrow, hin⟩ := (h.own (Chunk.own A fp a m c xs) (by simp)).1
  have hv : ∀ b ∈ G, b < w.heap.size ∧ w.heap[b]? = w1.heap[b]? := (h.own (Chunk.vault G w1) (by simp)).1
  have hnil : (fps.map fun _ => ([] : List Nat)).flatten = [] := by
    clear hfp hin
    induction fps <;> simp_all
  refine ⟨(w, fps.flatten ++ G, blk a ++ (fps.map fun _ => ([] : List Nat)).flatten), fun b hb => ⟨List.mem_append_right _ hb, (hv b hb).2⟩, ?_⟩
  refine St.swapS (F := F) (G' := [Chunk.own (A.al w (fps.flatten ++ G)) (blk a ++ (fps.map fun _ => ([] : List Nat)).flatten) a m c xs, Chunk.vault (fps.flatten ++ G) w]) h (fun d hd => ?_) ?_
  · simp only [List.mem_cons, List.not_mem_nil, or_false] at hd
    rcases hd with rfl | rfl
    · refine ⟨hn, css, fps.map fun _ => [], rfl, hrow, hin.1, by rw [List.length_map]; exact hin.2.1, fun i x hx => ?_⟩
      obtain ⟨cs, f, h1, h2, h3⟩ := hin.2.2 i x hx
      exact ⟨cs, [], h1, by rw [List.getElem?_map, h2]; rfl, rfl, f, fun b hb => List.mem_append_left _ (List.mem_flatten.2 ⟨f, List.mem_of_getElem? h2, hb⟩), h3⟩
    · intro b hb
      refine ⟨?_, rfl⟩
      rcases List.mem_append.1 hb with hb | hb
      · exact Inn.bd w hin b hb
      · exact (hv b hb).1
  · simp only [List.flatMap_cons, List.flatMap_nil, List.append_nil]
    show ((blk a ++ (fps.map fun _ => ([] : List Nat)).flatten) ++ (fps.flatten ++ G)).Sublist (fp ++ G)
    rw [hnil, List.append_nil, hfp, List.append_assoc]
    exact List.Sublist.refl _
theorem St.alOpen (h : St w0 (F ++ Chunk.own (A.al w1 G) fp a m c xs :: C) w) : ∃ css : List (List Value), (m = xs.length ∧ (∀ cs ∈ css, cs.length = A.k) ∧ css.length = xs.length ∧ ∀ (i : Nat) x, xs[i]? = some x → ∃ cs, css[i]? = some cs ∧ (A.al w1 G).rd w0 cs x) ∧ St w0 (F ++ Chunk.row A.T A.k a xs.length c css.flatten :: C) w := by
  obtain ⟨hn, css, fps, hfp, hrow, hin⟩ := (h.own (Chunk.own (A.al w1 G) fp a m c xs) (by simp)).1
  refine ⟨css, ⟨hn, hin.len, hin.1, fun i x hx => let ⟨cs, f, h1, _, _, h3⟩ := hin.2.2 i x hx; ⟨cs, h1, h3⟩⟩, ?_⟩
  refine St.swapS (F := F) (G := [Chunk.own (A.al w1 G) fp a m c xs]) (G' := [Chunk.row A.T A.k a xs.length c css.flatten]) h (fun d hd => ?_) ?_
  · rw [List.mem_singleton.1 hd]; exact hrow
  · simp only [List.flatMap_cons, List.flatMap_nil, List.append_nil]
    rw [show (Chunk.own (A.al w1 G) fp a m c xs).fp = fp from rfl, hfp]
    exact List.sublist_append_left _ _
theorem St.alClose {hp : m = xs.length ∧ (∀ cs ∈ css, cs.length = A.k) ∧ css.length = xs.length ∧ ∀ (i : Nat) x, xs[i]? = some x → ∃ cs, css[i]? = some cs ∧ (A.al w1 G).rd w0 cs x} (h : St w0 (F ++ Chunk.row A.T A.k a xs.length c css.flatten :: C) w) : ∃ fp, True ∧ St w0 (F ++ Chunk.own (A.al w1 G) fp a m c xs :: C) w := by
  obtain ⟨hn, hk, hc, hr⟩ := hp
  have hrow : RowA A.T A.k a xs.length c css.flatten w := (h.own (Chunk.row A.T A.k a xs.length c css.flatten) (by simp)).1
  have hnil : (xs.map fun _ => ([] : List Nat)).flatten = [] := flatten_nils xs
  refine ⟨blk a ++ (xs.map fun _ => ([] : List Nat)).flatten, trivial, ?_⟩
  refine St.swapS (F := F) (G := [Chunk.row A.T A.k a xs.length c css.flatten]) (G' := [Chunk.own (A.al w1 G) (blk a ++ (xs.map fun _ => ([] : List Nat)).flatten) a m c xs]) h (fun d hd => ?_) ?_
  · rw [List.mem_singleton.1 hd]
    exact ⟨hn, css, xs.map fun _ => [], rfl, hrow, hc, by simp, fun i x hx => let ⟨cs, h1, h2⟩ := hr i x hx; ⟨cs, [], h1, by simp [hx], rfl, h2⟩⟩
  · simp only [List.flatMap_cons, List.flatMap_nil, List.append_nil]
    show (blk a ++ (xs.map fun _ => ([] : List Nat)).flatten).Sublist (blk a)
    rw [hnil, List.append_nil]
    exact List.Sublist.refl _
theorem rowAddr {T k : Nat} {l : List Value} (hin : ∃ w, St w0 F w) (hm : Chunk.row T k a m c l ∈ F) (h : 0 < m) : ∃ g o, a = some ⟨g, o, .none⟩ := by
  obtain ⟨w, hs⟩ := hin
  exact RowA.addr (hs.mem hm) h
theorem idx_pos {i : Int} {x : α} (h : idx xs i = some x) : 0 < xs.length := by
  obtain ⟨h0, h1, _⟩ := idx_some h
  omega
def Chunk.lie (A : Ty α) (fp : List Nat) (a : Option Addr) (n c : Nat) (xs : List α) : Chunk :=
  .any fp (fun w => (∀ b ∈ fp, b < w.heap.size) ∧ ∀ w', (∀ b ∈ fp, w'.heap[b]? = w.heap[b]?) → Rd A w' a n c xs)
    (fun w w' h hA => ⟨fun b hb => by
      have h1 := h b hb
      rw [Array.getElem?_eq_getElem (hA.1 b hb)] at h1
      exact (Array.getElem?_eq_some_iff.1 h1).1, fun w2 h2 => hA.2 w2 (fun b hb => by rw [h2 b hb]; exact h b hb)⟩)
    (fun _ hA b hb => hA.1 b hb)
theorem St.ownLie (h : St w0 (F ++ Chunk.own A fp a m c xs :: C) w) : St w0 (F ++ Chunk.lie A fp a m c xs :: C) w := by
  have ho : Ow A fp a m c xs w := (h.own (Chunk.own A fp a m c xs) (by simp)).1
  refine St.swapS (F := F) (G := [Chunk.own A fp a m c xs]) (G' := [Chunk.lie A fp a m c xs]) h (fun d hd => ?_) (List.Sublist.refl _)
  rw [List.mem_singleton.1 hd]
  exact ⟨Ow.bd w ho, fun w' h' => Ow.rd (Ow.sup w w' h' ho)⟩
theorem St.alLie (h : St w0 (F ++ ([Chunk.own (A.al w1 G) fp a m c xs, Chunk.vault G w1] ++ C)) w) : St w0 (F ++ Chunk.lie A (fp ++ G) a m c xs :: C) w := by
  have ho : Ow (A.al w1 G) fp a m c xs w := (h.own (Chunk.own (A.al w1 G) fp a m c xs) (by simp)).1
  have hv : ∀ b ∈ G, b < w.heap.size ∧ w.heap[b]? = w1.heap[b]? := (h.own (Chunk.vault G w1) (by simp)).1
  refine St.swapS (F := F) (G' := [Chunk.lie A (fp ++ G) a m c xs]) h (fun d hd => ?_) (by simp [Chunk.vault, Chunk.own, Chunk.lie, Chunk.fp])
  rw [List.mem_singleton.1 hd]
  refine ⟨fun b hb => ?_, fun w' h' => ?_⟩
  · rcases List.mem_append.1 hb with hb | hb
    · exact Ow.bd w ho b hb
    · exact (hv b hb).1
  · refine Rd.al (Ow.rd (Ow.sup w w' (fun b hb => h' b (List.mem_append_left _ hb)) ho)) (fun b hb => ?_)
    have h1 := h' b (List.mem_append_right _ hb)
    refine ⟨?_, h1.trans (hv b hb).2⟩
    rw [Array.getElem?_eq_getElem (hv b hb).1] at h1
    exact (Array.getElem?_eq_some_iff.1 h1).1
theorem St.lieNil (h : St w0 F w) : St w0 (Chunk.lie A [] .none 0 0 [] :: F) w := St.ownLie (F := []) h.ownNil
theorem lieAddr {i : Int} {x : α} (hin : ∃ w, St w0 F w) (hm : Chunk.lie A fp a m c xs ∈ F) (hx : idx xs i = some x) : ∃ g o, a = some ⟨g, o, .none⟩ := by
  obtain ⟨w, hs⟩ := hin
  obtain ⟨b, o, _, e, _⟩ := Rd.atIdx ((hs.mem hm).2 w (fun _ _ => rfl)) hx
  exact ⟨b, o, e⟩
theorem lieLen (hin : ∃ w, St w0 F w) (hm : Chunk.lie A fp a m c xs ∈ F) : m = xs.length := by
  obtain ⟨w, hs⟩ := hin
  exact ((hs.mem hm).2 w (fun _ _ => rfl)).1
theorem St.elFree {cs : List Value} {x : α} (hx : ∀ w, A.ow [] w cs x) (hs : St w0 F w) : St w0 (Chunk.el A [] cs x :: F) w :=
  hs.add (Ext.refl w) _ (hx w) (by simp [Chunk.el, Chunk.fp]) (by simp [Chunk.el, Chunk.fp])
end
section
variable {P : Program} {n : Nat} {w0 w1 : World} {G : List Nat} {E : Env} {d : Option Tmp} {ty : TypeId} {pos : String} {af : Array Edge} {g : Option (Nat × Bool)} {K : Value → List Chunk → Prop} {α : Type} {A : Ty α} {F C : List Chunk} {fp : List Nat} {a a2 : Option Addr} {m c m2 c2 : Nat} {xs ys us : List α}
theorem OpH.exF {o : Oper} {X : Type} {Pre : X → Prop} {F' : X → List Chunk} (h : ∀ w, St w0 F w → ∃ x, Pre x ∧ St w0 (F' x) w) (k : ∀ x, Pre x → OpH P w0 (F' x) E o K) : OpH P w0 F E o K := fun a w hg hs K' Q' hK => by
  obtain ⟨x, hp, hst⟩ := h w hs
  exact k x hp a w hg hst K' Q' hK
theorem OpH.appA {t by_ : Nat} {zs : List Value} {x y : Operand} {tys : Array TypeId} (hx : ev E x = some (.slice a m c)) (hy : ev E y = some (.slice a2 m2 c2)) (hty : tys = #[t, t])
    (ht : makeInfo P t = some (A.T, by_, zs)) (hz : zs.length = A.k) (hb : by_ ≤ 65536) (hr : ∀ w, St w0 (F ++ Chunk.own (A.al w1 G) fp a m c xs :: C) w → Rd (A.al w1 G) w a2 m2 c2 ys) (hp : app xs ys = some us)
    (hk : ∀ fp' a' c', K (.slice a' us.length c') (F ++ Chunk.own (A.al w1 G) fp' a' us.length c' us :: C)) :
    OpH P w0 (F ++ Chunk.own (A.al w1 G) fp a m c xs :: C) E ⟨d, .call ⟨.builtin .append, #[x, y], tys⟩, ty, pos, af, g⟩ K := .of_run fun ac w hg hs => by
  obtain ⟨hlen, rfl⟩ := app_some hp
  have hrd := hr w hs
  obtain rfl := hrd.1
  obtain ⟨rfl, css, fps, hfp, hs1⟩ := St.ownOpen hs
  have hbb : (xs.length + ys.length) * by_ ≤ 140737488355328 := Nat.le_trans (Nat.mul_le_mul hlen hb) (by decide)
  -- the cells of the second one, as they are now
  have hcells : ∀ i : Nat, i < ys.length → ∃ cs, (∀ y, ys[i]? = some y → (A.al w1 G).rd w cs y) ∧ cs.length = A.k ∧ ∀ j v, cs[j]? = some v → ∃ b o, a2 = some ⟨b, o, .none⟩ ∧ w.cell? ⟨b, o + i * A.k + j, .none⟩ = some v := fun i hi => by
    obtain ⟨b, o, cs, e, h1, h2⟩ := hrd.2.2 i ys[i] (List.getElem?_eq_getElem hi)
    exact ⟨cs, fun y hy => by rw [List.getElem?_eq_getElem hi] at hy; cases hy; exact h1, (A.al w1 G).len h1, fun j v hj => ⟨b, o, e, h2 j v hj⟩⟩
  obtain ⟨X, hX⟩ : ∃ X : Nat → List Value, ∀ i, i < ys.length → (∀ y, ys[i]? = some y → (A.al w1 G).rd w (X i) y) ∧ (X i).length = A.k ∧ ∀ j v, (X i)[j]? = some v → ∃ b o, a2 = some ⟨b, o, .none⟩ ∧ w.cell? ⟨b, o + i * A.k + j, .none⟩ = some v :=
    ⟨fun i => if h : i < ys.length then Classical.choose (hcells i h) else [], fun i hi => by simp only [dif_pos hi]; exact Classical.choose_spec (hcells i hi)⟩
  let cs2 := (List.range ys.length).map X
  have l2 : ∀ cs ∈ cs2, cs.length = A.k := fun cs hcs => by
    obtain ⟨i, hi, rfl⟩ := List.mem_map.1 hcs
    exact (hX i (List.mem_range.1 hi)).2.1
  have n2 : cs2.length = ys.length := by simp [cs2]
  have hcell : ∀ j v, cs2.flatten[j]? = some v → ∃ b o, a2 = some ⟨b, o, .none⟩ ∧ w.cell? ⟨b, o + j, .none⟩ = some v := by
    intro j v hj
    have inv : ∀ (L : List (List Value)), (∀ cs ∈ L, cs.length = A.k) → ∀ j v, L.flatten[j]? = some v → ∃ i r cs, L[i]? = some cs ∧ cs[r]? = some v ∧ j = i * A.k + r := by
      intro L
      induction L with
      | nil => intro _ j v h; simp at h
      | cons c0 r ih =>
        intro hl j v h
        rw [List.flatten_cons] at h
        rcases Nat.lt_or_ge j c0.length with hj | hj
        · rw [List.getElem?_append_left hj] at h
          exact ⟨0, j, c0, rfl, h, by omega⟩
        · rw [List.getElem?_append_right hj] at h
          obtain ⟨i, q, cs, h1, h2, h3⟩ := ih (fun cs hc => hl cs (by simp [hc])) _ v h
          refine ⟨i + 1, q, cs, by simpa using h1, h2, ?_⟩
          rw [hl c0 (by simp)] at h3 hj
          rw [Nat.succ_mul]; omega
    obtain ⟨i, r, cs, h1, h2, rfl⟩ := inv cs2 l2 j v hj
    have hi : i < ys.length := by rw [← n2]; exact (List.getElem?_eq_some_iff.1 h1).1
    have h3 : cs2[i]? = some (X i) := by simp [cs2, hi]
    rw [h3] at h1
    cases h1
    obtain ⟨b, o, e1, e2⟩ := (hX i hi).2.2 r v h2
    exact ⟨b, o, e1, by rw [← Nat.add_assoc]; exact e2⟩
  have hone : ∀ v ∈ cs2.flatten, v.oneCell' = true := fun v hv => by
    obtain ⟨cs, hcs, hv⟩ := List.mem_flatten.1 hv
    obtain ⟨i, hi, rfl⟩ := List.mem_map.1 hcs
    have hi' := List.mem_range.1 hi
    exact List.all_eq_true.1 ((A.al w1 G).one ((hX i hi').1 _ (List.getElem?_eq_getElem hi'))) v hv
  obtain ⟨i0, z0, hu0, _⟩ := makeInfo_open ht
  obtain ⟨v', w', F', hrun, hst, a', c', rfl, rfl⟩ := append_run (P := P) (A := F) (C := Chunk.inn (A.al w1 G) css fps xs :: C) (t := t) (tx := t) (e := A.T) (by_ := by_) (zs := zs) (m := xs.length) (m2 := ys.length) (xs := css.flatten) (news := cs2.flatten) (ty := ty) (pos := pos) (af := af) (g := g) (d := d) (u := .slice a2 ys.length c2) (c := c) (a := a)
    (K := fun v' F' => ∃ a' c', v' = .slice a' (xs.length + ys.length) c' ∧ F' = F ++ Chunk.row A.T zs.length a' (xs.length + ys.length) c' (css.flatten ++ cs2.flatten) :: Chunk.inn (A.al w1 G) css fps xs :: C) hx hy hty ht hg (by rw [hz]; exact hs1)
    (CellsAt.src hu0 hcell (by rw [flatten_len l2, n2, hz]) (by rw [hz]; exact A.pos) hone) hbb (by omega) (fun a' c' => ⟨a', c', rfl, rfl⟩)
  rw [hz] at hst
  have hin' : Inn (A.al w1 G) css fps xs w' := (hst.own (Chunk.inn (A.al w1 G) css fps xs) (by simp)).1
  have hrow := (hst.own (Chunk.row A.T A.k a' (xs.length + ys.length) c' (css.flatten ++ cs2.flatten)) (by simp)).1
  have e : css.flatten ++ cs2.flatten = (css ++ cs2).flatten := by rw [List.flatten_append]
  have hin2 : Inn (A.al w1 G) cs2 (ys.map fun _ => []) ys w' := ⟨n2, by simp, fun i y hy => by
    have hi : i < ys.length := (List.getElem?_eq_some_iff.1 hy).1
    exact ⟨X i, [], by simp [cs2, hi], by simp [hy], rfl, (hX i hi).1 y hy⟩⟩
  have hj := St.join (F := F) (G := [Chunk.row A.T A.k a' (xs.length + ys.length) c' (css.flatten ++ cs2.flatten), Chunk.inn (A.al w1 G) css fps xs]) (Chunk.own (A.al w1 G) (blk a' ++ (fps ++ ys.map fun _ => []).flatten) a' (xs ++ ys).length c' (xs ++ ys)) hst
    ⟨rfl, css ++ cs2, fps ++ ys.map fun _ => [], rfl, by rw [List.length_append, ← e]; exact hrow, hin'.append hin2⟩ (by rw [List.flatten_append, flatten_nils]; simp [Chunk.own, Chunk.row, Chunk.inn, Chunk.fp])
  refine ⟨_, w', _, hrun, hj, ?_⟩
  have := hk (blk a' ++ (fps ++ ys.map fun _ => []).flatten) a' c'
  rw [List.length_append] at this ⊢
  exact this
end
end K
end Go.Proofs.YtmhalmnbgkpmnaaGreat
