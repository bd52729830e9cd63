/- How data lies in memory: what is read there, and what is the call's own; the rules by which the printed walks go. -/
import Derived.Test.YtmhalmnbgkpmnaaGreatPure
namespace Go.Proofs.YtmhalmnbgkpmnaaGreat
open Go.RowKit
namespace K

structure Ty (α : Type) where
  T : TypeId
  k : Nat
  rd : World → List Value → α → Prop
  ow : List Nat → World → List Value → α → Prop
  pos : 0 < k
  len : ∀ {w cs x}, rd w cs x → cs.length = k
  ext : ∀ {w w' cs x}, Ext w w' → rd w cs x → rd w' cs x
  one : ∀ {w cs x}, rd w cs x → cs.all Value.oneCell' = true
  ro : ∀ {fp w cs x}, ow fp w cs x → rd w cs x
  sup : ∀ {fp w w' cs x}, (∀ b ∈ fp, w'.heap[b]? = w.heap[b]?) → ow fp w cs x → ow fp w' cs x
  bd : ∀ {fp w cs x}, ow fp w cs x → ∀ b ∈ fp, b < w.heap.size

def Rd {α : Type} (A : Ty α) (w : World) (a : Option Addr) (n c : Nat) (xs : List α) : Prop :=
  n = xs.length ∧ (xs.length ≤ c ∧ c ≤ 9223372036854775807) ∧ ∀ (i : Nat) (x : α), xs[i]? = some x → ∃ b o cs, a = some ⟨b, o, .none⟩ ∧ A.rd w cs x ∧ ∀ j v, cs[j]? = some v → w.cell? ⟨b, o + i * A.k + j, .none⟩ = some v
theorem Rd.ext {α : Type} {A : Ty α} {w w' : World} {a : Option Addr} {n c : Nat} {xs : List α} (h : Rd A w a n c xs) (k : Ext w w') : Rd A w' a n c xs :=
  ⟨h.1, h.2.1, fun i x hx => let ⟨b, o, cs, e, hr, hc⟩ := h.2.2 i x hx; ⟨b, o, cs, e, A.ext k hr, fun j v hj => k.cell (hc j v hj)⟩⟩
theorem Rd.nil {α : Type} {A : Ty α} (w : World) : Rd A w .none 0 0 [] := ⟨rfl, ⟨by simp, by omega⟩, fun i x h => by simp at h⟩
theorem Rd.atIdx {α : Type} {A : Ty α} {w : World} {a : Option Addr} {n c : Nat} {xs : List α} (h : Rd A w a n c xs) {i : Int} {x : α} (hx : idx xs i = some x) :
    ∃ b o cs, a = some ⟨b, o, .none⟩ ∧ A.rd w cs x ∧ ∀ j v, cs[j]? = some v → w.cell? ⟨b, o + i.toNat * A.k + j, .none⟩ = some v := h.2.2 _ _ (idx_some hx).2.2

def Inn {α : Type} (A : Ty α) (css : List (List Value)) (fps : List (List Nat)) (xs : List α) (w : World) : Prop :=
  css.length = xs.length ∧ fps.length = xs.length ∧ ∀ (i : Nat) (x : α), xs[i]? = some x → ∃ cs f, css[i]? = some cs ∧ fps[i]? = some f ∧ A.ow f w cs x
theorem Inn.sup {α : Type} {A : Ty α} {css : List (List Value)} {fps : List (List Nat)} {xs : List α} (w w' : World) (h : ∀ b ∈ fps.flatten, w'.heap[b]? = w.heap[b]?) (hA : Inn A css fps xs w) : Inn A css fps xs w' :=
  ⟨hA.1, hA.2.1, fun i x hx => let ⟨cs, f, h1, h2, h3⟩ := hA.2.2 i x hx; ⟨cs, f, h1, h2, A.sup (fun b hb => h b (List.mem_flatten.2 ⟨f, List.mem_of_getElem? h2, hb⟩)) h3⟩⟩
theorem Inn.bd {α : Type} {A : Ty α} {css : List (List Value)} {fps : List (List Nat)} {xs : List α} (w : World) (hA : Inn A css fps xs w) : ∀ b ∈ fps.flatten, b < w.heap.size := fun b hb => by
  obtain ⟨f, hf, hbf⟩ := List.mem_flatten.1 hb
  obtain ⟨i, hi⟩ := List.mem_iff_getElem?.1 hf
  have hlt : i < xs.length := by rw [← hA.2.1]; exact (List.getElem?_eq_some_iff.1 hi).1
  obtain ⟨cs, f', _, h2, h3⟩ := hA.2.2 i xs[i] (List.getElem?_eq_getElem hlt)
  rw [hi] at h2
  cases h2
  exact A.bd h3 b hbf
theorem Inn.len {α : Type} {A : Ty α} {css : List (List Value)} {fps : List (List Nat)} {xs : List α} {w : World} (hA : Inn A css fps xs w) : ∀ cs ∈ css, cs.length = A.k := fun cs hcs => by
  obtain ⟨i, hi⟩ := List.mem_iff_getElem?.1 hcs
  have hlt : i < xs.length := by rw [← hA.1]; exact (List.getElem?_eq_some_iff.1 hi).1
  obtain ⟨cs', f', h1, _, h3⟩ := hA.2.2 i xs[i] (List.getElem?_eq_getElem hlt)
  rw [hi] at h1
  cases h1
  exact A.len (A.ro h3)
theorem flatten_len {k : Nat} : ∀ {css : List (List Value)}, (∀ cs ∈ css, cs.length = k) → css.flatten.length = css.length * k
  | [], _ => by simp
  | c :: r, h => by
    rw [List.flatten_cons, List.length_append, h c (by simp), flatten_len (fun cs hc => h cs (by simp [hc])), List.length_cons, Nat.succ_mul, Nat.add_comm]
theorem flatten_at {k : Nat} : ∀ {css : List (List Value)}, (∀ cs ∈ css, cs.length = k) → ∀ {i j : Nat} {cs : List Value} {v : Value}, css[i]? = some cs → cs[j]? = some v → css.flatten[i * k + j]? = some v
  | [], _, _, _, _, _, h, _ => by simp at h
  | c :: r, hk, 0, j, cs, v, h, hv => by
    obtain rfl : c = cs := by simpa using h
    rw [List.flatten_cons, Nat.zero_mul, Nat.zero_add, List.getElem?_append_left (List.getElem?_eq_some_iff.1 hv).1]; exact hv
  | c :: r, hk, i + 1, j, cs, v, h, hv => by
    have hc := hk c (by simp)
    rw [List.flatten_cons, List.getElem?_append_right (by rw [hc, Nat.succ_mul]; omega), hc]
    have e : (i + 1) * k + j - k = i * k + j := by rw [Nat.succ_mul]; omega
    rw [e]
    exact flatten_at (fun cs h => hk cs (by simp [h])) (by simpa using h) hv
def Chunk.inn {α : Type} (A : Ty α) (css : List (List Value)) (fps : List (List Nat)) (xs : List α) : Chunk := .any fps.flatten (Inn A css fps xs) Inn.sup Inn.bd
def Chunk.el {α : Type} (A : Ty α) (fp : List Nat) (cs : List Value) (x : α) : Chunk := .any fp (fun w => A.ow fp w cs x) (fun _ _ h hA => A.sup h hA) (fun _ hA => A.bd hA)

def Ow {α : Type} (A : Ty α) (fp : List Nat) (a : Option Addr) (n c : Nat) (xs : List α) (w : World) : Prop :=
  n = xs.length ∧ ∃ css fps, fp = blk a ++ fps.flatten ∧ RowA A.T A.k a xs.length c css.flatten w ∧ Inn A css fps xs w
theorem Ow.sup {α : Type} {A : Ty α} {fp : List Nat} {a : Option Addr} {n c : Nat} {xs : List α} (w w' : World) (h : ∀ b ∈ fp, w'.heap[b]? = w.heap[b]?) (hA : Ow A fp a n c xs w) : Ow A fp a n c xs w' := by
  obtain ⟨hn, css, fps, rfl, h1, h2⟩ := hA
  exact ⟨hn, css, fps, rfl, RowA.sup w w' (fun b hb => h b (by simp [hb])) h1, Inn.sup w w' (fun b hb => h b (by rw [List.mem_append]; exact .inr hb)) h2⟩
theorem Ow.bd {α : Type} {A : Ty α} {fp : List Nat} {a : Option Addr} {n c : Nat} {xs : List α} (w : World) (hA : Ow A fp a n c xs w) : ∀ b ∈ fp, b < w.heap.size := by
  obtain ⟨_, css, fps, rfl, h1, h2⟩ := hA
  intro b hb
  rcases List.mem_append.1 hb with hb | hb
  · exact RowA.bd w h1 b hb
  · exact Inn.bd w h2 b hb
def Chunk.own {α : Type} (A : Ty α) (fp : List Nat) (a : Option Addr) (n c : Nat) (xs : List α) : Chunk := .any fp (Ow A fp a n c xs) Ow.sup Ow.bd

theorem Ow.addr {α : Type} {A : Ty α} {fp : List Nat} {a : Option Addr} {n c : Nat} {xs : List α} {w : World} (h : Ow A fp a n c xs w) (hp : 0 < xs.length) : ∃ g o, a = some ⟨g, o, .none⟩ := by
  obtain ⟨_, css, fps, rfl, h1, h2⟩ := h
  exact h1.addr hp
theorem Ow.cap {α : Type} {A : Ty α} {fp : List Nat} {a : Option Addr} {n c : Nat} {xs : List α} {w : World} (h : Ow A fp a n c xs w) : xs.length ≤ c ∧ c ≤ 9223372036854775807 := by
  obtain ⟨_, css, fps, rfl, h1, h2⟩ := h
  rcases h1.2 with ⟨_, h0, rfl⟩ | ⟨g, pre, sp, post, _, _, h3, h4, _⟩
  · omega
  · unfold maxLen at h4; omega
theorem Ow.rd {α : Type} {A : Ty α} {fp : List Nat} {a : Option Addr} {n c : Nat} {xs : List α} {w : World} (h : Ow A fp a n c xs w) : Rd A w a n c xs := by
  refine ⟨h.1, h.cap, fun i x hx => ?_⟩
  obtain ⟨_, css, fps, rfl, h1, h2⟩ := h
  obtain ⟨cs, f, h3, h4, h5⟩ := h2.2.2 i x hx
  have hlt := (List.getElem?_eq_some_iff.1 hx).1
  obtain ⟨g, o, rfl⟩ := h1.addr (by omega)
  refine ⟨g, o, cs, rfl, A.ro h5, fun j v hj => ?_⟩
  obtain ⟨g', o', e, hc⟩ := h1.cell (flatten_at h2.len h3 hj)
  simp only [Option.some.injEq, Addr.mk.injEq, and_true] at e
  obtain ⟨rfl, rfl⟩ := e
  rw [Nat.add_assoc]; exact hc

theorem Ow.nil {α : Type} {A : Ty α} (w : World) : Ow A [] .none 0 0 [] w := ⟨rfl, [], [], rfl, ⟨by simp, .inl ⟨rfl, rfl, rfl⟩⟩, ⟨rfl, rfl, fun i x h => by simp at h⟩⟩
theorem St.split {w0 w : World} {F C : List Chunk} {c : Chunk} {G : List Chunk} (h : St w0 (F ++ c :: C) w) (hA : ∀ d ∈ G, d.A w) (hfp : c.fp = G.flatMap Chunk.fp) : St w0 (F ++ (G ++ C)) w := by
  refine ⟨h.below, fun d hd => ?_, ?_⟩
  · rcases List.mem_append.1 hd with hd | hd
    · exact h.own d (by simp [hd])
    · rcases List.mem_append.1 hd with hd | hd
      · exact ⟨hA d hd, fun b hb => (h.own c (by simp)).2 b (by rw [hfp]; exact List.mem_flatMap.2 ⟨d, hd, hb⟩)⟩
      · exact h.own d (by simp [hd])
  · have := h.nodup
    rw [List.flatMap_append, List.flatMap_cons, hfp] at this
    rw [List.flatMap_append, List.flatMap_append]; exact this
theorem St.join {w0 w : World} {F C G : List Chunk} (c : Chunk) (h : St w0 (F ++ (G ++ C)) w) (hA : c.A w) (hfp : c.fp = G.flatMap Chunk.fp) : St w0 (F ++ c :: C) w := by
  refine ⟨h.below, fun d hd => ?_, ?_⟩
  · rcases List.mem_append.1 hd with hd | hd
    · exact h.own d (by simp [hd])
    · rcases List.mem_cons.1 hd with rfl | hd
      · refine ⟨hA, fun b hb => ?_⟩
        rw [hfp] at hb
        obtain ⟨d, hd, hbd⟩ := List.mem_flatMap.1 hb
        exact (h.own d (by simp [hd])).2 b hbd
      · exact h.own d (by simp [hd])
  · have := h.nodup
    rw [List.flatMap_append, List.flatMap_append] at this
    rw [List.flatMap_append, List.flatMap_cons, hfp]; exact this

section
variable {α : Type} {A : Ty α} {w0 w : World} {F C : List Chunk} {fp : List Nat} {a : Option Addr} {m c : Nat} {xs : List α} {css : List (List Value)} {fps : List (List Nat)}
theorem St.ownOpen (h : St w0 (F ++ Chunk.own A fp a m c xs :: C) w) : m = xs.length ∧ ∃ css fps, fp = blk a ++ fps.flatten ∧ St w0 (F ++ Chunk.row A.T A.k a xs.length c css.flatten :: Chunk.inn A css fps xs :: C) w := by
  obtain ⟨hn, css, fps, e, h1, h2⟩ := (h.own (Chunk.own A fp a m c xs) (by simp)).1
  subst e
  refine ⟨hn, css, fps, rfl, St.split (G := [Chunk.row A.T A.k a xs.length c css.flatten, Chunk.inn A css fps xs]) h (fun d hd => ?_) (by simp [Chunk.own, Chunk.row, Chunk.inn, Chunk.fp])⟩
  rcases List.mem_cons.1 hd with rfl | hd
  · exact h1
  · rcases List.mem_singleton.1 hd with rfl; exact h2
theorem St.ownClose (h : St w0 (F ++ Chunk.row A.T A.k a xs.length c css.flatten :: Chunk.inn A css fps xs :: C) w) : St w0 (F ++ Chunk.own A (blk a ++ fps.flatten) a xs.length c xs :: C) w := by
  refine St.join (G := [Chunk.row A.T A.k a xs.length c css.flatten, Chunk.inn A css fps xs]) _ h ⟨rfl, css, fps, rfl, ?_, ?_⟩ (by simp [Chunk.own, Chunk.row, Chunk.inn, Chunk.fp])
  · exact (h.own (Chunk.row A.T A.k a xs.length c css.flatten) (by simp)).1
  · exact (h.own (Chunk.inn A css fps xs) (by simp)).1
theorem St.ownNil (h : St w0 F w) : St w0 (Chunk.own A [] .none 0 0 [] :: F) w :=
  h.add (Ext.refl w) _ ⟨rfl, [], [], rfl, ⟨by simp, .inl ⟨rfl, rfl, rfl⟩⟩, ⟨rfl, rfl, fun i x h => by simp at h⟩⟩ (by simp [Chunk.own, Chunk.fp]) (by simp [Chunk.own, Chunk.fp])
theorem Inn.snoc {f : List Nat} {cs : List Value} {x : α} (h : Inn A css fps xs w) (hx : A.ow f w cs x) : Inn A (css ++ [cs]) (fps ++ [f]) (xs ++ [x]) w := by
  refine ⟨by simp [h.1], by simp [h.2.1], fun i y hy => ?_⟩
  rcases Nat.lt_or_ge i xs.length with hi | hi
  · rw [List.getElem?_append_left hi] at hy
    rw [List.getElem?_append_left (by rw [h.1]; exact hi), List.getElem?_append_left (by rw [h.2.1]; exact hi)]
    exact h.2.2 i y hy
  · rw [List.getElem?_append_right hi] at hy
    have h0 : i - xs.length = 0 := by
      have := (List.getElem?_eq_some_iff.1 hy).1
      simp at this; omega
    rw [h0] at hy
    obtain rfl : x = y := by simpa using hy
    have e : i = xs.length := by omega
    subst e
    refine ⟨cs, f, ?_, ?_, hx⟩
    · rw [List.getElem?_append_right (by rw [h.1]; exact Nat.le_refl _), h.1]; simp
    · rw [List.getElem?_append_right (by rw [h.2.1]; exact Nat.le_refl _), h.2.1]; simp
theorem Inn.set {f : List Nat} {cs : List Value} {x : α} {i : Nat} (h : Inn A css fps xs w) (hx : A.ow f w cs x) : Inn A (css.set i cs) (fps.set i f) (xs.set i x) w := by
  refine ⟨by simp [h.1], by simp [h.2.1], fun j y hy => ?_⟩
  have hj : j < xs.length := by simpa using (List.getElem?_eq_some_iff.1 hy).1
  rw [List.getElem?_set] at hy ⊢
  rw [List.getElem?_set]
  by_cases hij : i = j
  · subst hij
    simp only [if_true] at hy ⊢
    rw [if_pos hj] at hy
    rw [if_pos (by rw [h.1]; exact hj), if_pos (by rw [h.2.1]; exact hj)]
    cases hy
    exact ⟨cs, f, rfl, rfl, hx⟩
  · rw [if_neg hij] at hy ⊢
    rw [if_neg hij]
    exact h.2.2 j y hy
end

theorem flatten_set {k : Nat} : ∀ {css : List (List Value)}, (∀ cs ∈ css, cs.length = k) → ∀ {i : Nat} {cs : List Value}, cs.length = k → i < css.length → lset css.flatten (i * k) cs = (css.set i cs).flatten
  | [], _, i, _, _, h => by simp at h
  | c :: r, hk, 0, cs, hcs, _ => by
    have := lset_mid cs [] c r.flatten (by rw [hcs, hk c (by simp)])
    simpa using this
  | c :: r, hk, i + 1, cs, hcs, h => by
    have hc := hk c (by simp)
    have ih := flatten_set (css := r) (fun d hd => hk d (by simp [hd])) (i := i) hcs (by simpa using h)
    rw [List.flatten_cons, List.set_cons_succ, List.flatten_cons, ← ih]
    have e : (i + 1) * k = c.length + i * k := by rw [hc, Nat.succ_mul, Nat.add_comm]
    rw [e]
    generalize i * k = m
    clear ih h e hc hcs hk
    induction cs generalizing m r with
    | nil => rfl
    | cons v vs ih' =>
      show lset ((c ++ r.flatten).set (c.length + m) v) (c.length + m + 1) vs = c ++ lset (r.flatten.set m v) (m + 1) vs
      rw [List.set_append_right _ _ (by omega), show c.length + m - c.length = m by omega]
      have key : ∀ (l : List Value) (m : Nat), lset (c ++ l) (c.length + m) vs = c ++ lset l m vs := by
        clear ih'
        induction vs with
        | nil => intro l m; rfl
        | cons u us ih2 =>
          intro l m
          show lset ((c ++ l).set (c.length + m) u) (c.length + m + 1) us = c ++ lset (l.set m u) (m + 1) us
          rw [List.set_append_right _ _ (by omega), show c.length + m - c.length = m by omega]
          exact ih2 _ (m + 1)
      exact key _ (m + 1)

section
variable {P : Program} {n : Nat} {w0 : World} {E : Env} {d : Option Tmp} {ty : TypeId} {pos : String} {af : Array Edge} {g : Option (Nat × Bool)} {K : Value → List Chunk → Prop} {α : Type} {A : Ty α}
theorem OpH.push {C : List Chunk} {t by_ c b f2 m : Nat} {zs cs : List Value} {x y : Operand} {tys : Array TypeId} {a : Option Addr} {fp f : List Nat} {xs ys : List α} {v : α} (hx : ev E x = some (.slice a m c)) (hy : ev E y = some (.slice (some ⟨b, 0, .none⟩) 1 f2)) (hty : tys = #[t, t])
    (ht : makeInfo P t = some (A.T, by_, zs)) (hz : zs.length = A.k) (hb : by_ ≤ 65536) (hm : Chunk.box b A.T cs ∈ C) (hp : app xs [v] = some ys)
    (hk : ∀ fp' a' c', K (.slice a' ys.length c') (Chunk.own A fp' a' ys.length c' ys :: C)) :
    OpH P w0 (Chunk.el A f cs v :: Chunk.own A fp a m c xs :: C) E ⟨d, .call ⟨.builtin .append, #[x, y], tys⟩, ty, pos, af, g⟩ K := fun ac w hg hs K' Q' hK => by
  obtain ⟨hlen, rfl⟩ := app_some hp
  have hel : A.ow f w cs v := (hs.own (Chunk.el A f cs v) (by simp)).1
  obtain ⟨rfl, css, fps, _, hs1⟩ := St.ownOpen (F := [Chunk.el A f cs v]) hs
  have hcs := A.len (A.ro hel)
  have hin : Inn A css fps xs w := (hs1.own (Chunk.inn A css fps xs) (by simp)).1
  simp only [List.length_cons, List.length_nil] at hlen
  have hbb : (xs.length + 1) * by_ ≤ 140737488355328 := Nat.le_trans (Nat.mul_le_mul hlen hb) (by decide)
  refine OpH.append (A := [Chunk.el A f cs v]) (C := Chunk.inn A css fps xs :: C) (t := t) (e := A.T) (by_ := by_) (zs := zs) (m := xs.length) (m2 := 1) (xs := css.flatten) (news := cs)
    (K := fun v' F' => ∃ a' c', v' = .slice a' (xs.length + 1) c' ∧ F' = Chunk.el A f cs v :: Chunk.row A.T zs.length a' (xs.length + 1) c' (css.flatten ++ cs) :: Chunk.inn A css fps xs :: C) hx hy hty ht (by rw [hz]; exact A.pos) (by rw [hcs, hz, Nat.one_mul]) (fun u hu => List.all_eq_true.1 (A.one (A.ro hel)) u hu)
    (fun w' hs' => CellsAt.box (hs'.own (Chunk.box b A.T cs) (by simp [hm])).1) hbb (by omega) (fun a' c' => ⟨a', c', rfl, rfl⟩) ac w hg (by rw [hz]; exact hs1) K' Q' ?_
  rintro v' F' w' ⟨a', c', rfl, rfl⟩ hst
  have hel' : A.ow f w' cs v := (hst.own (Chunk.el A f cs v) (by simp)).1
  have hin' : Inn A css fps xs w' := (hst.own (Chunk.inn A css fps xs) (by simp)).1
  rw [hz] at hst
  have hrow := (hst.own (Chunk.row A.T A.k a' (xs.length + 1) c' (css.flatten ++ cs)) (by simp)).1
  have hperm : St w0 ([] ++ ([Chunk.row A.T A.k a' (xs.length + 1) c' (css.flatten ++ cs), Chunk.inn A css fps xs, Chunk.el A f cs v] ++ C)) w' := hst.perm (by
    refine List.Perm.trans (List.perm_middle (l₁ := [Chunk.row A.T A.k a' (xs.length + 1) c' (css.flatten ++ cs), Chunk.inn A css fps xs])).symm ?_
    exact List.Perm.refl _)
  have e : css.flatten ++ cs = (css ++ [cs]).flatten := by simp
  have hj := St.join (F := []) (Chunk.own A (blk a' ++ (fps ++ [f]).flatten) a' (xs ++ [v]).length c' (xs ++ [v])) hperm ⟨rfl, css ++ [cs], fps ++ [f], rfl, by rw [List.length_append, ← e]; exact hrow, hin'.snoc hel'⟩ (by simp [Chunk.own, Chunk.row, Chunk.inn, Chunk.el, Chunk.fp])
  refine hK _ _ w' ?_ hj
  have := hk (blk a' ++ (fps ++ [f]).flatten) a' c'
  simpa using this
end
end K
end Go.Proofs.YtmhalmnbgkpmnaaGreat
