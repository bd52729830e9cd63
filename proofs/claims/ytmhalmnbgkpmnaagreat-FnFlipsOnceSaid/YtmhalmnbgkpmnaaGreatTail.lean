/- Own slices that are moved: their tails, the elements of one into another, elements taken out one after another. -/
import Derived.Test.YtmhalmnbgkpmnaaGreatOwn
namespace Go.Proofs.YtmhalmnbgkpmnaaGreat
open Go.RowKit
namespace K

theorem flatten_sub : ∀ {l1 l2 : List (List Nat)}, l1.Sublist l2 → l1.flatten.Sublist l2.flatten
  | _, _, .slnil => List.Sublist.refl _
  | _, _, .cons x h => by rw [List.flatten_cons]; exact (flatten_sub h).trans (List.sublist_append_right _ _)
  | _, _, .cons_cons x h => by rw [List.flatten_cons, List.flatten_cons]; exact List.Sublist.append (List.Sublist.refl _) (flatten_sub h)
theorem St.swapS {w0 w : World} {F C G G' : List Chunk} (h : St w0 (F ++ (G ++ C)) w) (hA : ∀ d ∈ G', d.A w) (hs : (G'.flatMap Chunk.fp).Sublist (G.flatMap Chunk.fp)) : St w0 (F ++ (G' ++ C)) w := by
  refine ⟨h.below, fun d hd => ?_, ?_⟩
  · rcases List.mem_append.1 hd with hd | hd
    · exact h.own d (by simp [hd])
    · rcases List.mem_append.1 hd with hd | hd
      · refine ⟨hA d hd, fun b hb => ?_⟩
        obtain ⟨e, he, hbe⟩ := List.mem_flatMap.1 (hs.subset (List.mem_flatMap.2 ⟨d, hd, hb⟩))
        exact (h.own e (by simp [he])).2 b hbe
      · exact h.own d (by simp [hd])
  · refine List.Sublist.nodup ?_ h.nodup
    rw [List.flatMap_append, List.flatMap_append, List.flatMap_append, List.flatMap_append]
    exact List.Sublist.append (List.Sublist.refl _) (List.Sublist.append hs (List.Sublist.refl _))
section
variable {α : Type} {A : Ty α} {w0 w : World} {F C : List Chunk} {fp : List Nat} {a : Option Addr} {m c : Nat} {xs ys : List α} {css : List (List Value)} {fps : List (List Nat)}
theorem blk_sub (a : Option Addr) (c l s : Nat) : blk (subA a c l s) = blk a := by
  unfold subA
  split
  · rfl
  · cases a with
    | none => rfl
    | some p => simp [blk, Addr.add]; split <;> rfl
theorem RowA.tail {l : Nat} (hk : ∀ cs ∈ css, cs.length = A.k) (hc : css.length = m) (hl : l ≤ m) (h : RowA A.T A.k a m c css.flatten w) : RowA A.T A.k (subA a c l A.k) (m - l) (c - l) (css.drop l).flatten w := by
  have hd : (css.drop l).flatten.length = (m - l) * A.k := by rw [flatten_len (fun cs h => hk cs (List.mem_of_mem_drop h)), List.length_drop, hc]
  have ht : (css.take l).flatten.length = l * A.k := by rw [flatten_len (fun cs h => hk cs (List.mem_of_mem_take h)), List.length_take, hc, Nat.min_eq_left hl]
  have hf : css.flatten = (css.take l).flatten ++ (css.drop l).flatten := by rw [← List.flatten_append, List.take_append_drop]
  refine ⟨hd, ?_⟩
  rcases h.2 with ⟨rfl, h1, h2⟩ | ⟨g, pre, sp, post, rfl, h2, h3, h4, h5⟩
  · left
    have : l = 0 := by omega
    subst this
    unfold subA
    split <;> simp <;> omega
  · right
    unfold subA
    split
    · rename_i hcl
      have e : (css.drop l).flatten = [] := List.eq_nil_of_length_eq_zero (by rw [hd, show m - l = 0 by omega, Nat.zero_mul])
      rw [e]
      exact ⟨g, pre, [], css.flatten ++ (sp ++ post), rfl, by rw [show c - l = 0 by omega]; simp, by omega, by omega, h5⟩
    · refine ⟨g, pre ++ (css.take l).flatten, sp, post, by simp [Addr.add, ht], ?_, by omega, by omega, ?_⟩
      · rw [hf, List.length_append, List.length_append, ht, hd] at h2
        rw [List.length_append, hd, Nat.sub_mul, Nat.sub_mul]
        rw [Nat.sub_mul] at h2
        have : l * A.k ≤ m * A.k := Nat.mul_le_mul_right _ hl
        omega
      · rw [h5, hf]; simp
theorem St.ownTail {lo : Int} (hs : subO xs lo xs.length = some ys) (h : St w0 (F ++ Chunk.own A fp a m c xs :: C) w) : ∃ fp', True ∧ St w0 (F ++ Chunk.own A fp' (subA a c lo.toNat A.k) ys.length (c - lo.toNat) ys :: C) w := by
  obtain ⟨⟨h0, h1, _⟩, rfl⟩ := subO_some hs
  obtain ⟨rfl, css, fps, hfp, hrow, hin⟩ := (h.own (Chunk.own A fp a m c xs) (by simp)).1
  have e : (xs.take ((xs.length : Int)).toNat).drop lo.toNat = xs.drop lo.toNat := by simp
  rw [e]
  have hl : (xs.drop lo.toNat).length = xs.length - lo.toNat := List.length_drop
  refine ⟨blk (subA a c lo.toNat A.k) ++ (fps.drop lo.toNat).flatten, trivial, ?_⟩
  refine St.swapS (F := F) (G := [Chunk.own A fp a xs.length c xs]) (G' := [Chunk.own A (blk (subA a c lo.toNat A.k) ++ (fps.drop lo.toNat).flatten) (subA a c lo.toNat A.k) (xs.drop lo.toNat).length (c - lo.toNat) (xs.drop lo.toNat)]) h (fun d hd => ?_) ?_
  · rw [List.mem_singleton.1 hd]
    refine ⟨rfl, css.drop lo.toNat, fps.drop lo.toNat, rfl, ?_, by rw [List.length_drop, hin.1, hl], by rw [List.length_drop, hin.2.1, hl], fun i x hx => ?_⟩
    · rw [hl]; exact hrow.tail hin.len hin.1 (by omega)
    · rw [List.getElem?_drop] at hx
      obtain ⟨cs, f, h1, h2, h3⟩ := hin.2.2 _ x hx
      exact ⟨cs, f, by rw [List.getElem?_drop]; exact h1, by rw [List.getElem?_drop]; exact h2, h3⟩
  · simp only [List.flatMap_cons, List.flatMap_nil, List.append_nil]
    rw [show (Chunk.own A fp a xs.length c xs).fp = fp from rfl, hfp]
    show (blk (subA a c lo.toNat A.k) ++ (fps.drop lo.toNat).flatten).Sublist _
    rw [blk_sub]
    exact List.Sublist.append (List.Sublist.refl _) (flatten_sub (List.drop_sublist _ _))
theorem St.ownTailX {lo i : Int} (hk : ∀ cs ∈ css, cs.length = A.k) (hi : i.toNat < lo.toNat) (hs : subO xs lo xs.length = some ys) (h : St w0 (F ++ ([Chunk.row A.T A.k a xs.length c css.flatten, Chunk.inX A css fps xs i.toNat] ++ C)) w) : ∃ fp', True ∧ St w0 (F ++ Chunk.own A fp' (subA a c lo.toNat A.k) ys.length (c - lo.toNat) ys :: C) w := by
  obtain ⟨⟨h0, h1, _⟩, rfl⟩ := subO_some hs
  have hrow : RowA A.T A.k a xs.length c css.flatten w := (h.own (Chunk.row A.T A.k a xs.length c css.flatten) (by simp)).1
  have hin : InX A css fps xs i.toNat w := (h.own (Chunk.inX A css fps xs i.toNat) (by simp)).1
  have e : (xs.take ((xs.length : Int)).toNat).drop lo.toNat = xs.drop lo.toNat := by simp
  rw [e]
  have hl : (xs.drop lo.toNat).length = xs.length - lo.toNat := List.length_drop
  refine ⟨blk (subA a c lo.toNat A.k) ++ (fps.drop lo.toNat).flatten, trivial, ?_⟩
  refine St.swapS (F := F) (G' := [Chunk.own A (blk (subA a c lo.toNat A.k) ++ (fps.drop lo.toNat).flatten) (subA a c lo.toNat A.k) (xs.drop lo.toNat).length (c - lo.toNat) (xs.drop lo.toNat)]) h (fun d hd => ?_) ?_
  · rw [List.mem_singleton.1 hd]
    refine ⟨rfl, css.drop lo.toNat, fps.drop lo.toNat, rfl, ?_, by rw [List.length_drop, hin.1, hl], by rw [List.length_drop, hin.2.1, hl], fun j x hx => ?_⟩
    · rw [hl]; exact hrow.tail hk hin.1 (by omega)
    · rw [List.getElem?_drop] at hx
      obtain ⟨cs, f, h1, h2, h3⟩ := hin.2.2 _ x (by omega) hx
      exact ⟨cs, f, by rw [List.getElem?_drop]; exact h1, by rw [List.getElem?_drop]; exact h2, h3⟩
  · simp only [List.flatMap_cons, List.flatMap_nil, List.append_nil]
    show (blk (subA a c lo.toNat A.k) ++ (fps.drop lo.toNat).flatten).Sublist (blk a ++ (fps.set i.toNat []).flatten)
    rw [blk_sub]
    refine List.Sublist.append (List.Sublist.refl _) ?_
    rw [show fps.drop lo.toNat = (fps.set i.toNat []).drop lo.toNat by rw [List.drop_set_of_lt hi]]
    exact flatten_sub (List.drop_sublist _ _)

theorem upd_same {α : Type} {xs : List α} {i : Int} {x : α} (h : idx xs i = some x) : upd xs i x = some xs := by
  obtain ⟨h0, h1, h2⟩ := idx_some h
  rw [upd, if_pos ⟨h0, h1⟩]
  congr 1
  obtain ⟨h3, rfl⟩ := List.getElem?_eq_some_iff.1 h2
  exact List.set_getElem_self h3
def InS (A : Ty α) (css : List (List Value)) (fps : List (List Nat)) (xs : List α) (i : Nat) (w : World) : Prop :=
  css.length = xs.length ∧ fps.length = xs.length ∧ ∀ (j : Nat) (x : α), i ≤ j → xs[j]? = some x → ∃ cs f, css[j]? = some cs ∧ fps[j]? = some f ∧ A.ow f w cs x
theorem InS.mem {i j : Nat} {f : List Nat} (hij : i ≤ j) (h : fps[j]? = some f) : ∀ b ∈ f, b ∈ (fps.drop i).flatten := fun b hb =>
  List.mem_flatten.2 ⟨f, List.mem_of_getElem? (i := j - i) (by rw [List.getElem?_drop, show i + (j - i) = j by omega]; exact h), hb⟩
theorem InS.sup {i : Nat} (w w' : World) (h : ∀ b ∈ (fps.drop i).flatten, w'.heap[b]? = w.heap[b]?) (hA : InS A css fps xs i w) : InS A css fps xs i w' :=
  ⟨hA.1, hA.2.1, fun j x hj hx => let ⟨cs, f, h1, h2, h3⟩ := hA.2.2 j x hj hx; ⟨cs, f, h1, h2, A.sup (fun b hb => h b (InS.mem hj h2 b hb)) h3⟩⟩
theorem InS.bd {i : Nat} (w : World) (hA : InS A css fps xs i w) : ∀ b ∈ (fps.drop i).flatten, b < w.heap.size := fun b hb => by
  obtain ⟨f, hf, hbf⟩ := List.mem_flatten.1 hb
  obtain ⟨j, hj⟩ := List.mem_iff_getElem?.1 hf
  rw [List.getElem?_drop] at hj
  have hlt : i + j < xs.length := by rw [← hA.2.1]; exact (List.getElem?_eq_some_iff.1 hj).1
  obtain ⟨cs, f', _, h2, h3⟩ := hA.2.2 (i + j) xs[i + j] (by omega) (List.getElem?_eq_getElem hlt)
  rw [hj] at h2
  cases h2
  exact A.bd h3 b hbf
def Chunk.inS (A : Ty α) (css : List (List Value)) (fps : List (List Nat)) (xs : List α) (i : Nat) : Chunk := .any (fps.drop i).flatten (InS A css fps xs i) InS.sup InS.bd
def OwS (A : Ty α) (i : Nat) (fp : List Nat) (a : Option Addr) (n c : Nat) (xs : List α) (w : World) : Prop :=
  n = xs.length ∧ ∃ css fps, fp = blk a ++ (fps.drop i).flatten ∧ RowA A.T A.k a xs.length c css.flatten w ∧ (∀ cs ∈ css, cs.length = A.k) ∧ InS A css fps xs i w
theorem OwS.sup {i n : Nat} (w w' : World) (h : ∀ b ∈ fp, w'.heap[b]? = w.heap[b]?) (hA : OwS A i fp a n c xs w) : OwS A i fp a n c xs w' := by
  obtain ⟨hn, css, fps, rfl, h1, h2, h3⟩ := hA
  exact ⟨hn, css, fps, rfl, RowA.sup w w' (fun b hb => h b (by simp [hb])) h1, h2, InS.sup w w' (fun b hb => h b (by rw [List.mem_append]; exact .inr hb)) h3⟩
theorem OwS.bd {i n : Nat} (w : World) (hA : OwS A i fp a n c xs w) : ∀ b ∈ fp, b < w.heap.size := by
  obtain ⟨_, css, fps, rfl, h1, _, h2⟩ := hA
  intro b hb
  rcases List.mem_append.1 hb with hb | hb
  · exact RowA.bd w h1 b hb
  · exact InS.bd w h2 b hb
def Chunk.ownS (A : Ty α) (i : Nat) (fp : List Nat) (a : Option Addr) (n c : Nat) (xs : List α) : Chunk := .any fp (OwS A i fp a n c xs) OwS.sup OwS.bd
theorem St.toS (h : St w0 (F ++ Chunk.own A fp a m c xs :: C) w) : St w0 (F ++ Chunk.ownS A (Int.toNat 0) fp a m c xs :: C) w := by
  refine St.swapS (F := F) (G := [Chunk.own A fp a m c xs]) (G' := [Chunk.ownS A (Int.toNat 0) fp a m c xs]) h (fun d hd => ?_) (List.Sublist.refl _)
  rw [List.mem_singleton.1 hd]
  obtain ⟨hn, css, fps, hfp, hrow, hin⟩ := (h.own (Chunk.own A fp a m c xs) (by simp)).1
  exact ⟨hn, css, fps, hfp, hrow, hin.len, hin.1, hin.2.1, fun j x _ hx => hin.2.2 j x hx⟩
theorem ownLenS {i : Nat} (hin : ∃ w, St w0 F w) (hm : Chunk.ownS A i fp a m c xs ∈ F) : m = xs.length := by
  obtain ⟨w, hs⟩ := hin
  exact (hs.mem hm : OwS A i fp a m c xs w).1
theorem ownAddrS {i : Nat} {j : Int} {x : α} (hin : ∃ w, St w0 F w) (hm : Chunk.ownS A i fp a m c xs ∈ F) (hx : idx xs j = some x) : ∃ g o, a = some ⟨g, o, .none⟩ := by
  obtain ⟨w, hs⟩ := hin
  obtain ⟨h0, h1, _⟩ := idx_some hx
  obtain ⟨_, css, fps, _, hrow, _⟩ := (hs.mem hm : OwS A i fp a m c xs w)
  exact hrow.addr (by omega)
theorem St.takeS {i : Nat} {v : Int} {x : α} (hx : idx xs v = some x) (hi : i ≤ v.toNat) (h : St w0 (F ++ Chunk.ownS A i fp a m c xs :: C) w) :
    ∃ g : List (List Value) × List (List Nat) × List Value × List Nat, (g.1[v.toNat]? = some g.2.2.1 ∧ ∀ cs ∈ g.1, cs.length = A.k) ∧ St w0 (F ++ ([Chunk.el A g.2.2.2 g.2.2.1 x, Chunk.row A.T A.k a xs.length c g.1.flatten, Chunk.inS A g.1 g.2.1 xs (v.toNat + 1)] ++ C)) w := by
  obtain ⟨rfl, css, fps, hfp, hrow, hk, hin⟩ := (h.own (Chunk.ownS A i fp a m c xs) (by simp)).1
  obtain ⟨cs, f, h2, h3, h4⟩ := hin.2.2 _ x hi (idx_some hx).2.2
  refine ⟨(css, fps, cs, f), ⟨h2, hk⟩, ?_⟩
  have h5 := St.swapS (F := F) (G := [Chunk.ownS A i fp a xs.length c xs]) (G' := [Chunk.row A.T A.k a xs.length c css.flatten, Chunk.el A f cs x, Chunk.inS A css fps xs (v.toNat + 1)]) h (fun d hd => by
    simp only [List.mem_cons, List.not_mem_nil, or_false] at hd
    rcases hd with rfl | rfl | rfl
    · exact hrow
    · exact h4
    · exact ⟨hin.1, hin.2.1, fun j y hj hy => hin.2.2 j y (by omega) hy⟩) (by
    simp only [List.flatMap_cons, List.flatMap_nil, List.append_nil]
    rw [show (Chunk.ownS A i fp a xs.length c xs).fp = fp from rfl, hfp]
    show (blk a ++ (f ++ (fps.drop (v.toNat + 1)).flatten)).Sublist _
    refine List.Sublist.append (List.Sublist.refl _) ?_
    have hlt : v.toNat < fps.length := (List.getElem?_eq_some_iff.1 h3).1
    have e1 : fps[v.toNat] = f := (List.getElem?_eq_some_iff.1 h3).2
    have e : f ++ (fps.drop (v.toNat + 1)).flatten = (fps.drop v.toNat).flatten := by rw [List.drop_eq_getElem_cons hlt, List.flatten_cons, e1]
    rw [e]
    refine flatten_sub ?_
    rw [show v.toNat = i + (v.toNat - i) by omega, ← List.drop_drop]
    exact List.drop_sublist _ _)
  exact h5.perm (List.Perm.append_left _ (List.Perm.append_right _ (List.Perm.swap _ _ _)))
theorem St.backS {v : Int} {x : α} (hm : m = xs.length) (hx : idx xs v = some x) (hk : ∀ cs ∈ css, cs.length = A.k) (h : St w0 (F ++ ([Chunk.row A.T A.k a xs.length c css.flatten, Chunk.inS A css fps xs (v.toNat + 1)] ++ C)) w) : ∃ fp', True ∧ St w0 (F ++ Chunk.ownS A (wr (v + 1)).toNat fp' a m c xs :: C) w := by
  subst hm
  have hrow : RowA A.T A.k a xs.length c css.flatten w := (h.own (Chunk.row A.T A.k a xs.length c css.flatten) (by simp)).1
  have hin : InS A css fps xs (v.toNat + 1) w := (h.own (Chunk.inS A css fps xs (v.toNat + 1)) (by simp)).1
  obtain ⟨h0, h1, _⟩ := idx_some hx
  have hc : xs.length ≤ 9223372036854775807 := by
    rcases hrow.2 with ⟨_, h2, _⟩ | ⟨g, pre, sp, post, _, _, h2, h3, _⟩
    · omega
    · unfold maxLen at h3; omega
  have e : (wr (v + 1)).toNat = v.toNat + 1 := by rw [wr_in (by omega) (by omega)]; omega
  rw [e]
  exact ⟨_, trivial, St.swapS (F := F) (G' := [Chunk.ownS A (v.toNat + 1) (blk a ++ (fps.drop (v.toNat + 1)).flatten) a xs.length c xs]) h (fun d hd => by
    rw [List.mem_singleton.1 hd]
    exact ⟨rfl, css, fps, rfl, hrow, hk, hin⟩) (by
    simp only [List.flatMap_cons, List.flatMap_nil, List.append_nil]
    exact List.Sublist.refl _)⟩
end
section
variable {P : Program} {n : Nat} {w0 : World} {E : Env} {d : Option Tmp} {ty : TypeId} {pos : String} {af : Array Edge} {g : Option (Nat × Bool)} {K : Value → List Chunk → Prop} {α : Type} {A : Ty α} {F C : List Chunk} {fp fp2 : List Nat} {a a2 : Option Addr} {m c m2 c2 : Nat} {xs ys us : List α}
theorem OpH.appO {t by_ : Nat} {zs : List Value} {x y : Operand} {tys : Array TypeId} (hx : ev E x = some (.slice a m c)) (hy : ev E y = some (.slice a2 m2 c2)) (hty : tys = #[t, t])
    (ht : makeInfo P t = some (A.T, by_, zs)) (hz : zs.length = A.k) (hb : by_ ≤ 65536) (hp : app xs ys = some us)
    (hk : ∀ fp' a' c', K (.slice a' us.length c') (Chunk.own A fp' a' us.length c' us :: C)) :
    OpH P w0 (Chunk.own A fp2 a2 m2 c2 ys :: Chunk.own A fp a m c xs :: C) E ⟨d, .call ⟨.builtin .append, #[x, y], tys⟩, ty, pos, af, g⟩ K := fun ac w hg hs K' Q' hK => by
  obtain ⟨hlen, rfl⟩ := app_some hp
  obtain ⟨rfl, css2, fps2, _, hs0⟩ := St.ownOpen (F := []) hs
  obtain ⟨rfl, css, fps, _, hs1⟩ := St.ownOpen (F := [Chunk.row A.T A.k a2 ys.length c2 css2.flatten, Chunk.inn A css2 fps2 ys]) hs0
  have hbb : (xs.length + ys.length) * by_ ≤ 140737488355328 := Nat.le_trans (Nat.mul_le_mul hlen hb) (by decide)
  have hin2 : Inn A css2 fps2 ys w := (hs1.own (Chunk.inn A css2 fps2 ys) (by simp)).1
  have hone : ∀ v ∈ css2.flatten, v.oneCell' = true := fun v hv => by
    obtain ⟨cs, hcs, hv⟩ := List.mem_flatten.1 hv
    obtain ⟨i, hi⟩ := List.mem_iff_getElem?.1 hcs
    have hlt : i < ys.length := by rw [← hin2.1]; exact (List.getElem?_eq_some_iff.1 hi).1
    obtain ⟨cs', f, h1, _, h3⟩ := hin2.2.2 i ys[i] (List.getElem?_eq_getElem hlt)
    rw [hi] at h1
    cases h1
    exact List.all_eq_true.1 (A.one (A.ro h3)) v hv
  refine OpH.append (A := [Chunk.row A.T A.k a2 ys.length c2 css2.flatten, Chunk.inn A css2 fps2 ys]) (C := Chunk.inn A css fps xs :: C) (t := t) (e := A.T) (by_ := by_) (zs := zs) (m := xs.length) (m2 := ys.length) (xs := css.flatten) (news := css2.flatten)
    (K := fun v' F' => ∃ a' c', v' = .slice a' (xs.length + ys.length) c' ∧ F' = Chunk.row A.T A.k a2 ys.length c2 css2.flatten :: Chunk.inn A css2 fps2 ys :: Chunk.row A.T zs.length a' (xs.length + ys.length) c' (css.flatten ++ css2.flatten) :: Chunk.inn A css fps xs :: C) hx hy hty ht (by rw [hz]; exact A.pos) (by rw [flatten_len hin2.len, hin2.1, hz]) hone
    (fun w' hs' j v hj => (RowA.cell (hs'.own (Chunk.row A.T A.k a2 ys.length c2 css2.flatten) (by simp)).1 hj)) hbb (by omega) (fun a' c' => ⟨a', c', rfl, rfl⟩) ac w hg (by rw [hz]; exact hs1) K' Q' ?_
  rintro v' F' w' ⟨a', c', rfl, rfl⟩ hst
  rw [hz] at hst
  have hin' : Inn A css fps xs w' := (hst.own (Chunk.inn A css fps xs) (by simp)).1
  have hin2' : Inn A css2 fps2 ys w' := (hst.own (Chunk.inn A css2 fps2 ys) (by simp)).1
  have hrow := (hst.own (Chunk.row A.T A.k a' (xs.length + ys.length) c' (css.flatten ++ css2.flatten)) (by simp)).1
  have hp1 : St w0 ([] ++ ([Chunk.row A.T A.k a' (xs.length + ys.length) c' (css.flatten ++ css2.flatten), Chunk.inn A css fps xs, Chunk.inn A css2 fps2 ys, Chunk.row A.T A.k a2 ys.length c2 css2.flatten] ++ C)) w' := hst.perm (by
    refine List.Perm.trans (List.perm_append_comm (l₁ := [Chunk.row A.T A.k a2 ys.length c2 css2.flatten, Chunk.inn A css2 fps2 ys]) (l₂ := Chunk.row A.T A.k a' (xs.length + ys.length) c' (css.flatten ++ css2.flatten) :: Chunk.inn A css fps xs :: C)) ?_
    show List.Perm (Chunk.row A.T A.k a' (xs.length + ys.length) c' (css.flatten ++ css2.flatten) :: Chunk.inn A css fps xs :: (C ++ [_, _])) (_ :: _ :: ([_, _] ++ C))
    exact List.Perm.cons _ (List.Perm.cons _ (List.perm_append_comm.trans (List.Perm.swap _ _ _))))
  have e : css.flatten ++ css2.flatten = (css ++ css2).flatten := by rw [List.flatten_append]
  have hj := St.swapS (F := []) (G' := [Chunk.own A (blk a' ++ (fps ++ fps2).flatten) a' (xs ++ ys).length c' (xs ++ ys)]) hp1 (fun d hd => by
    rw [List.mem_singleton.1 hd]
    exact ⟨rfl, css ++ css2, fps ++ fps2, rfl, by rw [List.length_append, ← e]; exact hrow, hin'.append hin2'⟩) (by
    simp only [List.flatMap_cons, List.flatMap_nil, List.append_nil]
    show (blk a' ++ (fps ++ fps2).flatten).Sublist (blk a' ++ (fps.flatten ++ (fps2.flatten ++ blk a2)))
    rw [List.flatten_append]
    refine List.Sublist.append (List.Sublist.refl _) (List.Sublist.append (List.Sublist.refl _) ?_)
    exact List.sublist_append_left _ _)
  refine hK _ _ w' ?_ hj
  have := hk (blk a' ++ (fps ++ fps2).flatten) a' c'
  rw [List.length_append] at this ⊢
  exact this
end
end K
end Go.Proofs.YtmhalmnbgkpmnaaGreat
