/- impl.copyPlanes: a copy of planes, each with a copy of its words. -/
import Derived.Test.YtmhalmnbgkpmnaaGreatCopy
import Derived.Test.YtmhalmnbgkpmnaaGreatLib
import Derived.Test.YtmhalmnbgkpmnaaGreatTypes
import Derived.Test.YtmhalmnbgkpmnaaGreatChecked
namespace Go.Proofs.YtmhalmnbgkpmnaaGreat
open Go.RowKit K
set_option maxRecDepth 100000
set_option maxHeartbeats 4000000
theorem flatten_inv {k : Nat} : ∀ (css : List (List Value)), (∀ cs ∈ css, cs.length = k) → ∀ (j : Nat) (v : Value), css.flatten[j]? = some v → ∃ i r cs, css[i]? = some cs ∧ cs[r]? = some v ∧ j = i * k + r
  | [], _, j, v, h => by simp at h
  | c :: css, hk, j, v, h => by
    rw [List.flatten_cons] at h
    rcases Nat.lt_or_ge j c.length with hj | hj
    · rw [List.getElem?_append_left hj] at h
      exact ⟨0, j, c, rfl, h, by omega⟩
    · rw [List.getElem?_append_right hj] at h
      obtain ⟨i, r, y, h1, h2, h3⟩ := flatten_inv css (fun d hd => hk d (by simp [hd])) _ v h
      refine ⟨i + 1, r, y, by simpa using h1, h2, ?_⟩
      have := hk c (by simp)
      rw [Nat.succ_mul]; omega
/-- The cells of a slice that is read. -/
theorem Rd.css {α : Type} {A : Ty α} {w : World} {a : Option Addr} {n c : Nat} {xs : List α} (h : Rd A w a n c xs) : ∃ css : List (List Value), css.length = xs.length ∧ (∀ (i : Nat) x, xs[i]? = some x → ∃ cs, css[i]? = some cs ∧ A.rd w cs x) ∧ (∀ cs ∈ css, cs.length = A.k ∧ cs.all Value.oneCell' = true) ∧ CellsAt w a css.flatten := by
  have key : ∀ i (hi : i < xs.length), ∃ cs, A.rd w cs xs[i] ∧ ∃ b o, a = some ⟨b, o, .none⟩ ∧ ∀ j v, cs[j]? = some v → w.cell? ⟨b, o + i * A.k + j, .none⟩ = some v := by
    intro i hi
    obtain ⟨b, o, cs, e, hr, hc⟩ := h.2.2 i xs[i] (List.getElem?_eq_getElem hi)
    exact ⟨cs, hr, b, o, e, hc⟩
  let f : Nat → List Value := fun i => if hi : i < xs.length then Classical.choose (key i hi) else []
  have hf : ∀ i (hi : i < xs.length), A.rd w (f i) xs[i] ∧ ∃ b o, a = some ⟨b, o, .none⟩ ∧ ∀ j v, (f i)[j]? = some v → w.cell? ⟨b, o + i * A.k + j, .none⟩ = some v := by
    intro i hi
    simp only [f, dif_pos hi]
    exact Classical.choose_spec (key i hi)
  have hlen : ∀ cs ∈ (List.range xs.length).map f, cs.length = A.k := by
    intro cs hcs
    obtain ⟨i, hi, rfl⟩ := List.mem_map.1 hcs
    exact A.len (hf i (by simpa using hi)).1
  refine ⟨(List.range xs.length).map f, by simp, fun i x hx => ?_, fun cs hcs => ?_, fun j v hj => ?_⟩
  · obtain ⟨hi, rfl⟩ := List.getElem?_eq_some_iff.1 hx
    exact ⟨f i, by simp [hi], (hf i hi).1⟩
  · refine ⟨hlen cs hcs, ?_⟩
    obtain ⟨i, hi, rfl⟩ := List.mem_map.1 hcs
    exact A.one (hf i (by simpa using hi)).1
  · obtain ⟨i, r, cs, h1, h2, rfl⟩ := flatten_inv _ hlen j v hj
    rw [List.getElem?_map] at h1
    obtain ⟨i', hi', rfl⟩ := Option.map_eq_some_iff.1 h1
    obtain ⟨hlt, e⟩ := List.getElem?_eq_some_iff.1 hi'
    rw [List.getElem_range] at e
    subst e
    obtain ⟨_, b, o, e, hc⟩ := hf i (by simpa using hlt)
    exact ⟨b, o, e, by rw [← Nat.add_assoc]; exact hc r v h2⟩
theorem take_set_succ {α : Type} {xs : List α} {i : Nat} (h : i < xs.length) (v : α) : (xs.set i v).take (i + 1) = xs.take i ++ [v] := by
  rw [List.set_eq_take_append_cons_drop, if_pos h]
  have hl : (xs.take i).length = i := by rw [List.length_take]; omega
  rw [List.take_append, hl, List.take_of_length_le (by omega), show i + 1 - i = 1 by omega]
  rfl
/-- The cells of a plane. -/
def pcs (x : PlaneT) (v : Value) : List Value := [.bool x.On, .int .i64 x.X, .int .i64 x.Y, .int .i64 x.W, .int .i64 x.H, .int .i64 x.Layout, v, .int .i64 x.Alpha, .int .i64 x.Orient, .int .i64 x.ToW, .int .i64 x.ToH]
def pzs : List Value := [.bool false, .int .i64 0, .int .i64 0, .int .i64 0, .int .i64 0, .int .i64 0, .slice .none 0 0, .int .i64 0, .int .i64 0, .int .i64 0, .int .i64 0]
theorem pl_mi : ∃ by_, by_ ≤ 65536 ∧ makeInfo Tryz.prog 36 = some (tPlane.T, by_, pzs) := ⟨104, by decide, by kernel_rfl⟩
theorem w_ClonePlanes {list : List PlaneT} {q : Option Addr} {n k : Nat} (hn : list.length ≤ 1073741824) {w0 w : World} (hx : Ext w0 w) (r0 : Rd tPlane w0 q n k list) :
    Calls Tryz.prog 113 #[.slice q n k] w (fun en w' => ∃ rv G, en = .returned rv ∧ (∃ (a : Option Addr) (c : Nat) (css : List (List Value)), rv = .slice a list.length c ∧ (0 < list.length → ∃ g o, a = some ⟨g, o, .none⟩) ∧ css.length = list.length ∧ (∀ cs ∈ css, cs.length = tPlane.k)
      ∧ (∀ (i : Nat) x, list[i]? = some x → ∃ cs, css[i]? = some cs ∧ tPlane.rd w0 cs x) ∧ G = [Chunk.row tPlane.T tPlane.k a list.length c css.flatten]) ∧ St w G w') := by
  obtain rfl := r0.1
  obtain ⟨css, c1, c2, c3, c4⟩ := Rd.css r0
  obtain ⟨by_, hby, hmi⟩ := pl_mi
  refine enter (vs := [_]) Tryz.func113 rfl rfl rfl rfl ?_
  refine WC.seq ?_
  refine WC.region ?_
  refine Lt.ofWL.step rfl rfl rfl (OpV.assign rfl) ?_
  refine WL.nil ?_
  refine En.next ?_
  refine WC.seq ?_
  refine WC.seq ?_
  refine WC.region ?_
  refine Lt.ofWL.step rfl rfl rfl (OpV.move rfl) ?_
  refine Lt.ofWL.step rfl rfl rfl (OpV.eqNil rfl (by kernel_rfl)) ?_
  refine WL.nil ?_
  refine En.next ?_
  refine WC.cond rfl ?_ ?_
  · intro hc
    have hnil := Rd.isNil r0 hc
    subst hnil
    refine WC.seq ?_
    refine WC.region ?_
    refine Lt.ofWL.step rfl rfl rfl (OpV.assign rfl) ?_
    refine WL.nil ?_
    refine En.next ?_
    refine WC.ret ?_
    refine En.then_ret ?_
    refine En.ret1 rfl (Res.tmp rfl) ?_
    intro w' hs
    refine ⟨_, _, rfl, ⟨.none, 0, [], rfl, fun h => by simp at h, rfl, by simp, fun i x hx => by simp at hx, rfl⟩, ?_⟩
    exact hs.nilRow
  · intro hc
    refine WC.skip ?_
    refine En.next ?_
    refine WC.seq ?_
    refine WC.region ?_
    refine WL.heavy rfl rfl rfl (OpH.buildSlice (e := tPlane.T) (l := []) evps.nil (by kernel_rfl) ?_)
    intro b
    refine Lt.ofWL.step rfl rfl rfl (OpV.move rfl) ?_
    have ezs : pzs.length = tPlane.k := rfl
    refine WL.wkF (F' := [Chunk.row tPlane.T pzs.length (some ⟨b, 0, .none⟩) 0 0 []]) (fun w hs => St.box_row (A := []) (C := []) (xs := []) (sp := []) hs (by simp) (by simp) (Nat.le_refl _) (by unfold maxLen; omega)) ?_
    refine WL.heavy rfl rfl rfl (OpH.append (A := []) (C := []) (m := 0) (m2 := list.length) (news := css.flatten) rfl rfl rfl hmi (by decide) (by rw [flatten_len (fun cs h => (c3 cs h).1), c1]; rfl) (fun v hv => ?_) (fun w' hs => ?_) ?_ (by omega) ?_)
    · obtain ⟨cs, hcs, hv'⟩ := List.mem_flatten.1 hv
      exact List.all_eq_true.1 (c3 cs hcs).2 v hv'
    · intro j v hj
      obtain ⟨b', o', e, h⟩ := c4 j v hj
      exact ⟨b', o', e, hs.cell (hx.cell h)⟩
    · rw [Nat.zero_add]
      exact Nat.le_trans (Nat.mul_le_mul hn hby) (by decide)
    intro a' c'
    refine Lt.ofWL.step rfl rfl rfl (OpV.assign rfl) ?_
    refine WL.nil ?_
    refine En.next ?_
    refine WC.ret ?_
    refine En.ret1 rfl (Res.tmp rfl) ?_
    intro w' hs
    rw [Nat.zero_add, List.nil_append] at hs
    rw [Nat.zero_add]
    have hrow := (hs.own (Chunk.row tPlane.T pzs.length a' list.length c' css.flatten) (by simp)).1
    exact ⟨_, _, rfl, ⟨a', c', css, rfl, fun h => hrow.addr h, c1, fun cs h => (c3 cs h).1, c2, rfl⟩, hs⟩
theorem w_copyPlanesO {list : List PlaneT} {q : Option Addr} {n k : Nat} (hn : list.length ≤ 1073741824) (hw : ∀ p ∈ list, p.Words.length ≤ 1073741824) {w : World} (r0 : Rd tPlane w q n k list)
    (HC : ∀ (s : List Int) (q : Option Addr) (n k : Nat) (w : World), s.length ≤ 1073741824 → Rd tInt w q n k s → Calls Tryz.prog 98 #[.slice q n k] w (fun en w' => ∃ rv G, en = .returned rv ∧ (∃ (a : Option Addr) (n : Nat) (c : Nat) (f : List Nat), rv = .slice a n c ∧ G = [Chunk.own tInt f a n c s]) ∧ St w G w')) :
    Calls Tryz.prog 76 #[.slice q n k] w (fun en w' => ∃ rv G, en = .returned rv ∧ (∃ (a : Option Addr) (n : Nat) (c : Nat) (f : List Nat), rv = .slice a n c ∧ G = [Chunk.own tPlane f a n c list]) ∧ St w G w') := by
  obtain rfl := r0.1
  refine enter (vs := [_]) Tryz.func76 rfl rfl rfl rfl ?_
  refine WC.seq ?_
  refine WC.region ?_
  refine Lt.ofWL.step rfl rfl rfl (OpV.assign rfl) ?_
  refine WL.nil ?_
  refine En.next ?_
  refine WC.seq ?_
  refine WC.region ?_
  refine Lt.ofWL.step rfl rfl rfl (OpV.move rfl) ?_
  refine WL.heavy rfl rfl rfl (OpH.callR (evs.cons rfl (evs.nil)) (by kernel_rfl) (fun w hs => w_ClonePlanes hn hs.below r0) ?_)
  rintro _ _ ⟨a, c, css0, rfl, ha, hl0, hk0, hr0, rfl⟩
  refine Lt.ofWL.step rfl rfl rfl (OpV.assign rfl) ?_
  refine WL.nil ?_
  refine En.next ?_
  refine WC.seq ?_
  refine WC.seq ?_
  refine WC.region ?_
  refine Lt.ofWL.step rfl rfl rfl (OpV.move rfl) ?_
  refine Lt.ofWL.step rfl rfl rfl (OpV.len rfl (by kernel_rfl) rfl) ?_
  refine Lt.ofWL.step rfl rfl rfl (OpV.move rfl) ?_
  refine WL.nil ?_
  refine En.next ?_
  refine WC.block ?_
  have ek : tPlane.k = 11 := rfl
  refine WC.loop (τ := Nat × List (List Value) × List (List Nat)) (fun t => [(3, .slice a list.length c), (8, .slice q list.length k), (9, .int .i64 (list.length : Int)), (10, .int .i64 (t.1 : Int))])
    (fun t => [Chunk.row tPlane.T tPlane.k a list.length c t.2.1.flatten, Chunk.inn tPlane (t.2.1.take t.1) t.2.2 (list.take t.1)])
    (fun t => t.1 ≤ list.length ∧ t.2.1.length = list.length ∧ (∀ cs ∈ t.2.1, cs.length = 11) ∧ ∀ (i : Nat) x, t.1 ≤ i → list[i]? = some x → ∃ cs, t.2.1[i]? = some cs ∧ tPlane.rd w cs x) (fun t => list.length - t.1) (0, css0, []) ⟨Nat.zero_le _, hl0, hk0, fun i x _ hx => hr0 i x hx⟩ ?_ ?_ ?_
  · exact Sub.cons rfl (Sub.cons rfl (Sub.cons rfl (Sub.cons rfl (Sub.nil _))))
  · intro w' hs
    exact (hs.innNil (A := tPlane)).perm (List.Perm.swap _ _ _)
  · rintro ⟨i, css, fps⟩ ⟨hi, hlen, hkk, hrd⟩
    replace hi : i ≤ list.length := hi
    replace hlen : css.length = list.length := hlen
    replace hkk : ∀ cs ∈ css, cs.length = 11 := hkk
    replace hrd : ∀ (j : Nat) x, i ≤ j → list[j]? = some x → ∃ cs, css[j]? = some cs ∧ tPlane.rd w cs x := hrd
    refine WC.seq ?_
    refine WC.region ?_
    refine Lt.ofWL.step rfl rfl rfl (OpV.lss rfl rfl) ?_
    refine WL.nil ?_
    refine En.next ?_
    refine WC.seq ?_
    refine WC.cond rfl (fun hc => ?_) (fun hc => ?_)
    · have hlt : i < list.length := by simpa using hc
      have hxi : idx list (i : Int) = some list[i] := idx_lt hlt
      have hmem : list[i] ∈ list := List.getElem_mem hlt
      obtain ⟨b, o, _, hao, ⟨a1, c1, rfl, hrw⟩, hd⟩ := Rd.atIdx r0 hxi
      obtain ⟨cs1, hc1, a2, c2, rfl, _⟩ := hrd i list[i] (Nat.le_refl _) (List.getElem?_eq_getElem hlt)
      have hww := hw _ hmem
      generalize list[i] = x at *
      replace hd : ∀ (j : Nat) v, (pcs x (.slice a1 x.Words.length c1))[j]? = some v → w.cell? ⟨b, o + (i : Int).toNat * 11 + j, .none⟩ = some v := hd
      obtain ⟨g, o, rfl⟩ := ha (by omega)
      refine WC.skip ?_
      refine En.next ?_
      refine WC.seq ?_
      refine WC.block ?_
      refine WC.seq ?_
      refine WC.region ?_
      refine Lt.ofWL.step rfl rfl rfl (OpV.move rfl) ?_
      refine Lt.ofWL.step rfl rfl rfl (OpV.idxA (s := 11) rfl rfl (by kernel_rfl) hao ⟨by omega, by omega⟩) ?_
      refine Lt.ofWL.step rfl rfl rfl (OpV.loadN (n := 11) (l := pcs x (.slice a1 x.Words.length c1)) rfl (by kernel_rfl) rfl (fun w hs => hs.cellsAt hd)) ?_
      refine WL.heavy rfl rfl rfl (OpH.alloc (l := pzs) (by kernel_rfl) ?_)
      intro bx
      refine Lt.ofWL.step rfl rfl rfl (OpV.assign rfl) ?_
      refine WL.heavy0 rfl rfl (OpH.storeTo (A := []) (vs := pcs x (.slice a1 x.Words.length c1)) (pcs x (.slice a1 x.Words.length c1)) rfl rfl rfl (by kernel_rfl) rfl rfl rfl ?_)
      refine WL.nil ?_
      refine En.next ?_
      refine WC.region ?_
      refine Lt.ofWL.step rfl rfl rfl (OpV.move rfl) ?_
      refine Lt.ofWL.step rfl rfl rfl (OpV.move rfl) ?_
      refine Lt.ofWL.step rfl rfl rfl (OpV.fieldAddr (off := 6) rfl (by kernel_rfl)) ?_
      refine Lt.ofWL.step rfl rfl rfl (OpV.loadBox rfl (by kernel_rfl) (.head _) rfl) ?_
      refine WL.heavy rfl rfl rfl (OpH.callR (evs.cons rfl (evs.nil)) (by kernel_rfl) (fun w hs => HC _ _ _ _ _ hww (hrw.ext hs.below)) ?_)
      rintro _ _ ⟨a3, n3, c3, f3, rfl, rfl⟩
      refine Lt.ofWL.step rfl rfl rfl (OpV.idxA (s := 11) (b := g) (o := o) rfl rfl (by kernel_rfl) rfl ⟨by omega, by omega⟩) ?_
      refine Lt.ofWL.step rfl rfl rfl (OpV.fieldAddr (off := 6) rfl (by kernel_rfl)) ?_
      have hstore : ((i : Int).toNat * 11 + 6) < list.length * tPlane.k := by rw [ek]; simp; omega
      refine WL.heavy0 rfl rfl (OpH.storeRow (A := [Chunk.own tInt f3 a3 n3 c3 x.Words, Chunk.box bx _ _]) (v := .slice a3 n3 c3) rfl rfl rfl (by kernel_rfl) hstore rfl ?_)
      refine WL.nil ?_
      refine En.block_norm ?_
      refine En.next ?_
      refine WC.region ?_
      refine Lt.ofWL.step rfl rfl rfl (OpV.addR rfl rfl) ?_
      refine Lt.ofWL.step rfl rfl rfl (OpV.move rfl) ?_
      refine WL.nil ?_
      have hcl : i < css.length := by omega
      have hset : css.flatten.set ((i : Int).toNat * 11 + 6) (.slice a3 n3 c3) = (css.set i (pcs x (.slice a3 n3 c3))).flatten := by
        have := flatten_lset (css := css) hkk (i := i) (off := 6) (vs := [.slice a3 n3 c3]) hc1 (by simp)
        rw [Int.toNat_natCast]
        exact this
      rw [hset, wr_succ (by omega)]
      refine En.round (i + 1, css.set i (pcs x (.slice a3 n3 c3)), fps ++ [f3]) (by simp only []; omega) ⟨by simp only []; omega, by simpa using hlen, fun cs hcs => ?_, fun j y hj hy => ?_⟩ (by exact Sub.cons rfl (Sub.cons rfl (Sub.cons rfl (Sub.cons rfl (Sub.nil _))))) (fun w' hs => ?_)
      · rcases List.mem_or_eq_of_mem_set hcs with h | rfl
        · exact hkk cs h
        · rfl
      · obtain ⟨cs, h1, h2⟩ := hrd j y (by simp only [] at hj; omega) hy
        exact ⟨cs, by simp only [] at hj ⊢; rw [List.getElem?_set_ne (by omega)]; exact h1, h2⟩
      · have h1 := tPlane_mk x.On x.X x.Y x.W x.H x.Layout x.Words x.Alpha x.Orient x.ToW x.ToH hs
        have h2 := (h1.perm ((List.Perm.swap _ _ _).trans (.cons _ (.cons _ (.swap _ _ _))))).sub (List.sublist_cons_self _ _)
        have h3 := h2.innSnoc
        have h4 := h3.perm (List.Perm.swap _ _ _)
        have e1 : (css.set i (pcs x (.slice a3 n3 c3))).take (i + 1) = css.take i ++ [pcs x (.slice a3 n3 c3)] := take_set_succ hcl _
        have e2 : list.take (i + 1) = list.take i ++ [x] := by
          rw [List.take_add_one]
          obtain ⟨_, _, h⟩ := idx_some hxi
          rw [Int.toNat_natCast] at h
          rw [h]; rfl
        simp only [e1, e2]
        exact h4
    · have hN : i = list.length := by simp at hc; omega
      subst hN
      refine WC.exit ?_
      refine En.then_exit ?_
      refine En.then_exit ?_
      refine En.block_exit ?_
      refine En.next ?_
      refine WC.seq ?_
      refine WC.region ?_
      refine Lt.ofWL.step rfl rfl rfl (OpV.move rfl) ?_
      refine Lt.ofWL.step rfl rfl rfl (OpV.assign rfl) ?_
      refine WL.nil ?_
      refine En.next ?_
      refine WC.ret ?_
      refine En.ret1 rfl (Res.tmp rfl) ?_
      intro w' hs
      have e1 : css.take list.length = css := List.take_of_length_le (by omega)
      have e2 : list.take list.length = list := List.take_of_length_le (Nat.le_refl _)
      simp only [e1, e2] at hs
      exact ⟨_, _, rfl, ⟨a, _, c, _, rfl, rfl⟩, St.ownClose (F := []) (C := []) hs⟩
end Go.Proofs.YtmhalmnbgkpmnaaGreat
