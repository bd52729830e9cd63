/- slices.Insert of one int, into an own slice. -/
import Derived.Test.YtmhalmnbgkpmnaaGreatTypes
import Derived.Test.YtmhalmnbgkpmnaaGreatChecked
import Derived.Shelf.Spec.SlicesInsert
import Derived.Shelf.Spec.SlicesInsertGrow
namespace Go.Proofs.YtmhalmnbgkpmnaaGreat
open Go.RowKit K
set_option maxRecDepth 100000
set_option maxHeartbeats 4000000
def insRen : Go.Shelf.Ren := ⟨fun | 21 => 68 | 27 => 103 | 28 => 104 | 35 => 125 | 39 => 143 | n => n, fun | 22 => 23 | 3 => 3 | 4 => 4 | 0 => 0 | n => n, fun | n => n⟩
theorem insLays : Go.Proofs.Lays2.n21 Tryz.prog insRen := {
  mixed := by kernel_rfl
  f21 := Tryz.func68.trans (congrArg some (by kernel_rfl))
  f27 := Tryz.func103.trans (congrArg some (by kernel_rfl))
  f28 := Tryz.func104.trans (congrArg some (by kernel_rfl))
  f35 := Tryz.func125.trans (congrArg some (by kernel_rfl))
  f39 := Tryz.func143.trans (congrArg some (by kernel_rfl))
  t0 := Tryz.underlying0
  a0 := Tryz.isAgg0
  z0 := Tryz.sizeOf0
  v0 := Tryz.zeroValue0
  t3 := Tryz.underlying3
  a3 := Tryz.isAgg3
  z3 := Tryz.sizeOf3
  v3 := Tryz.zeroValue3
  t4 := Tryz.underlying4
  a4 := Tryz.isAgg4
  z4 := Tryz.sizeOf4
  v4 := Tryz.zeroValue4
  t22 := Tryz.underlying23
  a22 := Tryz.isAgg23
  z22 := Tryz.sizeOf23
  v22 := Tryz.zeroValue23
  i3 := by kernel_rfl }
theorem lset_eq : ∀ (vs l : List Value) (o : Nat), o + vs.length ≤ l.length → lset l o vs = l.take o ++ (vs ++ l.drop (o + vs.length))
  | [], l, o, _ => by simp [lset]
  | v :: r, l, o, h => by
    have hl : o < l.length := by simp at h; omega
    have ih := lset_eq r (l.set o v) (o + 1) (by simp at h ⊢; omega)
    show lset (l.set o v) (o + 1) r = _
    rw [ih]
    have e1 : (l.set o v).take (o + 1) = l.take o ++ [v] := by
      rw [List.take_set, List.take_add_one, List.getElem?_eq_getElem hl, List.set_append_right _ _ (by simp; omega)]
      simp [List.length_take, Nat.min_eq_left (Nat.le_of_lt hl)]
    have e2 : (l.set o v).drop (o + 1 + r.length) = l.drop (o + (v :: r).length) := by
      rw [List.drop_set_of_lt (by omega)]
      congr 1; simp; omega
    rw [e1, e2]; simp
theorem setCells_box {T : TypeId} {b : Nat} : ∀ (vs l : List Value) (o : Nat) (w : World), w.heap[b]? = some (.cells l.toArray T (0, 0)) → (w.setCells b o vs).heap[b]? = some (.cells (lset l o vs).toArray T (0, 0)) ∧ (∀ k, k ≠ b → (w.setCells b o vs).heap[k]? = w.heap[k]?) ∧ (w.setCells b o vs).heap.size = w.heap.size ∧ (w.setCells b o vs).os = w.os ∧ (w.setCells b o vs).tape = w.tape ∧ (w.setCells b o vs).output = w.output
  | [], l, o, w, h => ⟨h, fun _ _ => rfl, rfl, rfl, rfl, rfl⟩
  | v :: r, l, o, w, h => by
    have h1 := K.heap_setCell_same h (k := o) v
    obtain ⟨a1, a2, a3, a4, a5, a6⟩ := setCells_box r (l.set o v) (o + 1) (w.setCell ⟨b, o, none⟩ v) h1
    refine ⟨a1, fun k hk => (a2 k hk).trans (Below.heap_setCell _ _ _ _ hk), a3.trans (by simp), a4.trans rfl, a5.trans rfl, a6.trans rfl⟩
section
variable {w0 w : World} {C : List Chunk} {fp : List Nat} {a : Option Addr} {m c : Nat} {xs : List Int}
theorem flat_ints (xs : List Int) : (xs.map tIntE).flatten = xs.map (Value.int .i64) := by
  induction xs with
  | nil => rfl
  | cons x r ih => rw [List.map_cons, List.flatten_cons, ih]; rfl
theorem own_row (h : St w0 (Chunk.own tInt fp a m c xs :: C) w) : m = xs.length ∧ St w0 (Chunk.row 3 1 a xs.length c (xs.map (Value.int .i64)) :: C) w := by
  obtain ⟨hm, css, fps, _, h1⟩ := St.ownOpen (F := []) h
  have hin : Inn tInt css fps xs w := (h1.own (Chunk.inn tInt css fps xs) (by simp)).1
  have e : css = xs.map tIntE := by
    refine List.ext_getElem (by rw [List.length_map]; exact hin.1) fun i hi hi2 => ?_
    have hx : i < xs.length := by rw [← hin.1]; exact hi
    obtain ⟨cs, f, q1, _, q3⟩ := hin.2.2 i xs[i] (List.getElem?_eq_getElem hx)
    rw [List.getElem?_eq_getElem hi] at q1
    have : cs = tIntE xs[i] := q3.2
    rw [List.getElem_map, Option.some.inj q1, this]
  rw [e, flat_ints] at h1
  have h2 : St w0 (Chunk.row 3 1 a xs.length c (xs.map (Value.int .i64)) :: Chunk.inn tInt (xs.map tIntE) fps xs :: C) w := h1
  exact ⟨hm, h2.sub (.cons_cons _ (.cons _ (List.Sublist.refl _)))⟩
theorem row_own (h : St w0 (Chunk.row 3 1 a xs.length c (xs.map (Value.int .i64)) :: C) w) : St w0 (Chunk.own tInt (blk a) a xs.length c xs :: C) w :=
  St.swap (A := []) h rfl fun hr => ⟨rfl, xs.map tIntE, xs.map (fun _ => []), by rw [flatten_nils]; simp, by rw [flat_ints]; exact hr, tInt_flat.inn xs w⟩
end
/-- Behind a new block, all stands as it was. -/
theorem addRow {w0 w w' : World} {C : List Chunk} {n cap : Nat} {cs sp : List Value} (h : St w0 C w) (hx : Ext w w') (h1 : cs.length = n) (h2 : (cs ++ sp).length = cap) (h3 : n ≤ cap) (h4 : cap ≤ maxLen) (hb : w'.heap[w.heap.size]? = some (.cells (cs ++ sp).toArray 3 (0, 0))) : St w0 (Chunk.row 3 1 (some ⟨w.heap.size, 0, .none⟩) n cap cs :: C) w' :=
  h.add hx (Chunk.row 3 1 (some ⟨w.heap.size, 0, .none⟩) n cap cs) ⟨by rw [h1, Nat.mul_one], .inr ⟨w.heap.size, [], sp, [], rfl, by rw [h2, Nat.mul_one], h3, h4, by simpa using hb⟩⟩ (by simp [Chunk.row, Chunk.fp, blk]) (by simp [Chunk.row, Chunk.fp, blk])
theorem w_Insert {xs ys : List Int} {i v : Int} (h : insO xs i v = some ys) {w0 w : World} {C : List Chunk} {fp fp2 : List Nat} {a : Option Addr} {m c g : Nat} (hs : St w0 (Chunk.own tInt fp a m c xs :: Chunk.own tInt fp2 (some ⟨g, 0, .none⟩) 1 1 [v] :: C) w) :
    Calls Tryz.prog 68 #[.slice a m c, .int .i64 i, .slice (some ⟨g, 0, .none⟩) 1 1] w fun en w' => ∃ rv G, en = .returned rv ∧ (∃ a' c' f', rv = .slice a' ys.length c' ∧ G = Chunk.own tInt f' a' ys.length c' ys :: Chunk.own tInt fp2 (some ⟨g, 0, .none⟩) 1 1 [v] :: C) ∧ St w0 G w' := by
  obtain ⟨⟨i0, i1, hmax⟩, rfl⟩ := insO_some h
  obtain ⟨k, rfl⟩ : ∃ k : Nat, i = k := ⟨i.toNat, by omega⟩
  rw [Int.toNat_natCast]
  obtain ⟨rfl, hr⟩ := own_row hs
  obtain ⟨l, hg, hl0⟩ : ∃ l : List Value, w.heap[g]? = some (.cells l.toArray 3 (0, 0)) ∧ l[0]? = some (Value.int .i64 v) := by
    have h2 := (own_row hs.drop).2
    rcases ((h2.own (Chunk.row 3 1 (some ⟨g, 0, .none⟩) [v].length 1 ([v].map (Value.int .i64))) (by simp)).1 : RowA 3 1 (some ⟨g, 0, .none⟩) [v].length 1 ([v].map (Value.int .i64)) w).2 with ⟨e, _⟩ | ⟨g', pre, sp, post, e, _, _, _, h6⟩
    · cases e
    · have e2 := Option.some.inj e
      have e3 : g = g' := congrArg Addr.block e2
      have e4 : 0 = pre.length := congrArg Addr.off e2
      subst e3
      have : pre = [] := List.eq_nil_of_length_eq_zero e4.symm
      subst this
      exact ⟨_, h6, rfl⟩
  have hg2 : g ∈ fp2 := by
    obtain ⟨_, css, fps, e, _⟩ := (hs.own (Chunk.own tInt fp2 (some ⟨g, 0, .none⟩) 1 1 [v]) (by simp)).1
    rw [e]; simp [blk]
  have hC : St w0 (Chunk.own tInt fp2 (some ⟨g, 0, .none⟩) 1 1 [v] :: C) w := hs.drop
  have hrow : RowA 3 1 a xs.length c (xs.map (Value.int .i64)) w := (hr.own (Chunk.row 3 1 a xs.length c (xs.map (Value.int .i64))) (by simp)).1
  have hcl : (xs.map (Value.int .i64)).length = xs.length := List.length_map ..
  have h1c : ∀ u ∈ xs.map (Value.int .i64), u.oneCell' = true := fun u hu => by
    obtain ⟨x, _, rfl⟩ := List.mem_map.1 hu; rfl
  have h1v : ∀ u ∈ [Value.int .i64 v], u.oneCell' = true := fun u hu => by rw [List.mem_singleton.1 hu]; rfl
  have hvs : ∀ (j : Nat) u, [Value.int .i64 v][j]? = some u → w.cell? ⟨g, 0 + j, none⟩ = some u := fun j u hj => by
    rw [Nat.zero_add]
    match j, hj with
    | 0, hj => rw [← Option.some.inj hj]; exact cell_box hg hl0
    | j + 1, hj => simp at hj
  have hkn : k ≤ xs.length := by omega
  have hlen : (xs.take k ++ v :: xs.drop k).length = xs.length + 1 := by simp; omega
  have hmap : (xs.take k ++ v :: xs.drop k).map (Value.int .i64) = (xs.map (Value.int .i64)).take k ++ (Value.int .i64 v :: (xs.map (Value.int .i64)).drop k) := by simp [List.map_take, List.map_drop]
  -- it suffices to show the row
  have close : ∀ (a' : Option Addr) (c' : Nat) (w' : World), St w0 (Chunk.row 3 1 a' (xs.length + 1) c' ((xs.map (Value.int .i64)).take k ++ (Value.int .i64 v :: (xs.map (Value.int .i64)).drop k)) :: Chunk.own tInt fp2 (some ⟨g, 0, .none⟩) 1 1 [v] :: C) w' → ∃ rv G, Ending.returned (.slice a' (xs.length + 1) c') = .returned rv ∧ (∃ a' c' f', rv = .slice a' (xs.take k ++ v :: xs.drop k).length c' ∧ G = Chunk.own tInt f' a' (xs.take k ++ v :: xs.drop k).length c' (xs.take k ++ v :: xs.drop k) :: Chunk.own tInt fp2 (some ⟨g, 0, .none⟩) 1 1 [v] :: C) ∧ St w0 G w' := fun a' c' w' hst => by
    rw [← hmap, ← hlen] at hst
    exact ⟨_, _, by rw [hlen], ⟨a', c', blk a', rfl, rfl⟩, row_own hst⟩
  generalize hcs : xs.map (Value.int .i64) = cs at *
  generalize hn : xs.length = n at *
  have hvl : [Value.int .i64 v].length = 1 := rfl
  -- the new row, when there is no room
  have cap : ∀ w : World, n + 1 ≤ grownCap w (n + 1) c 3 ∧ grownCap w (n + 1) c 3 ≤ maxLen := fun w => ⟨grownCap_ge w (n + 1) c 3, grownCap_le_maxLen w (n + 1) c 3 (by unfold maxLen; omega)⟩
  have zc : ∀ q : Nat, (Builtin.zeroCells (Value.int .i64 0).cells q).toList.length = q := fun q => by
    have := size_zeroCells (Value.int .i64 0).cells q
    rw [Array.length_toList, this]
    show q * 1 = q
    omega
  by_cases hroom : n + 1 ≤ c
  · -- there is room: a block of the call's own
    rcases hrow.2 with ⟨_, _, rfl⟩ | ⟨b, pre, sp, post, rfl, h3, h4, h5, h6⟩
    · omega
    have hbl : ∀ j u, (pre ++ (cs ++ (sp ++ post)))[j]? = some u → w.cell? ⟨b, j, none⟩ = some u := fun j u hj => cell_box h6 hj
    have hspl : sp.length = c - n := by rw [List.length_append] at h3; omega
    have hsome : ∀ j, j < pre.length + (n + 1) → (w.cell? ⟨b, j, none⟩).isSome = true := fun j hj => by
      have : j < (pre ++ (cs ++ (sp ++ post))).length := by simp only [List.length_append]; omega
      rw [hbl j _ (List.getElem?_eq_getElem this)]; rfl
    have hfz : ∀ j, w.frozen? ⟨b, j, none⟩ = false := fun j => by simp [World.frozen?, h6]
    obtain ⟨z, sp', rfl⟩ : ∃ z sp', sp = z :: sp' := by
      match sp, hspl with
      | [], h => simp at h; omega
      | z :: sp', _ => exact ⟨z, sp', rfl⟩
    have hc63 : c ≤ 9223372036854775807 := by unfold maxLen at h5; omega
    -- the row behind it
    have fin : ∀ w' : World, w'.heap[b]? = some (.cells (pre ++ ((cs.take k ++ (Value.int .i64 v :: cs.drop k)) ++ (sp' ++ post))).toArray 3 (0, 0)) → (∀ q, q ≠ b → w'.heap[q]? = w.heap[q]?) → w'.heap.size = w.heap.size → w'.os = w.os → w'.tape = w.tape → w'.output = w.output → St w0 (Chunk.row 3 1 (some ⟨b, pre.length, .none⟩) (n + 1) c (cs.take k ++ (Value.int .i64 v :: cs.drop k)) :: Chunk.own tInt fp2 (some ⟨g, 0, .none⟩) 1 1 [v] :: C) w' := fun w' e1 e2 e3 e4 e5 e6 =>
      St.set (A := []) hr rfl ⟨by simp; omega, .inr ⟨b, pre, sp', post, rfl, by simp at h3 ⊢; omega, hroom, h5, e1⟩⟩ (fun q hq => e2 q (by simpa [Chunk.row, Chunk.fp, blk] using hq)) e3 e4 e5 e6
    by_cases hend : k = n
    · subst hend
      have hcall := Any2.slices_Insert_int_end_room insLays b pre.length k c g 0 1 1 [.int .i64 v] w (by omega) hroom hc63 rfl (fun j hj => hsome _ (by omega)) (fun j _ => hfz _) hvs h1v
      refine Calls.mono hcall ?_
      rintro e w' ⟨rfl, rfl⟩
      refine close _ _ _ (fin _ ?_ ?_ ?_ ?_ ?_ ?_)
      · rw [(setCells_box [Value.int .i64 v] _ (pre.length + k) w h6).1, lset_eq _ _ _ (by simp; omega)]
        have t1 : cs.take k = cs := List.take_of_length_le (by omega)
        have t2 : cs.drop k = [] := List.drop_of_length_le (by omega)
        have t3 : (pre ++ (cs ++ (z :: sp' ++ post))).take (pre.length + k) = pre ++ cs := by rw [List.take_length_add_append, ← hcl, List.take_left]
        have t4 : (pre ++ (cs ++ (z :: sp' ++ post))).drop (pre.length + k + [Value.int .i64 v].length) = sp' ++ post := by rw [Nat.add_assoc, List.drop_length_add_append, ← hcl, List.drop_length_add_append]; rfl
        rw [t1, t2, t3, t4]; simp
      · exact (setCells_box [Value.int .i64 v] _ (pre.length + k) w h6).2.1
      · exact (setCells_box [Value.int .i64 v] _ (pre.length + k) w h6).2.2.1
      · exact (setCells_box [Value.int .i64 v] _ (pre.length + k) w h6).2.2.2.1
      · exact (setCells_box [Value.int .i64 v] _ (pre.length + k) w h6).2.2.2.2.1
      · exact (setCells_box [Value.int .i64 v] _ (pre.length + k) w h6).2.2.2.2.2
    · have hgb : g ≠ b := fun e => by
        have hnd := hr.nodup
        rw [List.flatMap_cons, List.flatMap_cons, List.nodup_append] at hnd
        exact hnd.2.2 b (by simp [Chunk.row, Chunk.fp, blk]) g (List.mem_append_left _ hg2) e.symm
      have hsa : w.shape? g = some (3, l.length) := by simp [World.shape?, hg]
      have hsb : w.shape? b = some (3, (pre ++ (cs ++ (z :: sp' ++ post))).length) := by simp [World.shape?, h6]
      have hcall := Any2.slices_Insert_int_shift insLays b pre.length n c k g 0 1 1 cs [.int .i64 v] w (by omega) (by omega) hroom hc63 hgb hcl rfl (fun j u hj => hbl _ _ (by rw [List.getElem?_append_right (by omega), show pre.length + j - pre.length = j by omega, List.getElem?_append_left (List.getElem?_eq_some_iff.1 hj).1]; exact hj)) (fun j hj => hsome _ (by omega)) (fun j _ => hfz _) hvs h1c h1v 3 3 l.length _ hsa hsb (by simp) (by simp [World.frozen?, hg]) (by simp [World.frozen?, hg])
      refine Calls.mono hcall ?_
      rintro e w' ⟨rfl, rfl⟩
      obtain ⟨p1, p2, p3, p4, p5, p6⟩ := setCells_box (cs.drop k) _ (pre.length + (k + 1)) w.drew (T := 3) (b := b) h6
      obtain ⟨q1, q2, q3, q4, q5, q6⟩ := setCells_box [Value.int .i64 v] _ (pre.length + k) _ p1
      refine close _ _ _ (fin _ ?_ (fun q hq => (q2 q hq).trans (p2 q hq)) (q3.trans p3) (q4.trans p4) (q5.trans p5) (q6.trans p6))
      rw [q1]
      have hdl : (cs.drop k).length = n - k := by rw [List.length_drop, hcl]
      have l1 : lset (pre ++ (cs ++ (z :: sp' ++ post))) (pre.length + (k + 1)) (cs.drop k) = pre ++ ((cs ++ [z]).take (k + 1) ++ (cs.drop k ++ (sp' ++ post))) := by
        rw [lset_eq _ _ _ (by simp; omega)]
        have t3 : (pre ++ (cs ++ (z :: sp' ++ post))).take (pre.length + (k + 1)) = pre ++ (cs ++ [z]).take (k + 1) := by
          rw [List.take_length_add_append]
          have : cs ++ (z :: sp' ++ post) = (cs ++ [z]) ++ (sp' ++ post) := by simp
          rw [this, List.take_append_of_le_length (by simp; omega)]
        have t4 : (pre ++ (cs ++ (z :: sp' ++ post))).drop (pre.length + (k + 1) + (cs.drop k).length) = sp' ++ post := by
          have : cs ++ (z :: sp' ++ post) = (cs ++ [z]) ++ (sp' ++ post) := by simp
          rw [hdl, this, show pre.length + (k + 1) + (n - k) = pre.length + ((cs ++ [z]).length) by simp; omega, List.drop_length_add_append, List.drop_left]
        rw [t3, t4, List.append_assoc]
      rw [l1, lset_eq _ _ _ (by simp; omega)]
      have hk1 : (cs ++ [z]).take (k + 1) = cs.take k ++ [(cs ++ [z])[k]'(by simp; omega)] := by
        rw [List.take_add_one, List.getElem?_eq_getElem (by simp; omega), List.take_append_of_le_length (by omega)]; rfl
      have hpk : (pre ++ cs.take k).length = pre.length + k := by simp; omega
      have e0 : pre ++ ((cs ++ [z]).take (k + 1) ++ (cs.drop k ++ (sp' ++ post))) = (pre ++ cs.take k) ++ ((cs ++ [z])[k]'(by simp; omega) :: (cs.drop k ++ (sp' ++ post))) := by rw [hk1]; simp
      rw [e0, ← hpk, List.take_left]
      have e1 : ((pre ++ cs.take k) ++ ((cs ++ [z])[k]'(by simp; omega) :: (cs.drop k ++ (sp' ++ post)))).drop ((pre ++ cs.take k).length + [Value.int .i64 v].length) = cs.drop k ++ (sp' ++ post) := by rw [List.drop_length_add_append]; rfl
      rw [e1]; simp
  · have hle : n ≤ c := by
      rcases hrow.2 with ⟨_, h0, _⟩ | ⟨_, _, _, _, _, _, h4, _⟩
      · have : n = 0 := h0
        omega
      · exact h4
    by_cases hend : k = n
    · subst hend
      have hcall := Any2.slices_Insert_int_end_grow insLays a k c g 0 1 1 cs [.int .i64 v] w (by omega) hle (by omega) (by omega) hcl rfl (fun ha => by
          rcases hrow.2 with ⟨_, h0, _⟩ | ⟨_, _, _, _, rfl, _⟩
          · exact h0
          · cases ha) (fun p hp j u hj => by
          obtain ⟨q, o, e, hq⟩ := hrow.cell hj
          rw [hp] at e
          rw [Option.some.inj e, Addr.add_lit]
          exact hq) hvs h1v
      refine Calls.mono hcall ?_
      rintro e w' ⟨rfl, rfl⟩
      obtain ⟨cg, cm⟩ := cap w
      have t1 : cs.take k = cs := List.take_of_length_le (by omega)
      have t2 : cs.drop k = [] := List.drop_of_length_le (by omega)
      rw [show insRen.t 3 = 3 from rfl]
      refine close _ _ _ ?_
      rw [t1, t2]
      refine addRow (sp := (Builtin.zeroCells (Value.int .i64 0).cells (grownCap w (k + 1) c 3 - (k + 1))).toList) hC (Ext.trans (Ext.refl w).drew (Ext.alloc _ _)) (by simp; omega) (by rw [List.length_append, zc]; simp; omega) cg cm ?_
      have := heap_alloc_new w.drew (.cells ((cs ++ [Value.int .i64 v]).toArray ++ Builtin.zeroCells (Value.int .i64 0).cells (grownCap w (k + 1) c 3 - (k + 1))) 3)
      simp only [World.size_drew] at this
      rw [this]
      simp
    · rcases hrow.2 with ⟨_, h0, _⟩ | ⟨b, pre, sp, post, rfl, h3, h4, h5, h6⟩
      · have : n = 0 := h0
        omega
      have hbl : ∀ j u, (pre ++ (cs ++ (sp ++ post)))[j]? = some u → w.cell? ⟨b, j, none⟩ = some u := fun j u hj => cell_box h6 hj
      have hcall := Any2.slices_Insert_int_grow insLays b pre.length n c k g 0 1 1 cs [.int .i64 v] w (by omega) (by omega) hle (by omega) (by omega) hcl rfl (fun j u hj => hbl _ _ (by rw [List.getElem?_append_right (by omega), show pre.length + j - pre.length = j by omega, List.getElem?_append_left (List.getElem?_eq_some_iff.1 hj).1]; exact hj)) hvs h1c h1v
      refine Calls.mono hcall ?_
      rintro e w' ⟨rfl, rfl⟩
      obtain ⟨cg, cm⟩ := cap w
      rw [show insRen.t 3 = 3 from rfl]
      generalize hQ : grownCap w (n + 1) c 3 = Q at *
      have n1 := heap_alloc_new w (.cells ((cs.take k).toArray ++ Builtin.zeroCells (Value.int .i64 0).cells (n + 1 - k) ++ Builtin.zeroCells (Value.int .i64 0).cells (Q - (n + 1))) 3)
      have x1 : Ext w (w.alloc (.cells ((cs.take k).toArray ++ Builtin.zeroCells (Value.int .i64 0).cells (n + 1 - k) ++ Builtin.zeroCells (Value.int .i64 0).cells (Q - (n + 1))) 3)) := Ext.alloc _ _
      generalize hW : w.alloc (.cells ((cs.take k).toArray ++ Builtin.zeroCells (Value.int .i64 0).cells (n + 1 - k) ++ Builtin.zeroCells (Value.int .i64 0).cells (Q - (n + 1))) 3) = W at *
      generalize hZ1 : Builtin.zeroCells (Value.int .i64 0).cells (n + 1 - k) = Z1 at *
      generalize hZ2 : Builtin.zeroCells (Value.int .i64 0).cells (Q - (n + 1)) = Z2 at *
      have hz1 : Z1.toList.length = n + 1 - k := by rw [← hZ1]; exact zc _
      have hz2 : Z2.toList.length = Q - (n + 1) := by rw [← hZ2]; exact zc _
      have n1' : W.drew.heap[w.heap.size]? = some (.cells ((cs.take k ++ (Z1.toList ++ Z2.toList))).toArray 3 (0, 0)) := by
        show W.heap[w.heap.size]? = _
        rw [n1]; simp
      obtain ⟨p1, p2, p3, p4, p5, p6⟩ := setCells_box [Value.int .i64 v] _ k W.drew n1'
      obtain ⟨q1, q2, q3, q4, q5, q6⟩ := setCells_box (cs.drop k) _ (k + 1) (W.drew.setCells w.heap.size k [.int .i64 v]).drew (T := 3) (b := w.heap.size) p1
      have htk : (cs.take k).length = k := by rw [List.length_take]; omega
      have hdl : (cs.drop k).length = n - k := by rw [List.length_drop, hcl]
      refine close _ _ _ (addRow (sp := Z2.toList) hC ?_ (by simp; omega) (by rw [List.length_append, hz2]; simp; omega) cg cm ?_)
      · refine ⟨q4.trans (p4.trans x1.os), q5.trans (p5.trans x1.tape), q6.trans (p6.trans x1.output), ?_, fun q hq => ?_⟩
        · have := x1.size
          have e3 : W.drew.heap.size = W.heap.size := rfl
          have e4 : (W.drew.setCells w.heap.size k [.int .i64 v]).drew.heap.size = (W.drew.setCells w.heap.size k [.int .i64 v]).heap.size := rfl
          omega
        · exact (q2 q (by omega)).trans ((p2 q (by omega)).trans (x1.block q hq))
      · rw [q1]
        congr 2
        have l0 : lset (cs.take k ++ (Z1.toList ++ Z2.toList)) k [.int .i64 v] = cs.take k ++ (Value.int .i64 v :: (Z1.toList.drop 1 ++ Z2.toList)) := by
          rw [lset_eq _ _ _ (by simp only [List.length_append, List.length_singleton, htk, hz1]; omega)]
          have t1 : (cs.take k ++ (Z1.toList ++ Z2.toList)).take k = cs.take k := List.take_left' htk
          have t2 : (cs.take k ++ (Z1.toList ++ Z2.toList)).drop (k + [Value.int .i64 v].length) = Z1.toList.drop 1 ++ Z2.toList := by
            have : k + [Value.int .i64 v].length = (cs.take k).length + 1 := by rw [htk]; rfl
            rw [this, List.drop_length_add_append, List.drop_append_of_le_length (by omega)]
          rw [t1, t2]; rfl
        rw [l0]
        have hpk : (cs.take k ++ [Value.int .i64 v]).length = k + 1 := by simp; omega
        have e0 : cs.take k ++ (Value.int .i64 v :: (Z1.toList.drop 1 ++ Z2.toList)) = (cs.take k ++ [Value.int .i64 v]) ++ (Z1.toList.drop 1 ++ Z2.toList) := by simp
        rw [e0, lset_eq _ _ _ (by simp only [List.length_append, hpk, List.length_drop, hz1, hdl, List.length_singleton, htk]; omega)]
        have t1 : ((cs.take k ++ [Value.int .i64 v]) ++ (Z1.toList.drop 1 ++ Z2.toList)).take (k + 1) = cs.take k ++ [Value.int .i64 v] := by rw [← hpk, List.take_left]
        have t2 : ((cs.take k ++ [Value.int .i64 v]) ++ (Z1.toList.drop 1 ++ Z2.toList)).drop (k + 1 + (cs.drop k).length) = Z2.toList := by
          have e5 : (Z1.toList.drop 1).length = (cs.drop k).length := by rw [List.length_drop, hz1, hdl]; omega
          rw [← hpk, List.drop_length_add_append, ← e5, List.drop_left]
        rw [t1, t2]; simp
end Go.Proofs.YtmhalmnbgkpmnaaGreat
