/- Maps from ints to bools, of the call's own. -/
import Derived.Test.YtbdpbboonilhhaaOwn
import Derived.MapKept
import Derived.Carry
namespace Go.Proofs.Ytbdpbboonilhhaa
open Go.RowKit Go.MapKept
namespace K
def mkv (p : Int × Bool) : Value × Value := (.int .i64 p.1, .bool p.2)
def MapIB (b : Nat) (m : List (Int × Bool)) (w : World) : Prop := ∃ es clock, w.heap[b]? = some (.map es clock) ∧ es.toList.map (fun e => (e.key, e.val)) = m.map mkv
def Chunk.mapc (b : Nat) (m : List (Int × Bool)) : Chunk := .any [b] (MapIB b m)
  (fun _ _ h ⟨es, c, h1, h2⟩ => ⟨es, c, by rw [h b (by simp)]; exact h1, h2⟩)
  (fun _ ⟨_, _, h1, _⟩ b' hb => by
    have : b' = b := by simpa using hb
    subst this; exact (Array.getElem?_eq_some_iff.1 h1).1)
def mfind : List (Int × Bool) → Int → Nat → Option (Nat × Value)
  | [], _, _ => .none
  | (a, b) :: r, k, i => if k = a then some (i, .bool b) else mfind r k (i + 1)
theorem findNow_eq {kk : IntKind} (k : Int) : ∀ (m : List (Int × Bool)) (es : List MapEntry) (i : Nat), es.map (fun e => (e.key, e.val)) = m.map mkv → Instr.findNow (.int kk) (.int .i64 k) es i = some (mfind m k i)
  | [], es, i, h => by
    have : es = [] := by simpa using h
    subst this; rfl
  | (a, b) :: r, [], i, h => by simp at h
  | (a, b) :: r, e :: es, i, h => by
    simp only [List.map_cons, List.cons.injEq, mkv, Prod.mk.injEq] at h
    obtain ⟨⟨h1, h2⟩, h3⟩ := h
    have ih := findNow_eq (kk := kk) k r es (i + 1) h3
    by_cases hk : k = a
    · subst hk
      simp [Instr.findNow, Instr.sameNow, h1, h2, mfind]
    · have hkb : (k == a) = false := by simpa using hk
      simp [Instr.findNow, Instr.sameNow, h1, hkb, hk, mfind, ih]
theorem mget_find : ∀ (m : List (Int × Bool)) (k : Int) (i : Nat), mget m k = (match mfind m k i with | some (_, .bool b) => b | _ => false)
  | [], _, _ => rfl
  | (a, b) :: r, k, i => by
    simp only [mget, mfind]
    split
    · rfl
    · exact mget_find r k (i + 1)
theorem mfind_none {v : Bool} : ∀ (m : List (Int × Bool)) (k : Int) (i : Nat), mfind m k i = .none → mset m k v = m ++ [(k, v)]
  | [], _, _, _ => rfl
  | (a, b) :: r, k, i, h => by
    simp only [mfind] at h
    split at h
    · cases h
    · rename_i hk; rw [mset, if_neg hk, mfind_none r k (i + 1) h]; rfl
theorem mfind_some {v : Bool} : ∀ (m : List (Int × Bool)) (k : Int) (i j : Nat) (u : Value), mfind m k i = some (j, u) → ∃ n b, j = i + n ∧ m[n]? = some (k, b) ∧ u = .bool b ∧ mset m k v = m.set n (k, v)
  | [], _, _, _, _, h => by cases h
  | (a, b) :: r, k, i, j, u, h => by
    simp only [mfind] at h
    split at h
    · rename_i hk
      subst hk
      cases h
      exact ⟨0, b, rfl, rfl, rfl, by simp [mset]⟩
    · rename_i hk
      obtain ⟨n, b', h1, h2, h3, h4⟩ := mfind_some (v := v) r k (i + 1) j u h
      exact ⟨n + 1, b', by omega, by simpa using h2, h3, by rw [mset, if_neg hk, h4]; rfl⟩
def zeroVal (P : Program) (e : TypeId) : Option Value := (P.info? e).bind fun i => i.zero
theorem zeroVal_run {P : Program} {e : TypeId} {v : Value} (h : zeroVal P e = some v) (w : World) : (zeroValue e).run P w = .ok v w := by
  unfold zeroVal at h
  obtain ⟨i, hi, hz⟩ := Option.bind_eq_some_iff.1 h
  simp [zeroValue, typeInfo, run_program, hi, hz]
section
variable {P : Program} {n : Nat} {w0 : World} {E : Env} {d : Option Tmp} {ty : TypeId} {pos : String} {af : Array Edge} {g : Option (Nat × Bool)} {K : Value → List Chunk → Prop} {F C : List Chunk}
theorem OpH.makeMap {t : TypeId} (hk : ∀ b, K (.map (some b)) (Chunk.mapc b [] :: F)) : OpH P w0 F E ⟨d, .makeMap t .none, ty, pos, af, g⟩ K :=
  .of_run fun a w hg hs => by
    have hr := run_makeMap (P := P) t w
    refine ⟨_, _, _, by simp [execOp, hr], hs.add (Ext.alloc w _) (Chunk.mapc w.heap.size []) ⟨#[], 0, heap_alloc_new w _, rfl⟩ (by simp [Chunk.mapc, Chunk.fp]) (by simp [Chunk.mapc, Chunk.fp]), hk _⟩
theorem OpV.lookup {t kt e : TypeId} {x y : Operand} {b : Nat} {m : List (Int × Bool)} {k : Int} (hx : ev E x = some (.map (some b))) (hy : ev E y = some (.int .i64 k)) (hu : P.underlying t = some (.map kt e)) (hkt : P.underlying kt = some (.int .i64)) (hz0 : zeroVal P e = some (.bool false)) (hm : Chunk.mapc b m ∈ F) : OpV P w0 F E ⟨d, .lookup t x y false, ty, pos, af, g⟩ (.bool (mget m k)) :=
  .of_run fun a w hg hs => by
    obtain ⟨es, c, h1, h2⟩ := (hs.mem hm : MapIB b m w)
    have hf := findNow_eq (kk := .i64) k m es.toList 0 h2
    have hkey : IsKey (.int .i64) (.int .i64 k) := by simp [IsKey]
    have hzr := zeroVal_run hz0 w
    have hfk := MapKept.run_findKey (P := P) (w := w) hkt hf
    have hg2 := mget_find m k 0
    cases hm' : mfind m k 0 with
    | none =>
      rw [hm'] at hfk hg2
      simp [execOp, hg.ev hx, hg.ev hy, Instr.lookup, run_underlying hu, MapKept.run_getObj_map h1, MapKept.run_checkKey hkt hkey, hfk, hzr, Result.andThen, hg2]
    | some q =>
      obtain ⟨j, u⟩ := q
      obtain ⟨_, b', _, _, rfl, _⟩ := mfind_some (v := true) m k 0 j u hm'
      rw [hm'] at hfk hg2
      simp [execOp, hg.ev hx, hg.ev hy, Instr.lookup, run_underlying hu, MapKept.run_getObj_map h1, MapKept.run_checkKey hkt hkey, hfk, Result.andThen, hg2]
theorem OpH.mapUpdate {t kt e : TypeId} {x y z : Operand} {b : Nat} {m : List (Int × Bool)} {k : Int} {v : Bool} (hx : ev E x = some (.map (some b))) (hy : ev E y = some (.int .i64 k)) (hz : ev E z = some (.bool v)) (hu : P.underlying t = some (.map kt e)) (hkt : P.underlying kt = some (.int .i64)) 
    (hk : K undef (F ++ Chunk.mapc b (mset m k v) :: C)) : OpH P w0 (F ++ Chunk.mapc b m :: C) E ⟨d, .mapUpdate t x y z, ty, pos, af, g⟩ K :=
  .of_run0 fun a w hg hs => by
    obtain ⟨es, c, h1, h2⟩ := ((hs.own (Chunk.mapc b m) (by simp)).1 : MapIB b m w)
    have hf := findNow_eq (kk := .i64) k m es.toList 0 h2
    have hkey : IsKey (.int .i64) (.int .i64 k) := by simp [IsKey]
    have hfk := MapKept.run_findKey (P := P) (w := w) hkt hf
    have fin : ∀ (es' : Array MapEntry) (c' : Nat), es'.toList.map (fun e => (e.key, e.val)) = (mset m k v).map mkv → ∀ w', (setObj b (.map es' c')).run P w = .ok () w' → St w0 (F ++ Chunk.mapc b (mset m k v) :: C) w' := fun es' c' he w' hr => by
      rw [MapKept.run_setObj_map _ h1] at hr
      cases hr
      exact hs.set (c := Chunk.mapc b m) (c' := Chunk.mapc b (mset m k v)) rfl ⟨es', c', (MapKept.heap_set h1).1, he⟩ (fun b' hb' => (MapKept.heap_set h1).2 b' (by simpa [Chunk.mapc, Chunk.fp] using hb')) (by simp) rfl rfl rfl
    cases hm' : mfind m k 0 with
    | none =>
      rw [hm'] at hfk
      have he : (es.push { key := Value.int .i64 k, val := Value.bool v, born := c }).toList.map (fun e => (e.key, e.val)) = (mset m k v).map mkv := by
        rw [mfind_none (v := v) m k 0 hm']
        simp [h2, mkv]
      refine ⟨_, _, ?_, fin _ (c + 1) he _ (MapKept.run_setObj_map _ h1), hk⟩
      simp [execOp, hg.ev hx, hg.ev hy, hg.ev hz, Instr.mapUpdate, run_underlying hu, MapKept.run_getObj_map h1, MapKept.run_checkKey hkt hkey, hfk, MapKept.run_setObj_map _ h1, Result.andThen]
    | some q =>
      obtain ⟨j, u⟩ := q
      obtain ⟨n', b', hj, hn, rfl, hset⟩ := mfind_some (v := v) m k 0 j u hm'
      rw [Nat.zero_add] at hj
      subst hj
      rw [hm'] at hfk
      have hen : ∃ e, es[j]? = some e ∧ e.key = .int .i64 k := by
        have := congrArg (fun l => l[j]?) h2
        simp only [List.getElem?_map, hn, Option.map_some] at this
        cases hee : es.toList[j]? with
        | none => rw [hee] at this; cases this
        | some e =>
          rw [hee] at this
          simp only [Option.map_some, Option.some.injEq, mkv, Prod.mk.injEq] at this
          exact ⟨e, by simpa using hee, this.1⟩
      obtain ⟨e0, he0, hek⟩ := hen
      have he : ∀ f : MapEntry → MapEntry, (∀ e, (f e).key = .int .i64 k ∧ (f e).val = .bool v) → (es.modify j f).toList.map (fun e => (e.key, e.val)) = (mset m k v).map mkv := fun f hfe => by
        rw [hset]
        apply List.ext_getElem?
        intro q
        have hq := congrArg (fun l => l[q]?) h2
        simp only [List.getElem?_map] at hq
        simp only [List.getElem?_map, Array.toList_modify, List.getElem?_modify, List.getElem?_set]
        by_cases hjq : j = q
        · subst hjq
          rw [if_pos rfl, if_pos (List.getElem?_eq_some_iff.1 hn).1]
          cases hee : es.toList[j]? with
          | none => rw [hee] at hq; rw [hn] at hq; cases hq
          | some e => simp [hfe e, mkv]
        · rw [if_neg hjq]
          cases hee : es.toList[q]? with
          | none => rw [hee] at hq; simpa [hjq] using hq
          | some e => rw [hee] at hq; simpa [hjq] using hq
      refine ⟨_, _, ?_, fin (es.modify j fun e => { e with key := Value.int .i64 k, val := Value.bool v }) c (he _ fun _ => ⟨rfl, rfl⟩) _ (MapKept.run_setObj_map _ h1), hk⟩
      simp [execOp, hg.ev hx, hg.ev hy, hg.ev hz, Instr.mapUpdate, run_underlying hu, MapKept.run_getObj_map h1, MapKept.run_checkKey hkt hkey, hfk, he0, hek, MapKept.run_keyThatStays hkey, MapKept.run_setObj_map _ h1, Result.andThen]
end
end K
end Go.Proofs.Ytbdpbboonilhhaa
