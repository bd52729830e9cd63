/- Calls that turn memory of the caller's own, and the little lists that the laws write into it and read again. -/
import Derived.Test.YtmhalmnbgkpmnaaGreatData
namespace Go.Proofs.YtmhalmnbgkpmnaaGreat
open Go.RowKit
namespace K

section
variable {P : Program} {fn : Func} {c : Code} {n : Nat} {E : Env} {R : Ending → World → Prop} {F F' : List Chunk} {w0 : World} {Q : Exit → Act → World → Prop} {ops : Array Oper} {d : Option Tmp} {ty : TypeId} {pos : String} {af : Array Edge} {g : Option (Nat × Bool)} {K : Value → List Chunk → Prop}
theorem enterF {f : FuncId} {vs : List Value} {w : World} (hs : St w0 F w) (hf : P.funcs[f]? = some fn) (hb : fn.body = some c) (hn : fn.ntmps = n) (hl : Nat.ble vs.length n = true) (hE : argEnv 0 vs = E) (h : WC P n w0 c (bodyPost P fn R) E F) : Calls P f vs.toArray w R := by
  have hl' : vs.length ≤ n := Nat.le_of_ble_eq_true hl
  refine calls_of_wp hf hb (h _ w ⟨?_, rfl, fun t v ht => ?_⟩ hs)
  · simp [hn]; omega
  · subst hE
    obtain ⟨_, h2⟩ := argEnv_get vs 0 t v ht
    simp only [Nat.sub_zero] at h2
    have h3 : t < vs.length := (List.getElem?_eq_some_iff.1 h2).1
    rw [Array.getD_eq_getD_getElem?, Array.getElem?_append_left (by simpa using h3)]
    simp [h2]
theorem WL.wkF {l : List Oper} (hF : ∀ w, St w0 F w → St w0 F' w) (h : WL P n w0 ops Q l E F') : WL P n w0 ops Q l E F := fun a w ha hs => h a w ha (hF w hs)
theorem WC.wkF (hF : ∀ w, St w0 F w → St w0 F' w) (h : WC P n w0 c Q E F') : WC P n w0 c Q E F := fun a w ha hs => h a w ha (hF w hs)
theorem OpH.wkF {o : Oper} (hF : ∀ w, St w0 F w → St w0 F' w) (h : OpH P w0 F' E o K) : OpH P w0 F E o K := fun a w hg hs => h a w hg (hF w hs)
theorem OpH.callM {f : FuncId} {xs : Array Operand} {tys : Array TypeId} {vs : List Value} {v : Value} (hxs : evs E xs.toList vs) (hf : callable P f = true)
    (hc : ∀ w, St w0 F w → Calls P f vs.toArray w fun en w' => en = .returned v ∧ St w0 F' w') (hk : K v F') :
    OpH P w0 F E ⟨d, .call ⟨.value (.func f), xs, tys⟩, ty, pos, af, g⟩ K := .call hxs hf fun w hs => (hc w hs).mono fun _ _ ⟨he, hst⟩ => ⟨v, F', he, hk, hst⟩
theorem OpH.callX {f : FuncId} {xs : Array Operand} {tys : Array TypeId} {vs : List Value} {R : Value → List Chunk → Prop} (hxs : evs E xs.toList vs) (hf : callable P f = true)
    (hc : ∀ w, St w0 F w → Calls P f vs.toArray w fun en w' => ∃ rv G, en = .returned rv ∧ R rv G ∧ St w0 G w') (hk : ∀ rv G, R rv G → K rv G) :
    OpH P w0 F E ⟨d, .call ⟨.value (.func f), xs, tys⟩, ty, pos, af, g⟩ K := .call hxs hf fun w hs => (hc w hs).mono fun _ _ ⟨rv, G, he, hr, hst⟩ => ⟨rv, G, he, hk _ _ hr, hst⟩
theorem OpH.storeTo {A C : List Chunk} {t : TypeId} {x y : Operand} {b k : Nat} {T : TypeId} {l vs : List Value} {v : Value} (l' : List Value) (hx : ev E x = some (.pointer (some ⟨b, k, none⟩))) (hy : ev E y = some v) (hvs : v.cells = vs.toArray)
    (ht : tySize P t = some vs.length) (hl : Nat.ble (k + vs.length) l.length = true) (hone : vs.all Value.oneCell' = true) (he : lset l k vs = l')
    (hk : K undef (A ++ Chunk.box b T l' :: C)) : OpH P w0 (A ++ Chunk.box b T l :: C) E ⟨d, .store t x y, ty, pos, af, g⟩ K := by
  subst he
  exact OpH.store hx hy hvs ht hl hone hk
theorem St.nilRow {T k : Nat} {w : World} (h : St w0 F w) : St w0 (Chunk.row T k .none 0 0 [] :: F) w :=
  h.add (Ext.refl w) _ ⟨by simp, .inl ⟨rfl, rfl, rfl⟩⟩ (by simp [Chunk.row, Chunk.fp, blk]) (by simp [Chunk.row, Chunk.fp, blk])
end

def cnt (v : Int) : Nat → Int
  | 0 => v
  | k + 1 => IntKind.i64.wrap (cnt v k + 1)
theorem cnt_I64 (v : Int) (h : I64 v) : ∀ k, I64 (cnt v k)
  | 0 => h
  | k + 1 => by
    rw [cnt, IntKind.wrap_i64]; constructor <;> omega
theorem cnt_eq (v : Int) (h0 : 0 ≤ v) : ∀ k : Nat, v + k ≤ 9223372036854775807 → cnt v k = v + k
  | 0, _ => by simp [cnt]
  | k + 1, h => by
    have h1 := cnt_eq v h0 k (by omega)
    rw [cnt, h1, I64.wrap ⟨by omega, by omega⟩]; omega
def marked (v : Int) (n : Nat) : List Int := (List.range n).map (cnt v)
theorem marked_length (v : Int) (n : Nat) : (marked v n).length = n := by simp [marked]
theorem marked_at (v : Int) (n k : Nat) (h : k < n) : (marked v n)[k]? = some (cnt v k) := by simp [marked, h]
theorem marked_rng {v : Int} (h : I64 v) (n : Nat) : ∀ x ∈ marked v n, I64 x := fun x hx => by
  obtain ⟨k, _, rfl⟩ := List.mem_map.1 hx
  exact cnt_I64 v h k
theorem marked_succ (v : Int) (k : Nat) : marked v (k + 1) = marked v k ++ [cnt v k] := by simp [marked, List.range_succ]
def marking (f : Int → Value) (v : Int) (vs : List Value) (k : Nat) : List Value := (marked v k).map f ++ vs.drop k
theorem marking_zero (f : Int → Value) (v : Int) (vs : List Value) : marking f v vs 0 = vs := by simp [marking, marked]
theorem marking_all (f : Int → Value) (v : Int) (vs : List Value) : marking f v vs vs.length = (marked v vs.length).map f := by simp [marking]
theorem marking_set (f : Int → Value) (v : Int) (vs : List Value) (k : Nat) (h : k < vs.length) : (marking f v vs k).set k (f (cnt v k)) = marking f v vs (k + 1) := by
  unfold marking
  have h1 : ((marked v k).map f).length = k := by simp [marked]
  rw [List.set_append_right _ _ (by omega), h1, Nat.sub_self, marked_succ, List.map_append, List.append_assoc]
  rw [List.drop_eq_getElem_cons h, List.set_cons_zero]
  rfl
def held (v : Int) (xs : List Int) : Int := if xs = marked v xs.length then cnt v xs.length else -1
theorem held_marked (v : Int) (n : Nat) : held v (marked v n) = cnt v n := by simp [held, marked_length]
theorem one_int {k : IntKind} {x : Int} : ∀ v ∈ [Value.int k x], v.oneCell' = true := fun v hv => by
  rcases List.mem_singleton.1 hv with rfl; rfl
theorem one_bool {x : Bool} : ∀ v ∈ [Value.bool x], v.oneCell' = true := fun v hv => by
  rcases List.mem_singleton.1 hv with rfl; rfl
end K
end Go.Proofs.YtmhalmnbgkpmnaaGreat
