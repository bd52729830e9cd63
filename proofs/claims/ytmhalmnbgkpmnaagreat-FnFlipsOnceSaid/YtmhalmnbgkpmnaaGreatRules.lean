/- The rules by which the printed walks go: operations, loops, calls. -/
import Derived.Test.YtmhalmnbgkpmnaaGreatTy
import Derived.LoopN
namespace Go.Proofs.YtmhalmnbgkpmnaaGreat
open Go.RowKit
namespace K

section
variable {P : Program} {w0 : World} {F : List Chunk} {E : Env} {d : Option Tmp} {ty : TypeId} {pos : String} {af : Array Edge} {g : Option (Nat × Bool)} {t t' : TypeId} {x y : Operand} {m n : Int}
theorem OpV.addR (hx : ev E x = some (.int .i64 m)) (hy : ev E y = some (.int .i64 n)) : OpV P w0 F E ⟨d, .binOp .add t x y t', ty, pos, af, g⟩ (.int .i64 (wr (m + n))) := .addW hx hy
theorem OpV.subR (hx : ev E x = some (.int .i64 m)) (hy : ev E y = some (.int .i64 n)) : OpV P w0 F E ⟨d, .binOp .sub t x y t', ty, pos, af, g⟩ (.int .i64 (wr (m - n))) := .subW hx hy
theorem OpV.mulR (hx : ev E x = some (.int .i64 m)) (hy : ev E y = some (.int .i64 n)) : OpV P w0 F E ⟨d, .binOp .mul t x y t', ty, pos, af, g⟩ (.int .i64 (wr (m * n))) := .mulW hx hy
theorem OpV.negR (hx : ev E x = some (.int .i64 m)) : OpV P w0 F E ⟨d, .unOp .neg t x, ty, pos, af, g⟩ (.int .i64 (wr (0 - m))) := .negW hx
theorem OpV.quoR {c : Int} (hx : ev E x = some (.int .i64 m)) (hy : ev E y = some (.int .i64 n)) (h : quoO m n = some c) : OpV P w0 F E ⟨d, .binOp .quo t x y t', ty, pos, af, g⟩ (.int .i64 c) := by
  obtain ⟨h1, rfl⟩ := quoO_some h
  exact .of_run fun a w hg _ => by simp [execOp, hg.ev hx, hg.ev hy, eqGuard_quo, binOp_quo, Op.intDiv, h1, wr]
theorem OpV.remR {c : Int} (hx : ev E x = some (.int .i64 m)) (hy : ev E y = some (.int .i64 n)) (h : remO m n = some c) : OpV P w0 F E ⟨d, .binOp .rem t x y t', ty, pos, af, g⟩ (.int .i64 c) := by
  obtain ⟨h1, rfl⟩ := remO_some h
  exact .remT hx hy h1
theorem OpV.shlR {c : Int} {k : IntKind} (hx : ev E x = some (.int .i64 m)) (hy : ev E y = some (.int k n)) (h : shlO m n = some c) : OpV P w0 F E ⟨d, .binOp .shl t x y t', ty, pos, af, g⟩ (.int .i64 c) := by
  obtain ⟨h1, rfl⟩ := shlO_some h
  exact .shl hx hy h1
theorem OpV.shrR {c : Int} {k : IntKind} (hx : ev E x = some (.int .i64 m)) (hy : ev E y = some (.int k n)) (h : shrO m n = some c) : OpV P w0 F E ⟨d, .binOp .shr t x y t', ty, pos, af, g⟩ (.int .i64 c) := by
  obtain ⟨h1, rfl⟩ := shrO_some h
  exact .shr hx hy h1
theorem OpV.andR (hx : ev E x = some (.int .i64 m)) (hy : ev E y = some (.int .i64 n)) : OpV P w0 F E ⟨d, .binOp .and t x y t', ty, pos, af, g⟩ (.int .i64 (and64 m n)) :=
  .of_run fun a w hg _ => by simp only [execOp, hg.ev hx, hg.ev hy]; rfl
theorem OpV.orR (hx : ev E x = some (.int .i64 m)) (hy : ev E y = some (.int .i64 n)) : OpV P w0 F E ⟨d, .binOp .or t x y t', ty, pos, af, g⟩ (.int .i64 (or64 m n)) :=
  .of_run fun a w hg _ => by simp only [execOp, hg.ev hx, hg.ev hy]; rfl
theorem OpV.xorR (hx : ev E x = some (.int .i64 m)) (hy : ev E y = some (.int .i64 n)) : OpV P w0 F E ⟨d, .binOp .xor t x y t', ty, pos, af, g⟩ (.int .i64 (xor64 m n)) :=
  .of_run fun a w hg _ => by simp only [execOp, hg.ev hx, hg.ev hy]; rfl
theorem OpV.andNotR (hx : ev E x = some (.int .i64 m)) (hy : ev E y = some (.int .i64 n)) : OpV P w0 F E ⟨d, .binOp .andNot t x y t', ty, pos, af, g⟩ (.int .i64 (andn64 m n)) :=
  .of_run fun a w hg _ => by simp only [execOp, hg.ev hx, hg.ev hy]; rfl
theorem OpV.xor8R (hx : ev E x = some (.int .u8 m)) (hy : ev E y = some (.int .u8 n)) : OpV P w0 F E ⟨d, .binOp .xor t x y t', ty, pos, af, g⟩ (.int .u8 (xor8 m n)) :=
  .of_run fun a w hg _ => by simp only [execOp, hg.ev hx, hg.ev hy]; rfl
theorem OpV.convR {k : IntKind} (hx : ev E x = some (.int k n)) (hs : (P.underlying t).isSome = true) (hd : P.underlying t' = some (.int .i64)) : OpV P w0 F E ⟨d, .convert t t' x, ty, pos, af, g⟩ (.int .i64 (wr n)) := .conv hx hs hd
theorem OpV.conv8R {k : IntKind} (hx : ev E x = some (.int k n)) (hs : (P.underlying t).isSome = true) (hd : P.underlying t' = some (.int .u8)) : OpV P w0 F E ⟨d, .convert t t' x, ty, pos, af, g⟩ (.int .u8 (b8 n)) := .conv hx hs hd
theorem OpV.convU {k : IntKind} (hx : ev E x = some (.int k n)) (hs : (P.underlying t).isSome = true) (hd : P.underlying t' = some (.int .u64)) : OpV P w0 F E ⟨d, .convert t t' x, ty, pos, af, g⟩ (.int .u64 (u64w n)) := .conv hx hs hd
theorem OpV.shrU {c : Int} {k : IntKind} (hx : ev E x = some (.int .u64 m)) (hy : ev E y = some (.int k n)) (h : shrO m n = some c) : OpV P w0 F E ⟨d, .binOp .shr t x y t', ty, pos, af, g⟩ (.int .u64 c) := by
  obtain ⟨h1, rfl⟩ := shrO_some h
  exact .shr hx hy h1
theorem OpV.sidxR {s : ByteArray} {c : Int} (hx : ev E x = some (.string s)) (hy : ev E y = some (.int .i64 n)) (ht : P.underlying t = some .string) (h : sidx s n = some c) : OpV P w0 F E ⟨d, .index t x y, ty, pos, af, g⟩ (.int .u8 c) := by
  obtain ⟨⟨h0, h1⟩, rfl⟩ := sidx_some h
  exact .indexS hx hy ht h0 h1
theorem OpV.idxA {a : Option Addr} {b o l c s : Nat} {i : Int} (hx : ev E x = some (.slice a l c)) (hy : ev E y = some (.int .i64 i)) (ht : sliceElem P t = some s) (ha : a = some ⟨b, o, .none⟩) (h : 0 ≤ i ∧ i < l) :
    OpV P w0 F E ⟨d, .indexAddr t x y, ty, pos, af, g⟩ (.pointer (some ⟨b, o + i.toNat * s, .none⟩)) := by
  subst ha
  exact .idx hx hy ht h.1 h.2
def subA (a : Option Addr) (c lo s : Nat) : Option Addr := if c = lo then a else a.map (·.add (lo * s))
theorem OpV.subLH {α : Type} {xs ys : List α} {a : Option Addr} {l c s : Nat} {lo hi : Int} {kx : Operand} (hl : l = xs.length) (hk : ev E kx = some (.slice a l c)) (hx : ev E x = some (.int .i64 lo)) (hy : ev E y = some (.int .i64 hi)) (ht : sliceElem P t = some s) (hc : xs.length ≤ c) (h : subO xs lo hi = some ys) :
    OpV P w0 F E ⟨d, .slice t kx (some x) (some y) .none, ty, pos, af, g⟩ (.slice (subA a c lo.toNat s) ys.length (c - lo.toNat)) :=
  .of_run fun ac w hg _ => by
    subst hl
    obtain ⟨⟨h0, h1, h2⟩, rfl⟩ := subO_some h
    unfold sliceElem at ht
    split at ht
    · rename_i e hu
      obtain ⟨j, hj, rfl⟩ := Option.map_eq_some_iff.1 ht
      have e1 : 0 ≤ hi ∧ hi ≤ (c : Int) := ⟨by omega, by omega⟩
      have e4 : min hi.toNat xs.length = hi.toNat := by omega
      have e5 : max hi 0 = hi := by omega
      simp [execOp, hg.ev hx, hg.ev hy, hg.ev hk, Instr.sliceAt, Instr.slice, Instr.sliceBounds, Instr.sliceBound, asIntOf, run_underlying hu, e1, h0, h1, e5, sizeOf, typeInfo, hj, subA, e4]
    · cases ht
theorem OpV.subL {α : Type} {xs ys : List α} {a : Option Addr} {l c s : Nat} {lo : Int} {kx : Operand} (hl : l = xs.length) (hk : ev E kx = some (.slice a l c)) (hx : ev E x = some (.int .i64 lo)) (ht : sliceElem P t = some s) (h : subO xs lo xs.length = some ys) :
    OpV P w0 F E ⟨d, .slice t kx (some x) .none .none, ty, pos, af, g⟩ (.slice (subA a c lo.toNat s) ys.length (c - lo.toNat)) :=
  .of_run fun ac w hg _ => by
    subst hl
    obtain ⟨⟨h0, h1, h2⟩, rfl⟩ := subO_some h
    unfold sliceElem at ht
    split at ht
    · rename_i e hu
      obtain ⟨j, hj, rfl⟩ := Option.map_eq_some_iff.1 ht
      have e2 : 0 ≤ lo ∧ lo ≤ (xs.length : Int) := ⟨h0, by omega⟩
      simp [execOp, hg.ev hx, hg.ev hk, Instr.sliceAt, Instr.slice, Instr.sliceBounds, Instr.sliceBound, asIntOf, run_underlying hu, e2, sizeOf, typeInfo, hj, subA]
    · cases ht
theorem OpV.subH {α : Type} {xs ys : List α} {a : Option Addr} {l c s : Nat} {hi : Int} {kx : Operand} (hl : l = xs.length) (hk : ev E kx = some (.slice a l c)) (hy : ev E y = some (.int .i64 hi)) (ht : sliceElem P t = some s) (hc : xs.length ≤ c) (h : subO xs 0 hi = some ys) :
    OpV P w0 F E ⟨d, .slice t kx .none (some y) .none, ty, pos, af, g⟩ (.slice (subA a c 0 s) ys.length c) :=
  .of_run fun ac w hg _ => by
    subst hl
    obtain ⟨⟨h0, h1, h2⟩, rfl⟩ := subO_some h
    unfold sliceElem at ht
    split at ht
    · rename_i e hu
      obtain ⟨j, hj, rfl⟩ := Option.map_eq_some_iff.1 ht
      have e1 : 0 ≤ hi ∧ hi ≤ (c : Int) := ⟨by omega, by omega⟩
      have e4 : min hi.toNat xs.length = hi.toNat := by omega
      simp [execOp, hg.ev hy, hg.ev hk, Instr.sliceAt, Instr.slice, Instr.sliceBounds, Instr.sliceBound, asIntOf, run_underlying hu, e1, sizeOf, typeInfo, hj, subA, e4]
    · cases ht
theorem Rd.sub {α : Type} {A : Ty α} {w : World} {a : Option Addr} {n c : Nat} {xs ys : List α} {lo hi : Int} (h : Rd A w a n c xs) (hs : subO xs lo hi = some ys) : Rd A w (subA a c lo.toNat A.k) ys.length (c - lo.toNat) ys := by
  obtain ⟨⟨h0, h1, h2⟩, rfl⟩ := subO_some hs
  refine ⟨rfl, ⟨by have := h.2.1.1; simp; omega, by have := h.2.1.2; omega⟩, fun i x hx => ?_⟩
  rw [List.getElem?_drop, List.getElem?_take] at hx
  split at hx
  · obtain ⟨b, o, cs, e, hr, hc⟩ := h.2.2 _ _ hx
    have hlt := (List.getElem?_eq_some_iff.1 hx).1
    subst e
    have hne : ¬ c = lo.toNat := by have := h.2.1.1; omega
    refine ⟨b, o + lo.toNat * A.k, cs, by simp [subA, hne, Addr.add_lit], hr, fun j v hj => ?_⟩
    have := hc j v hj
    rwa [Nat.add_mul, ← Nat.add_assoc] at this
  · cases hx
theorem OpV.ssubLH {s u : ByteArray} {lo hi : Int} {kx : Operand} (hk : ev E kx = some (.string s)) (hx : ev E x = some (.int .i64 lo)) (hy : ev E y = some (.int .i64 hi)) (ht : P.underlying t = some .string) (h : ssub s lo hi = some u) :
    OpV P w0 F E ⟨d, .slice t kx (some x) (some y) .none, ty, pos, af, g⟩ (.string u) :=
  .of_run fun ac w hg _ => by
    obtain ⟨⟨h0, h1, h2⟩, rfl⟩ := ssub_some h
    have e1 : 0 ≤ hi ∧ hi ≤ (s.size : Int) := ⟨by omega, by omega⟩
    have e5 : max hi 0 = hi := by omega
    simp [execOp, hg.ev hx, hg.ev hy, hg.ev hk, Instr.sliceAt, Instr.slice, Instr.sliceBounds, Instr.sliceBound, asIntOf, run_underlying ht, e1, h0, h1, e5]
theorem OpV.ssubL {s u : ByteArray} {lo : Int} {kx : Operand} (hk : ev E kx = some (.string s)) (hx : ev E x = some (.int .i64 lo)) (ht : P.underlying t = some .string) (h : ssub s lo s.size = some u) :
    OpV P w0 F E ⟨d, .slice t kx (some x) .none .none, ty, pos, af, g⟩ (.string u) :=
  .of_run fun ac w hg _ => by
    obtain ⟨⟨h0, h1, h2⟩, rfl⟩ := ssub_some h
    have e2 : 0 ≤ lo ∧ lo ≤ (s.size : Int) := ⟨h0, by omega⟩
    simp [execOp, hg.ev hx, hg.ev hk, Instr.sliceAt, Instr.slice, Instr.sliceBounds, Instr.sliceBound, asIntOf, run_underlying ht, e2]
theorem OpV.ssubH {s u : ByteArray} {hi : Int} {kx : Operand} (hk : ev E kx = some (.string s)) (hy : ev E y = some (.int .i64 hi)) (ht : P.underlying t = some .string) (h : ssub s 0 hi = some u) :
    OpV P w0 F E ⟨d, .slice t kx .none (some y) .none, ty, pos, af, g⟩ (.string u) :=
  .of_run fun ac w hg _ => by
    obtain ⟨⟨h0, h1, h2⟩, rfl⟩ := ssub_some h
    have e1 : 0 ≤ hi ∧ hi ≤ (s.size : Int) := ⟨by omega, by omega⟩
    simp [execOp, hg.ev hy, hg.ev hk, Instr.sliceAt, Instr.slice, Instr.sliceBounds, Instr.sliceBound, asIntOf, run_underlying ht, e1]
theorem OpV.sappR {s u v : ByteArray} (hx : ev E x = some (.string s)) (hy : ev E y = some (.string u)) (h : sapp s u = some v) : OpV P w0 F E ⟨d, .binOp .add t x y t', ty, pos, af, g⟩ (.string v) := by
  obtain ⟨h1, rfl⟩ := sapp_some h
  exact .of_run fun a w hg _ => by
    simp [execOp, hg.ev hx, hg.ev hy, eqGuard_add, Go.binOp, run_string_add_sum (P := P) w s u (by omega)]
theorem bytes_beq (p q : ByteArray) : (p.toList == q.toList) = decide (p = q) := by
  by_cases h : p = q
  · simp [h]
  · have : ¬ p.toList = q.toList := fun e => h (Go.WideShapes.bytes_inj (by rw [← ByteArray.toList_eq, ← ByteArray.toList_eq]; exact e))
    simp [h, this]
theorem OpV.seqlR {p q : ByteArray} (hx : ev E x = some (.string p)) (hy : ev E y = some (.string q)) : OpV P w0 F E ⟨d, .binOp .eql t x y t', ty, pos, af, g⟩ (.bool (decide (p = q))) := by
  rw [← bytes_beq]; exact .seql hx hy
theorem OpV.sneqR {p q : ByteArray} (hx : ev E x = some (.string p)) (hy : ev E y = some (.string q)) : OpV P w0 F E ⟨d, .binOp .neq t x y t', ty, pos, af, g⟩ (.bool (!decide (p = q))) := by
  rw [← bytes_beq]; exact .sneq hx hy
theorem OpV.bq {o : Oper} {b b' : Bool} (h : OpV P w0 F E o (.bool b')) (e : b' = b) : OpV P w0 F E o (.bool b) := e ▸ h
theorem OpV.iq {o : Oper} {k : IntKind} {n m : Int} (h : OpV P w0 F E o (.int k m)) (e : m = n) : OpV P w0 F E o (.int k n) := e ▸ h
theorem OpV.aeql {xs ys : Array Value} {b : Bool} (hx : ev E x = some (.agg xs)) (hy : ev E y = some (.agg ys)) (hg : P.eqGuardType P.depth t = false) (he : ∀ w, (Op.equalIn 10000 t (.agg xs) (.agg ys)).run P w = .ok b w) : OpV P w0 F E ⟨d, .binOp .eql t x y t', ty, pos, af, g⟩ (.bool b) :=
  .of_run fun a w hg' _ => by simp [execOp, hg'.ev hx, hg'.ev hy, run_eqGuard_agg w .eql t x y xs ys hg, run_eql_struct, he]
theorem OpV.aneq {xs ys : Array Value} {b : Bool} (hx : ev E x = some (.agg xs)) (hy : ev E y = some (.agg ys)) (hg : P.eqGuardType P.depth t = false) (he : ∀ w, (Op.equalIn 10000 t (.agg xs) (.agg ys)).run P w = .ok b w) : OpV P w0 F E ⟨d, .binOp .neq t x y t', ty, pos, af, g⟩ (.bool (!b)) :=
  .of_run fun a w hg' _ => by simp [execOp, hg'.ev hx, hg'.ev hy, run_eqGuard_agg w .neq t x y xs ys hg, run_neq_struct, he]
end

section
variable {P : Program} {n : Nat} {w0 : World} {ops : Array Oper} {Q : Exit → Act → World → Prop} {F : List Chunk} {o : Oper} {rest : List Oper} {E : Env} {v : Value} {d : Nat}
theorem sp (hv : OpV P w0 F E o v) (h : WL P n w0 ops Q rest ((d, v) :: E) F) (hd : o.dst = some d := by exact rfl) (hn : Nat.blt d n = true := by exact rfl) (hw : wantE ops o.guard E = some true := by exact rfl) : WL P n w0 ops Q (o :: rest) E F := Lt.ofWL.step hd hn hw hv h
theorem WL.mid {l : List Oper} (k : Nat) {E' : Env} {F' : List Chunk} (h : WL P n w0 ops Q (l.drop k) E' F' → WL P n w0 ops Q l E F) (K : WL P n w0 ops Q (l.drop k) E' F') : WL P n w0 ops Q l E F := h K
theorem WL.wk {l : List Oper} {E' : Env} {F' : List Chunk} (hE : Sub E' E) (hF : ∀ w, St w0 F w → St w0 F' w) (h : WL P n w0 ops Q l E' F') : WL P n w0 ops Q l E F := fun a w ha hs => h a w (ha.sub hE) (hF w hs)
theorem WL.split {l : List Oper} {t : Nat} {A : Bool} (hA : Env.get E t = some (.bool A)) (hT : A = true → WL P n w0 ops Q l ((t, .bool true) :: E) F) (hF : A = false → WL P n w0 ops Q l ((t, .bool false) :: E) F) : WL P n w0 ops Q l E F := fun a w ha hs => by
  cases A with
  | true => exact hT rfl a w (ha.sub (Sub.cons hA (Sub.refl E))) hs
  | false => exact hF rfl a w (ha.sub (Sub.cons hA (Sub.refl E))) hs
theorem sk (h : WL P n w0 ops Q rest ((d, undef) :: E) F) (hd : o.dst = some d := by exact rfl) (hn : Nat.blt d n = true := by exact rfl) (hw : wantE ops o.guard E = some false := by exact rfl) : WL P n w0 ops Q (o :: rest) E F := Lt.ofWL.skip hd hn hw h
end

def CallsV (P : Program) (fv : Value) (vs : List Value) (w : World) (Q : Ending → World → Prop) : Prop := ∃ f first cap, fv = .func (.func f) first cap ∧ callable P f = true ∧ Calls P f (first ++ vs.toArray ++ cap) w Q
theorem CallsV.of {P : Program} {f : FuncId} {vs : List Value} {w : World} {Q : Ending → World → Prop} (hf : callable P f = true) (h : Calls P f vs.toArray w Q) : CallsV P (.func (.func f) #[] #[]) vs w Q :=
  ⟨f, #[], #[], rfl, hf, by simpa using h⟩
theorem CallsV.cap {P : Program} {f : FuncId} {vs cs : List Value} {w : World} {Q : Ending → World → Prop} (hf : callable P f = true) (h : Calls P f (vs ++ cs).toArray w Q) : CallsV P (.func (.func f) #[] cs.toArray) vs w Q :=
  ⟨f, #[], cs.toArray, rfl, hf, by simpa using h⟩
section
variable {P : Program} {w0 : World} {F : List Chunk} {E : Env} {d : Option Tmp} {ty : TypeId} {pos : String} {af : Array Edge} {g : Option (Nat × Bool)}
theorem OpV.callV {x : Operand} {xs : Array Operand} {tys : Array TypeId} {fv v : Value} {vs : List Value} (hx : ev E x = some fv) (hxs : evs E xs.toList vs) (hc : ∀ w, St w0 F w → CallsV P fv vs w fun e w' => e = .returned v ∧ Ext w w') :
    OpV P w0 F E ⟨d, .call ⟨.value x, xs, tys⟩, ty, pos, af, g⟩ v := fun a w hg hs => by
  obtain ⟨f, first, cap, e, hf, hcall⟩ := hc w hs
  subst e
  unfold Oper.quietAt
  have h1 : xs.map a.eval = vs.toArray := by
    apply Array.toList_inj.1
    rw [Array.toList_map, hg.evs xs.toList hxs]
  have hr : (execOp a.eval ⟨d, .call ⟨.value x, xs, tys⟩, ty, pos, af, g⟩).run P w = .ok (.enter f (first ++ vs.toArray ++ cap)) w := by
    simp [execOp, resolve, Deferred.ofValue, invoke, hg.ev hx, h1, run_callFunc hf]
  rw [hr]
  exact ⟨rfl, hcall⟩
end

section
variable {P : Program} {n : Nat} {w0 : World} {c : Code} {Q : Exit → Act → World → Prop} {E : Env} {F : List Chunk}
theorem WC.inh (h : (∃ w, St w0 F w) → WC P n w0 c Q E F) : WC P n w0 c Q E F := fun a w ha hs => h ⟨w, hs⟩ a w ha hs
theorem WL.inh {ops : Array Oper} {l : List Oper} (h : (∃ w, St w0 F w) → WL P n w0 ops Q l E F) : WL P n w0 ops Q l E F := fun a w ha hs => h ⟨w, hs⟩ a w ha hs
theorem En.inh {e : Exit} (h : (∃ w, St w0 F w) → En n w0 Q e E F) : En n w0 Q e E F := fun a w ha hs => h ⟨w, hs⟩ a w ha hs
theorem WC.rebase (h : ∀ w1, Ext w0 w1 → St w0 F w1 → WC P n w1 c Q E []) : WC P n w0 c Q E F := fun a w ha hs => h w hs.below hs a w ha (St.start w)
theorem WC.cut {X : Type} (e : Exit) (Pre : X → Prop) (E' : X → Env) (F' : X → List Chunk) (K : ∀ x, Pre x → En n w0 Q e (E' x) (F' x)) (h : (∀ x, Pre x → En n w0 Q e (E' x) (F' x)) → WC P n w0 c Q E F) : WC P n w0 c Q E F := h K
def NxP {S R G : Type} (n : Nat) (w0 : World) (f : S → Option (S ⊕ R)) (x : R) (EI : S → G → Env) (FI : S → G → List Chunk) (k : Nat) : Act → World → Prop :=
  Nx (τ := Nat × S × G) n w0 (fun t => EI t.2.1 t.2.2) (fun t => FI t.2.1 t.2.2) (fun t => iter f t.1 t.2.1 = some x) (fun t => t.1) k
theorem WC.loopP {S R G : Type} {f : S → Option (S ⊕ R)} {x : R} (EI : S → G → Env) (FI : S → G → List Chunk) (s0 : S) (g0 : G) (hx : loopO f s0 = some x) (hE : Sub (EI s0 g0) E) (hF : ∀ w, St w0 F w → St w0 (FI s0 g0) w)
    (h : ∀ (m : Nat) (s : S) (g : G) (o : S ⊕ R), f s = some o → (∀ s', o = .inl s' → ∃ k, k < m ∧ iter f k s' = some x) → (∀ r, o = .inr r → r = x) → WC P n w0 c (Exit.then (NxP n w0 f x EI FI m) Q) (EI s g) (FI s g)) : WC P n w0 (.loop c) Q E F := by
  obtain ⟨k, hk⟩ := loopO_iff.1 hx
  refine WC.loop (τ := Nat × S × G) (fun t => EI t.2.1 t.2.2) (fun t => FI t.2.1 t.2.2) (fun t => iter f t.1 t.2.1 = some x) (fun t => t.1) (k, s0, g0) hk hE hF ?_
  rintro ⟨m, s, g⟩ hP
  cases m with
  | zero => cases hP
  | succ m =>
    simp only [iter] at hP
    cases hf : f s with
    | none => rw [hf] at hP; cases hP
    | some o =>
      rw [hf] at hP
      refine h (m + 1) s g o hf (fun s' e => ?_) (fun r e => ?_)
      · subst e; exact ⟨m, Nat.lt_succ_self _, hP⟩
      · subst e; exact Option.some.inj hP
theorem En.backP {S R G : Type} {f : S → Option (S ⊕ R)} {x : R} {EI : S → G → Env} {FI : S → G → List Chunk} {m : Nat} {o : S ⊕ R} {s' : S} (hb : ∀ s', o = .inl s' → ∃ k, k < m ∧ iter f k s' = some x) (h : some (.inl s') = some o) (g' : G)
    (hE : Sub (EI s' g') E) (hF : ∀ w, St w0 F w → St w0 (FI s' g') w) : En n w0 (Exit.then (NxP n w0 f x EI FI m) Q) .normal E F := by
  obtain ⟨k, hk, hi⟩ := hb s' (Option.some.inj h).symm
  exact En.round (τ := Nat × S × G) (k, s', g') hk hi hE hF
theorem exitP {S R : Type} {x r : R} {o : S ⊕ R} (he : ∀ r, o = .inr r → r = x) (h : some (.inr r) = some o) : r = x := he r (Option.some.inj h).symm

def RC (P : Program) (n : Nat) (w0 : World) (c : Code) (Q : Exit → Act → World → Prop) (k : Nat) (E : Env) (F : List Chunk) : Prop := ∀ a w, Ag n E a → St w0 F w → Code.rounds P c Q k a w
theorem WC.unroll (k : Nat) (h : RC P n w0 c Q k E F) : WC P n w0 (.loop c) Q E F := fun a w ha hs => wp_loop_rounds k (h a w ha hs)
theorem RC.succ {k : Nat} (h : WC P n w0 c (Exit.then (Code.rounds P c Q k) Q) E F) : RC P n w0 c Q (k + 1) E F := h
theorem En.again {k : Nat} (h : RC P n w0 c Q k E F) : En n w0 (Exit.then (Code.rounds P c Q k) Q) .normal E F := h

variable {ops : Array Oper} {W : List Oper → Env → Prop}
theorem Lt.andQ (hW : Lt P w0 F n ops W) (t d2 tb : Nat) {p : Oper} {rest l : List Oper} {A B : Bool} (hA : Env.get E t = some (.bool A)) (hq : A = false → B = false)
    (hT : A = true → (∀ E1, Env.get E1 tb = some (.bool B) → Sub ((t, .bool true) :: E) E1 → W (p :: rest) E1) → W l ((t, .bool true) :: E))
    (hF : A = false → (∀ E1, Sub ((t, .bool false) :: E) E1 → W (p :: rest) E1) → W l ((t, .bool false) :: E))
    (hp : p.op = .pick (.tmp t) (.tmp tb) (.const (.bool false))) (hpd : p.dst = some d2) (hpn : Nat.blt d2 n = true) (hpg : wantE ops p.guard E = some true)
    (hr : W rest ((d2, .bool B) :: E)) : W l E :=
  hW.and t d2 tb hA hT hF hp hpd hpn hpg (by
    have e : (A && B) = B := by cases hc : A with
      | true => rfl
      | false => rw [hq hc]; rfl
    rw [e]; exact hr)
theorem Lt.orQ (hW : Lt P w0 F n ops W) (t d2 tb : Nat) {p : Oper} {rest l : List Oper} {A B : Bool} (hA : Env.get E t = some (.bool A)) (hq : A = true → B = true)
    (hT : A = true → (∀ E1, Sub ((t, .bool true) :: E) E1 → W (p :: rest) E1) → W l ((t, .bool true) :: E))
    (hF : A = false → (∀ E1, Env.get E1 tb = some (.bool B) → Sub ((t, .bool false) :: E) E1 → W (p :: rest) E1) → W l ((t, .bool false) :: E))
    (hp : p.op = .pick (.tmp t) (.const (.bool true)) (.tmp tb)) (hpd : p.dst = some d2) (hpn : Nat.blt d2 n = true) (hpg : wantE ops p.guard E = some true)
    (hr : W rest ((d2, .bool B) :: E)) : W l E :=
  hW.or t d2 tb hA hT hF hp hpd hpn hpg (by
    have e : (A || B) = B := by cases hc : A with
      | true => rw [hq hc]; rfl
      | false => rfl
    rw [e]; exact hr)
end
def bring {α : Type} : Nat → List α → List α
  | 0, l => l
  | _ + 1, [] => []
  | n + 1, a :: l => match bring n l with
    | [] => [a]
    | b :: r => b :: a :: r
theorem bring_perm {α : Type} : ∀ (n : Nat) (l : List α), List.Perm l (bring n l)
  | 0, l => List.Perm.refl _
  | _ + 1, [] => List.Perm.refl _
  | n + 1, a :: l => by
    have ih := bring_perm n l
    unfold bring
    split
    · rename_i h; rw [h] at ih; rw [List.Perm.eq_nil ih]; 
    · rename_i b r h; rw [h] at ih; exact (List.Perm.cons a ih).trans (List.Perm.swap _ _ _)
theorem St.pm {w0 w : World} {F : List Chunk} (h : St w0 F w) (n : Nat) : St w0 (bring n F) w := h.perm (bring_perm n F)
theorem sc {E' E : Env} {k : Nat} {v : Value} (hs : Sub E' E) (h : Env.get E k = some v := by rfl) : Sub ((k, v) :: E') E := Sub.cons h hs
theorem sn {E : Env} : Sub [] E := Sub.nil E
section
variable {P : Program} {ops : Array Oper} {Q : Exit → Act → World → Prop} {n fuel : Nat} {w0 : World} {E : Env} {F0 H : List Chunk} {listed : List Bool}
theorem tk {d : Nat} {oi : Oper} {v : Value} (i : Nat) (hi : ops[i]? = some oi) (hv : OpV P w0 F0 E oi v) (h : WAE P n w0 ops Q F0 fuel (listed.set i true) ((d, v) :: E) H)
    (hs : Region.noSelect ops = true := by kernel_rfl) (hf : Region.free .any ops listed.toArray i = true := by kernel_rfl) (hr : (Region.ready .any ops listed.toArray).contains i = true := by kernel_rfl)
    (hd : oi.dst = some d := by exact rfl) (hn : Nat.blt d n = true := by exact rfl) (hw : wantE ops oi.guard E = some true := by exact rfl) : WAE P n w0 ops Q F0 (fuel + 1) listed E H := WAE.take hi hs hf hr hd hn hw hv h
end
section
variable {P : Program} {ops : Array Oper} {Q : Exit → Act → World → Prop} {n k fuel : Nat} {w0 : World} {E : Env} {F F0 H : List Chunk} {listed : List Bool} {rest : List Oper} {x : Operand} {v : Value} {ty : TypeId} {pos : String} {af : Array Edge} {g : Option (Nat × Bool)} {W : List Oper → Env → Prop} {o : Oper} {c y : Code}
theorem mv (h : WL P n w0 ops Q rest ((k, v) :: E) F) (hx : ev E x = some v := by exact rfl) (hn : Nat.blt k n = true := by exact rfl) (hw : wantE ops g E = some true := by exact rfl) : WL P n w0 ops Q (⟨some k, .move x, ty, pos, af, g⟩ :: rest) E F := sp (OpV.move hx) h rfl hn hw
theorem ag (h : WL P n w0 ops Q rest ((k, v) :: E) F) (hx : ev E x = some v := by exact rfl) (hn : Nat.blt k n = true := by exact rfl) (hw : wantE ops g E = some true := by exact rfl) : WL P n w0 ops Q (⟨some k, .assign x, ty, pos, af, g⟩ :: rest) E F := sp (OpV.assign hx) h rfl hn hw
theorem al1 {d : Nat} (i : Nat) (hi : ops[i]? = some o) (h : OpH P w0 (H ++ F0) E o (fun v F' => ∃ H', F' = H' ++ F0 ∧ WAE P n w0 ops Q F0 fuel (listed.set i true) ((d, v) :: E) H')) (hr : Region.ready .any ops listed.toArray = [i] := by kernel_rfl) (hd : o.dst = some d := by exact rfl) (hn : Nat.blt d n = true := by exact rfl) (hw : wantE ops o.guard E = some true := by exact rfl) : WAE P n w0 ops Q F0 (fuel + 1) listed E H := WAE.all hr rfl (AllR.cons hi hd hn hw h AllR.nil)
theorem al0 (i : Nat) (hi : ops[i]? = some o) (h : OpH P w0 (H ++ F0) E o (fun _ F' => ∃ H', F' = H' ++ F0 ∧ WAE P n w0 ops Q F0 fuel (listed.set i true) E H')) (hr : Region.ready .any ops listed.toArray = [i] := by kernel_rfl) (hd : o.dst = none := by exact rfl) (hw : wantE ops o.guard E = some true := by exact rfl) : WAE P n w0 ops Q F0 (fuel + 1) listed E H := WAE.all hr rfl (AllR.cons0 hi hd hw h AllR.nil)
theorem Lt.sp (hW : Lt P w0 F n ops W) (hv : OpV P w0 F E o v) (h : W rest ((k, v) :: E)) (hd : o.dst = some k := by exact rfl) (hn : Nat.blt k n = true := by exact rfl) (hw : wantE ops o.guard E = some true := by exact rfl) : W (o :: rest) E := hW.step hd hn hw hv h
theorem Lt.mv (hW : Lt P w0 F n ops W) (h : W rest ((k, v) :: E)) (hx : ev E x = some v := by exact rfl) (hn : Nat.blt k n = true := by exact rfl) (hw : wantE ops g E = some true := by exact rfl) : W (⟨some k, .move x, ty, pos, af, g⟩ :: rest) E := hW.step rfl hn hw (OpV.move hx) h
theorem Lt.sk (hW : Lt P w0 F n ops W) (h : W rest ((k, undef) :: E)) (hd : o.dst = some k := by exact rfl) (hn : Nat.blt k n = true := by exact rfl) (hw : wantE ops o.guard E = some false := by exact rfl) : W (o :: rest) E := hW.skip hd hn hw h
theorem WC.sr {id : Nat} {l : List Oper} (h : WL P n w0 l.toArray (Exit.then (fun a w => y.wp P Q a w) Q) l E F) : WC P n w0 (.seq (.region id l.toArray false) y) Q E F := WC.seq (WC.region h)
theorem ec {xs : List Operand} {r : List Value} (h : ev E x = some v) (hr : evs E xs r) : evs E (x :: xs) (v :: r) := evs.cons h hr
theorem e0 : evs E [] [] := rfl
end
theorem u10 {α : Type} {a0 a1 a2 a3 a4 a5 a6 a7 a8 a9 x : α} {l : List α} (h : x ∈ l) : x ∈ a0 :: a1 :: a2 :: a3 :: a4 :: a5 :: a6 :: a7 :: a8 :: a9 :: l := .tail _ (.tail _ (.tail _ (.tail _ (.tail _ (.tail _ (.tail _ (.tail _ (.tail _ (.tail _ h)))))))))
theorem mq0 {α : Type} {x : α} {l : List α} : x ∈ x :: l := .head _
theorem mq1 {α : Type} {a0 x : α} {l : List α} : x ∈ a0 :: x :: l := .tail _ mq0
theorem mq2 {α : Type} {a0 a1 x : α} {l : List α} : x ∈ a0 :: a1 :: x :: l := .tail _ mq1
theorem mq3 {α : Type} {a0 a1 a2 x : α} {l : List α} : x ∈ a0 :: a1 :: a2 :: x :: l := .tail _ mq2
theorem mq4 {α : Type} {a0 a1 a2 a3 x : α} {l : List α} : x ∈ a0 :: a1 :: a2 :: a3 :: x :: l := .tail _ mq3
theorem mq5 {α : Type} {a0 a1 a2 a3 a4 x : α} {l : List α} : x ∈ a0 :: a1 :: a2 :: a3 :: a4 :: x :: l := .tail _ mq4
theorem mq6 {α : Type} {a0 a1 a2 a3 a4 a5 x : α} {l : List α} : x ∈ a0 :: a1 :: a2 :: a3 :: a4 :: a5 :: x :: l := .tail _ mq5
theorem mq7 {α : Type} {a0 a1 a2 a3 a4 a5 a6 x : α} {l : List α} : x ∈ a0 :: a1 :: a2 :: a3 :: a4 :: a5 :: a6 :: x :: l := .tail _ mq6
theorem mq8 {α : Type} {a0 a1 a2 a3 a4 a5 a6 a7 x : α} {l : List α} : x ∈ a0 :: a1 :: a2 :: a3 :: a4 :: a5 :: a6 :: a7 :: x :: l := .tail _ mq7
theorem mq9 {α : Type} {a0 a1 a2 a3 a4 a5 a6 a7 a8 x : α} {l : List α} : x ∈ a0 :: a1 :: a2 :: a3 :: a4 :: a5 :: a6 :: a7 :: a8 :: x :: l := .tail _ mq8
end K
end Go.Proofs.YtmhalmnbgkpmnaaGreat
