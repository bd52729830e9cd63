/- The small logic in which the walks of this seat are written: what is known of a frame's slots (an environment) and of the call's own memory (a list of chunks). -/
import Derived.WalkKit
import Derived.WalkSpells
import Derived.WalkLawsBesides
import Derived.Deep.Quiet
import Derived.OrdersHeld
import Derived.Deep.LoopGhost
namespace Go.Proofs.YtmhalmnbgkpmnaaGreat
open Go.RowKit
namespace K

abbrev Env := List (Nat × Value)

def Env.get : Env → Nat → Option Value
  | [], _ => none
  | (k, v) :: r, t => cond (Nat.beq k t) (some v) (Env.get r t)

def Gets (E : Env) (a : Act) : Prop := ∀ t v, Env.get E t = some v → a.tmps.getD t undef = v

structure Ag (n : Nat) (E : Env) (a : Act) : Prop where
  size : a.tmps.size = n
  defers : a.defers = []
  get : Gets E a

def Sub (E' E : Env) : Prop := ∀ t v, Env.get E' t = some v → Env.get E t = some v
theorem Sub.refl (E : Env) : Sub E E := fun _ _ h => h
theorem Sub.trans {A B C : Env} (h : Sub A B) (k : Sub B C) : Sub A C := fun t v x => k t v (h t v x)
theorem Sub.nil (E : Env) : Sub [] E := fun _ _ h => by simp [Env.get] at h
theorem Sub.cons {E' E : Env} {k : Nat} {v : Value} (h : Env.get E k = some v) (hs : Sub E' E) : Sub ((k, v) :: E') E := fun t u x => by
  simp only [Env.get] at x
  cases hb : Nat.beq k t with
  | true => rw [hb] at x; simp only [cond] at x; rw [← Nat.eq_of_beq_eq_true hb, h]; exact x
  | false => rw [hb] at x; simp only [cond] at x; exact hs t u x
theorem Sub.skip {E' E : Env} {k : Nat} {v : Value} (h : Env.get E' k = none) (hs : Sub E' E) : Sub E' ((k, v) :: E) := fun t u x => by
  simp only [Env.get]
  cases hb : Nat.beq k t with
  | true => rw [← Nat.eq_of_beq_eq_true hb, h] at x; cases x
  | false => simp only [cond]; exact hs t u x
theorem Sub.both {E' E : Env} {k : Nat} {v : Value} (hs : Sub E' E) : Sub ((k, v) :: E') ((k, v) :: E) := fun t u x => by
  simp only [Env.get] at x ⊢
  cases hb : Nat.beq k t with
  | true => rw [hb] at x; exact x
  | false => rw [hb] at x; simp only [cond] at x ⊢; exact hs t u x

theorem Gets.sub {E' E : Env} {a : Act} (h : Gets E a) (hs : Sub E' E) : Gets E' a := fun t v x => h t v (hs t v x)
theorem Ag.sub {n : Nat} {E' E : Env} {a : Act} (h : Ag n E a) (hs : Sub E' E) : Ag n E' a := ⟨h.size, h.defers, h.get.sub hs⟩

theorem Gets.put {E : Env} {a : Act} (h : Gets E a) {d : Nat} (hd : d < a.tmps.size) (v : Value) : Gets ((d, v) :: E) (a.put (some d) v) := fun t u x => by
  simp only [Env.get] at x
  simp only [Act.put, Array.getD_eq_getD_getElem?, Array.getElem?_setIfInBounds]
  cases hb : Nat.beq d t with
  | true =>
    rw [hb] at x; simp only [cond, Option.some.injEq] at x
    have e := Nat.eq_of_beq_eq_true hb
    subst e; subst x; simp [hd]
  | false =>
    rw [hb] at x; simp only [cond] at x
    have e := Nat.ne_of_beq_eq_false hb
    rw [if_neg e]
    have := h t u x
    simpa [Array.getD_eq_getD_getElem?] using this

theorem Ag.put {n : Nat} {E : Env} {a : Act} (h : Ag n E a) {d : Nat} (hd : Nat.blt d n = true) (v : Value) : Ag n ((d, v) :: E) (a.put (some d) v) :=
  ⟨by simp [Act.put, h.size], h.defers, h.get.put (by rw [h.size]; simpa [Nat.blt, Nat.lt_iff_add_one_le] using hd) v⟩

def ev (E : Env) : Operand → Option Value
  | .tmp t => Env.get E t
  | .const v => some v
  | .global g => some (.pointer (some ⟨g, 0, none⟩))
  | .func f => some (.func (.func f) #[] #[])

theorem Gets.ev {E : Env} {a : Act} (h : Gets E a) {x : Operand} {v : Value} (hx : ev E x = some v) : a.eval x = v := by
  cases x with
  | tmp t => exact h t v hx
  | const u => exact Option.some.inj hx
  | global g => exact Option.some.inj hx
  | func f => exact Option.some.inj hx

def evs (E : Env) : List Operand → List Value → Prop
  | [], vs => vs = []
  | x :: xs, vs => ∃ v r, vs = v :: r ∧ ev E x = some v ∧ evs E xs r

theorem evs.nil {E : Env} : evs E [] [] := rfl
theorem evs.cons {E : Env} {x : Operand} {xs : List Operand} {v : Value} {r : List Value} (h : ev E x = some v) (hr : evs E xs r) : evs E (x :: xs) (v :: r) := ⟨v, r, rfl, h, hr⟩

theorem Gets.evs {E : Env} {a : Act} (h : Gets E a) : ∀ (xs : List Operand) {vs : List Value}, evs E xs vs → xs.map a.eval = vs
  | [], _, e => by cases e; rfl
  | x :: xs, _, ⟨v, r, e, hx, hr⟩ => by subst e; simp [h.ev hx, Gets.evs h xs hr]

abbrev Ext (w w' : World) : Prop := Below w.heap.size w w'
theorem Ext.refl (w : World) : Ext w w := Below.refl _ _
theorem Ext.trans {a b c : World} (h : Ext a b) (k : Ext b c) : Ext a c := Below.trans h (k.mono h.size)
theorem Ext.blk {w w' : World} (h : Ext w w') {b : Nat} {o : Obj} (hb : w.heap[b]? = some o) : w'.heap[b]? = some o := by
  rw [h.block b (Array.getElem?_eq_some_iff.1 hb).1]; exact hb
theorem Ext.drew {a w : World} (h : Ext a w) : Ext a w.drew := Below.drew h

inductive Chunk where
  | box (b : Nat) (T : TypeId) (l : List Value)
  | any (fp : List Nat) (A : World → Prop) (sup : ∀ w w', (∀ b ∈ fp, w'.heap[b]? = w.heap[b]?) → A w → A w') (bd : ∀ w, A w → ∀ b ∈ fp, b < w.heap.size)
def Chunk.fp : Chunk → List Nat
  | .box b _ _ => [b]
  | .any fp _ _ _ => fp
def Chunk.A : Chunk → World → Prop
  | .box b T l, w => w.heap[b]? = some (.cells l.toArray T (0, 0))
  | .any _ A _ _, w => A w
theorem Chunk.sup : ∀ (c : Chunk) (w w' : World), (∀ b ∈ c.fp, w'.heap[b]? = w.heap[b]?) → c.A w → c.A w'
  | .box b T l, w, w', h, hA => by
    have hA' : w.heap[b]? = some (.cells l.toArray T (0, 0)) := hA
    show w'.heap[b]? = _
    rw [h b (by simp [Chunk.fp])]; exact hA'
  | .any _ _ s _, w, w', h, hA => s w w' h hA
theorem Chunk.bd : ∀ (c : Chunk) (w : World), c.A w → ∀ b ∈ c.fp, b < w.heap.size
  | .box b T l, w, hA, b', hb => by
    have hA' : w.heap[b]? = some (.cells l.toArray T (0, 0)) := hA
    have : b' = b := by simpa [Chunk.fp] using hb
    subst this; exact (Array.getElem?_eq_some_iff.1 hA').1
  | .any _ _ _ d, w, hA, b', hb => d w hA b' hb

structure St (w0 : World) (F : List Chunk) (w : World) : Prop where
  below : Below w0.heap.size w0 w
  own : ∀ c ∈ F, c.A w ∧ ∀ b ∈ c.fp, w0.heap.size ≤ b
  nodup : (F.flatMap Chunk.fp).Nodup

theorem St.start (w : World) : St w [] w := ⟨Below.refl _ _, by simp, by simp⟩

theorem St.ext {w0 : World} {F : List Chunk} {w w' : World} (h : St w0 F w) (k : Ext w w') : St w0 F w' :=
  ⟨h.below.trans (k.mono h.below.size), fun c hc => ⟨c.sup w w' (fun b hb => k.block b (c.bd w (h.own c hc).1 b hb)) (h.own c hc).1, (h.own c hc).2⟩, h.nodup⟩

theorem St.drew {w0 : World} {F : List Chunk} {w : World} (h : St w0 F w) : St w0 F w.drew := h.ext (Ext.refl w).drew

theorem St.add {w0 : World} {F : List Chunk} {w w' : World} (h : St w0 F w) (k : Ext w w') (c : Chunk) (hA : c.A w') (hn : c.fp.Nodup) (hf : ∀ b ∈ c.fp, w.heap.size ≤ b) : St w0 (c :: F) w' := by
  have h' := h.ext k
  refine ⟨h'.below, fun d hd => ?_, ?_⟩
  · rcases List.mem_cons.1 hd with rfl | hd
    · exact ⟨hA, fun b hb => Nat.le_trans h.below.size (hf b hb)⟩
    · exact h'.own d hd
  · rw [List.flatMap_cons, List.nodup_append]
    refine ⟨hn, h.nodup, fun b hb b' hb' e => ?_⟩
    subst e
    obtain ⟨d, hd, hbd⟩ := List.mem_flatMap.1 hb'
    have h1 := d.bd w (h.own d hd).1 b hbd
    have h2 := hf b hb
    omega

theorem St.drop {w0 : World} {F : List Chunk} {c : Chunk} {w : World} (h : St w0 (c :: F) w) : St w0 F w :=
  ⟨h.below, fun d hd => h.own d (List.mem_cons_of_mem _ hd), by have := h.nodup; rw [List.flatMap_cons, List.nodup_append] at this; exact this.2.1⟩

theorem St.perm {w0 : World} {F F' : List Chunk} {w : World} (h : St w0 F w) (p : List.Perm F F') : St w0 F' w :=
  ⟨h.below, fun c hc => h.own c (p.mem_iff.2 hc), (List.Perm.flatMap_right _ p).nodup_iff.1 h.nodup⟩

theorem St.mem {w0 : World} {F : List Chunk} {w : World} (h : St w0 F w) {c : Chunk} (hc : c ∈ F) : c.A w := (h.own c hc).1

theorem St.old {w0 : World} {F : List Chunk} {w : World} (h : St w0 F w) {b : Nat} {o : Obj} (hb : w0.heap[b]? = some o) : w.heap[b]? = some o := by
  rw [h.below.block b (Array.getElem?_eq_some_iff.1 hb).1]; exact hb

section
variable {P : Program} {w0 : World} {F : List Chunk} {E : Env}

def OpV (P : Program) (w0 : World) (F : List Chunk) (E : Env) (o : Oper) (v : Value) : Prop :=
  ∀ a w, Gets E a → St w0 F w → o.quietAt P a (fun w' => Ext w w') w v

theorem quietAt_mono {C C' : World → Prop} {o : Oper} {a : Act} {w : World} {v : Value} (hC : ∀ w', C w' → C' w') (h : o.quietAt P a C w v) : o.quietAt P a C' w v := by
  unfold Oper.quietAt at *
  generalize (execOp a.eval o).run P w = r at *
  cases r with
  | ok n w' => cases n <;> simp only [Oper.quietUpon] at h ⊢ <;> first | exact h | exact ⟨h.1, h.2.mono fun e w'' ⟨he, hw⟩ => ⟨he, hC _ hw⟩⟩
  | halt x w' => exact h
theorem OpV.at {o : Oper} {v : Value} (h : OpV P w0 F E o v) {a : Act} {w : World} (hg : Gets E a) (hs : St w0 F w) : o.quietAt P a (St w0 F) w v :=
  quietAt_mono (fun _ hw => hs.ext hw) (h a w hg hs)
theorem OpV.of_run {o : Oper} {v : Value} (h : ∀ a w, Gets E a → St w0 F w → (execOp a.eval o).run P w = .ok (.value v) w) : OpV P w0 F E o v :=
  fun a w hg hs => by unfold Oper.quietAt; rw [h a w hg hs]; exact ⟨rfl, rfl⟩

theorem run_v {s : Sem Value} {w w' : World} {v : Value} (h : s.run P w = .ok v w') : Sem.run P (do pure (Next.value (← s))) w = .ok (.value v) w' := by
  simp [h]

variable {d : Option Tmp} {ty : TypeId} {pos : String} {af : Array Edge} {g : Option (Nat × Bool)}

theorem OpV.move {x : Operand} {v : Value} (hx : ev E x = some v) : OpV P w0 F E ⟨d, .move x, ty, pos, af, g⟩ v :=
  .of_run fun a w hg _ => by simp [execOp, hg.ev hx]
theorem OpV.assign {x : Operand} {v : Value} (hx : ev E x = some v) : OpV P w0 F E ⟨d, .assign x, ty, pos, af, g⟩ v :=
  .of_run fun a w hg _ => by simp [execOp, hg.ev hx]
theorem OpV.pick {c x y : Operand} {b : Bool} {u v : Value} (hc : ev E c = some (.bool b)) (hx : ev E x = some u) (hy : ev E y = some v) : OpV P w0 F E ⟨d, .pick c x y, ty, pos, af, g⟩ (cond b u v) :=
  .of_run fun a w hg _ => by cases b <;> simp [execOp, hg.ev hc, hg.ev hx, hg.ev hy, asBool]
theorem OpV.pickT {c x y : Operand} {u : Value} (hc : ev E c = some (.bool true)) (hx : ev E x = some u) : OpV P w0 F E ⟨d, .pick c x y, ty, pos, af, g⟩ u :=
  .of_run fun a w hg _ => by simp [execOp, hg.ev hc, hg.ev hx, asBool]
theorem OpV.pickF {c x y : Operand} {v : Value} (hc : ev E c = some (.bool false)) (hy : ev E y = some v) : OpV P w0 F E ⟨d, .pick c x y, ty, pos, af, g⟩ v :=
  .of_run fun a w hg _ => by simp [execOp, hg.ev hc, hg.ev hy, asBool]
theorem OpV.pickB {c x y : Operand} {b p q : Bool} (hc : ev E c = some (.bool b)) (hx : ev E x = some (.bool p)) (hy : ev E y = some (.bool q)) : OpV P w0 F E ⟨d, .pick c x y, ty, pos, af, g⟩ (.bool (cond b p q)) :=
  .of_run fun a w hg _ => by cases b <;> simp [execOp, hg.ev hc, hg.ev hx, hg.ev hy, asBool]
theorem OpV.not {t : TypeId} {x : Operand} {b : Bool} (hx : ev E x = some (.bool b)) : OpV P w0 F E ⟨d, .unOp .not t x, ty, pos, af, g⟩ (.bool (!b)) :=
  .of_run fun a w hg _ => by simp [execOp, hg.ev hx, Op.unary]

def I64 (n : Int) : Prop := -9223372036854775808 ≤ n ∧ n ≤ 9223372036854775807
theorem I64.wrap {n : Int} (h : I64 n) : IntKind.i64.wrap n = n := IntWalk.i64_in n h

section
variable {t t' : TypeId} {x y : Operand} {k : IntKind} {m n : Int}
theorem OpV.add (hx : ev E x = some (.int .i64 m)) (hy : ev E y = some (.int .i64 n)) (h : I64 (m + n)) : OpV P w0 F E ⟨d, .binOp .add t x y t', ty, pos, af, g⟩ (.int .i64 (m + n)) :=
  .of_run fun a w hg _ => by simp [execOp, hg.ev hx, hg.ev hy, eqGuard_add, binOp_add, Op.intArith, h.wrap]
theorem OpV.sub (hx : ev E x = some (.int .i64 m)) (hy : ev E y = some (.int .i64 n)) (h : I64 (m - n)) : OpV P w0 F E ⟨d, .binOp .sub t x y t', ty, pos, af, g⟩ (.int .i64 (m - n)) :=
  .of_run fun a w hg _ => by simp [execOp, hg.ev hx, hg.ev hy, eqGuard_sub, binOp_sub, Op.intArith, h.wrap]
theorem OpV.mul (hx : ev E x = some (.int .i64 m)) (hy : ev E y = some (.int .i64 n)) (h : I64 (m * n)) : OpV P w0 F E ⟨d, .binOp .mul t x y t', ty, pos, af, g⟩ (.int .i64 (m * n)) :=
  .of_run fun a w hg _ => by simp [execOp, hg.ev hx, hg.ev hy, eqGuard_mul, binOp_mul, Op.intArith, h.wrap]
theorem OpV.addW (hx : ev E x = some (.int k m)) (hy : ev E y = some (.int k n)) : OpV P w0 F E ⟨d, .binOp .add t x y t', ty, pos, af, g⟩ (.int k (k.wrap (m + n))) :=
  .of_run fun a w hg _ => by simp [execOp, hg.ev hx, hg.ev hy, eqGuard_add, binOp_add, Op.intArith]
theorem OpV.subW (hx : ev E x = some (.int k m)) (hy : ev E y = some (.int k n)) : OpV P w0 F E ⟨d, .binOp .sub t x y t', ty, pos, af, g⟩ (.int k (k.wrap (m - n))) :=
  .of_run fun a w hg _ => by simp [execOp, hg.ev hx, hg.ev hy, eqGuard_sub, binOp_sub, Op.intArith]
theorem OpV.mulW (hx : ev E x = some (.int k m)) (hy : ev E y = some (.int k n)) : OpV P w0 F E ⟨d, .binOp .mul t x y t', ty, pos, af, g⟩ (.int k (k.wrap (m * n))) :=
  .of_run fun a w hg _ => by simp [execOp, hg.ev hx, hg.ev hy, eqGuard_mul, binOp_mul, Op.intArith]
theorem OpV.neg (hx : ev E x = some (.int .i64 m)) (h : I64 (-m)) : OpV P w0 F E ⟨d, .unOp .neg t x, ty, pos, af, g⟩ (.int .i64 (-m)) :=
  .of_run fun a w hg _ => by
    have e : (0 : Int) - m = -m := by omega
    simp [execOp, hg.ev hx, Op.unary, Op.intArith, h.wrap]
theorem OpV.negW (hx : ev E x = some (.int .i64 m)) : OpV P w0 F E ⟨d, .unOp .neg t x, ty, pos, af, g⟩ (.int .i64 (IntKind.i64.wrap (0 - m))) :=
  .of_run fun a w hg _ => by simp [execOp, hg.ev hx, Op.unary, Op.intArith]
theorem OpV.max2 {tys : Array TypeId} (hx : ev E x = some (.int k m)) (hy : ev E y = some (.int k n)) : OpV P w0 F E ⟨d, .call ⟨.builtin .max, #[x, y], tys⟩, ty, pos, af, g⟩ (.int k (max m n)) :=
  .of_run fun a w hg _ => by
    have e : (if n > m then n else m) = max m n := by split <;> omega
    simp [execOp, resolve, invoke, builtin, hg.ev hx, hg.ev hy, Builtin.max_, Builtin.max2, e]
theorem OpV.min2 {tys : Array TypeId} (hx : ev E x = some (.int k m)) (hy : ev E y = some (.int k n)) : OpV P w0 F E ⟨d, .call ⟨.builtin .min, #[x, y], tys⟩, ty, pos, af, g⟩ (.int k (min m n)) :=
  .of_run fun a w hg _ => by
    have e : (if n < m then n else m) = min m n := by split <;> omega
    simp [execOp, resolve, invoke, builtin, hg.ev hx, hg.ev hy, Builtin.min_, Builtin.min2, e]
theorem OpV.lss (hx : ev E x = some (.int k m)) (hy : ev E y = some (.int k n)) : OpV P w0 F E ⟨d, .binOp .lss t x y t', ty, pos, af, g⟩ (.bool (decide (m < n))) :=
  .of_run fun a w hg _ => by simp [execOp, hg.ev hx, hg.ev hy, eqGuard_lss, binOp_lss]
theorem OpV.leq (hx : ev E x = some (.int k m)) (hy : ev E y = some (.int k n)) : OpV P w0 F E ⟨d, .binOp .leq t x y t', ty, pos, af, g⟩ (.bool (decide (m ≤ n))) :=
  .of_run fun a w hg _ => by simp [execOp, hg.ev hx, hg.ev hy, eqGuard_leq, binOp_leq]
theorem OpV.gtr (hx : ev E x = some (.int k m)) (hy : ev E y = some (.int k n)) : OpV P w0 F E ⟨d, .binOp .gtr t x y t', ty, pos, af, g⟩ (.bool (decide (n < m))) :=
  .of_run fun a w hg _ => by simp [execOp, hg.ev hx, hg.ev hy, eqGuard_gtr, binOp_gtr]
theorem OpV.geq (hx : ev E x = some (.int k m)) (hy : ev E y = some (.int k n)) : OpV P w0 F E ⟨d, .binOp .geq t x y t', ty, pos, af, g⟩ (.bool (decide (n ≤ m))) :=
  .of_run fun a w hg _ => by simp [execOp, hg.ev hx, hg.ev hy, eqGuard_geq, binOp_geq]
theorem OpV.eql (hx : ev E x = some (.int k m)) (hy : ev E y = some (.int k n)) : OpV P w0 F E ⟨d, .binOp .eql t x y t', ty, pos, af, g⟩ (.bool (decide (m = n))) :=
  .of_run fun a w hg _ => by simp [execOp, hg.ev hx, hg.ev hy, eqGuard_at_int, binOp_eql]; rfl
theorem OpV.neq (hx : ev E x = some (.int k m)) (hy : ev E y = some (.int k n)) : OpV P w0 F E ⟨d, .binOp .neq t x y t', ty, pos, af, g⟩ (.bool (!decide (m = n))) :=
  .of_run fun a w hg _ => by simp [execOp, hg.ev hx, hg.ev hy, eqGuard_at_int, binOp_neq, bne]; rfl
theorem OpV.rem (hx : ev E x = some (.int k m)) (hy : ev E y = some (.int k n)) (h0 : 0 ≤ m) (h1 : 0 < n) : OpV P w0 F E ⟨d, .binOp .rem t x y t', ty, pos, af, g⟩ (.int k (m % n)) :=
  .of_run fun a w hg _ => by
    have h2 : n ≠ 0 := by omega
    simp [execOp, hg.ev hx, hg.ev hy, eqGuard_rem, binOp_rem, Op.intDiv, h2, Int.tmod_eq_emod_of_nonneg h0]
theorem OpV.remT (hx : ev E x = some (.int k m)) (hy : ev E y = some (.int k n)) (h1 : n ≠ 0) : OpV P w0 F E ⟨d, .binOp .rem t x y t', ty, pos, af, g⟩ (.int k (m.tmod n)) :=
  .of_run fun a w hg _ => by simp [execOp, hg.ev hx, hg.ev hy, eqGuard_rem, binOp_rem, Op.intDiv, h1]
theorem OpV.quo (hx : ev E x = some (.int .i64 m)) (hy : ev E y = some (.int .i64 n)) (h0 : 0 ≤ m) (h1 : 0 < n) (h2 : m ≤ 9223372036854775807) : OpV P w0 F E ⟨d, .binOp .quo t x y t', ty, pos, af, g⟩ (.int .i64 (m / n)) :=
  .of_run fun a w hg _ => by
    have h3 : n ≠ 0 := by omega
    have h4 : I64 (m / n) := by
      have a1 := Int.ediv_nonneg h0 (Int.le_of_lt h1)
      have a2 := Int.ediv_le_self n h0
      exact ⟨by omega, by omega⟩
    simp [execOp, hg.ev hx, hg.ev hy, eqGuard_quo, binOp_quo, Op.intDiv, h3, Int.tdiv_eq_ediv_of_nonneg h0, h4.wrap]
end

theorem OpV.beql {t t' : TypeId} {x y : Operand} {p q : Bool} (hx : ev E x = some (.bool p)) (hy : ev E y = some (.bool q)) (hu : P.underlying t = some .bool) : OpV P w0 F E ⟨d, .binOp .eql t x y t', ty, pos, af, g⟩ (.bool (p == q)) :=
  .of_run fun a w hg _ => by simp [execOp, hg.ev hx, hg.ev hy, eqGuard_at_bool, run_eql_bool w t p q hu]
theorem OpV.bneq {t t' : TypeId} {x y : Operand} {p q : Bool} (hx : ev E x = some (.bool p)) (hy : ev E y = some (.bool q)) (hu : P.underlying t = some .bool) : OpV P w0 F E ⟨d, .binOp .neq t x y t', ty, pos, af, g⟩ (.bool (!(p == q))) :=
  .of_run fun a w hg _ => by simp [execOp, hg.ev hx, hg.ev hy, eqGuard_at_bool, run_neq_bool w t p q hu]

def fieldOff (P : Program) (t k : Nat) : Option Nat :=
  match P.underlying t with
  | some (.struct fs) => match fs[k]? with
    | some f => match P.info? f.type with
      | some i => if i.size = 0 then none else some f.offset
      | none => none
    | none => none
  | _ => none
theorem OpV.fieldAddr {s : TypeId} {x : Operand} {k off b o : Nat} (hx : ev E x = some (.pointer (some ⟨b, o, none⟩))) (hf : fieldOff P s k = some off) :
    OpV P w0 F E ⟨d, .fieldAddr s x k, ty, pos, af, g⟩ (.pointer (some ⟨b, o + off, none⟩)) :=
  .of_run fun a w hg _ => by
    unfold fieldOff at hf
    split at hf
    · rename_i fs hu
      split at hf
      · rename_i f hfs
        split at hf
        · rename_i i hi
          split at hf
          · cases hf
          · rename_i hz
            simp at hf; subst hf
            simp [execOp, hg.ev hx, Instr.fieldAt, run_underlying hu, hfs, Instr.sureAddr, fieldPlace, sizeOf, typeInfo, hi, hz, Addr.add_lit]
        · cases hf
      · cases hf
    · cases hf

def plainTy (P : Program) (t : TypeId) : Bool := match P.underlying t with
  | some (.struct _) | some (.array _ _) => false
  | some _ => true
  | none => false
def aggTy (P : Program) (t : TypeId) : Option Nat := match P.underlying t with
  | some (.struct _) | some (.array _ _) => (P.info? t).map (·.size)
  | _ => none

theorem run_isAgg_plain {t : TypeId} (h : plainTy P t = true) (w : World) : (isAgg t).run P w = .ok false w := by
  unfold plainTy at h
  split at h
  · cases h
  · cases h
  · rename_i dd h1 h2 hu
    simp only [isAgg, Sem.run_bind, run_underlying hu, Result.andThen_ok]
    cases dd <;> first | rfl | (exact absurd rfl (h1 _)) | (exact absurd rfl (h2 _ _))
  · cases h
theorem run_isAgg_agg {t : TypeId} {n : Nat} (h : aggTy P t = some n) (w : World) : (isAgg t).run P w = .ok true w ∧ (sizeOf t).run P w = .ok n w := by
  unfold aggTy at h
  split at h
  · rename_i fs hu
    obtain ⟨i, hi, rfl⟩ := Option.map_eq_some_iff.1 h
    exact ⟨by simp [isAgg, run_underlying hu], by simp [sizeOf, typeInfo, hi]⟩
  · rename_i m e hu
    obtain ⟨i, hi, rfl⟩ := Option.map_eq_some_iff.1 h
    exact ⟨by simp [isAgg, run_underlying hu], by simp [sizeOf, typeInfo, hi]⟩
  · cases h

theorem OpV.load1 {t : TypeId} {x : Operand} {p : Addr} {v : Value} (hx : ev E x = some (.pointer (some p))) (ht : plainTy P t = true) (hc : ∀ w, St w0 F w → w.cell? p = some v) :
    OpV P w0 F E ⟨d, .load t x, ty, pos, af, g⟩ v :=
  .of_run fun a w hg hs => by simp [execOp, hg.ev hx, Instr.loadAt, Instr.sureAddr, loadVar, run_isAgg_plain ht w, hc w hs]
theorem OpV.loadN {t : TypeId} {x : Operand} {p : Addr} {n : Nat} {l : List Value} (hx : ev E x = some (.pointer (some p))) (ht : aggTy P t = some n) (hl : l.length = n) (hc : ∀ w, St w0 F w → ∀ j v, l[j]? = some v → w.cell? (p.add j) = some v) :
    OpV P w0 F E ⟨d, .load t x, ty, pos, af, g⟩ (.agg l.toArray) :=
  .of_run fun a w hg hs => by
    have h1 := run_loadCells_list (P := P) (w := w) p l (hc w hs)
    rw [hl] at h1
    simp [execOp, hg.ev hx, Instr.loadAt, Instr.sureAddr, loadVar, (run_isAgg_agg ht w).1, (run_isAgg_agg ht w).2, h1]

theorem cell_box {w : World} {b : Nat} {T : TypeId} {l : List Value} (h : w.heap[b]? = some (.cells l.toArray T (0, 0))) {k : Nat} {v : Value} (hk : l[k]? = some v) : w.cell? ⟨b, k, none⟩ = some v := by
  simp [World.cell?, h, hk]
theorem OpV.loadBox {t : TypeId} {x : Operand} {b k : Nat} {T : TypeId} {l : List Value} {v : Value} (hx : ev E x = some (.pointer (some ⟨b, k, none⟩))) (ht : plainTy P t = true) (hm : Chunk.box b T l ∈ F) (hk : l[k]? = some v) :
    OpV P w0 F E ⟨d, .load t x, ty, pos, af, g⟩ v :=
  .load1 hx ht fun _ hs => cell_box (hs.mem hm) hk
theorem OpV.loadAll {t : TypeId} {x : Operand} {b : Nat} {T : TypeId} {l : List Value} (hx : ev E x = some (.pointer (some ⟨b, 0, none⟩))) (hm : Chunk.box b T l ∈ F) (ht : aggTy P t = some l.length) :
    OpV P w0 F E ⟨d, .load t x, ty, pos, af, g⟩ (.agg l.toArray) :=
  .loadN hx ht rfl fun _ hs j v hj => by
    have := cell_box (hs.mem hm) hj
    rw [Addr.add_lit, Nat.zero_add]; exact this
theorem OpV.loadPart {t : TypeId} {x : Operand} {b k n : Nat} {T : TypeId} {l l' : List Value} (hx : ev E x = some (.pointer (some ⟨b, k, none⟩))) (hm : Chunk.box b T l ∈ F) (ht : aggTy P t = some n) (hl : (l.drop k).take n = l') (hn : l'.length = n) :
    OpV P w0 F E ⟨d, .load t x, ty, pos, af, g⟩ (.agg l'.toArray) :=
  .loadN hx ht hn fun _ hs j v hj => by
    rw [Addr.add_lit]
    refine cell_box (hs.mem hm) ?_
    subst hl
    rw [List.getElem?_take] at hj
    split at hj
    · rw [List.getElem?_drop] at hj; exact hj
    · cases hj

def sliceElem (P : Program) (t : TypeId) : Option Nat := match P.underlying t with
  | some (.slice e) => (P.info? e).map (·.size)
  | _ => none
theorem OpV.len {t : TypeId} {ty' : Array TypeId} {x : Operand} {b : Option Addr} {n c : Nat} (hx : ev E x = some (.slice b n c)) (ht : (sliceElem P t).isSome = true) (hty : ty' = #[t]) :
    OpV P w0 F E ⟨d, .call ⟨.builtin .len, #[x], ty'⟩, ty, pos, af, g⟩ (.int .i64 n) :=
  .of_run fun a w hg _ => by
    subst hty
    unfold sliceElem at ht
    split at ht
    · rename_i e hu
      simp [execOp, resolve, invoke, builtin, hg.ev hx, Builtin.len_, run_underlying hu, goInt]
    · cases ht
theorem OpV.lenS {t : TypeId} {ty' : Array TypeId} {x : Operand} {s : ByteArray} (hx : ev E x = some (.string s)) (ht : P.underlying t = some .string) (hty : ty' = #[t]) :
    OpV P w0 F E ⟨d, .call ⟨.builtin .len, #[x], ty'⟩, ty, pos, af, g⟩ (.int .i64 s.size) :=
  .of_run fun a w hg _ => by
    subst hty
    simp [execOp, resolve, invoke, builtin, hg.ev hx, Builtin.len_, run_underlying ht, goInt]
theorem OpV.indexAddr {t : TypeId} {x y : Operand} {p : Addr} {n c s : Nat} {i : Int} (hx : ev E x = some (.slice (some p) n c)) (hy : ev E y = some (.int .i64 i)) (ht : sliceElem P t = some s) (h0 : 0 ≤ i) (h1 : i < n) :
    OpV P w0 F E ⟨d, .indexAddr t x y, ty, pos, af, g⟩ (.pointer (some (p.add (i.toNat * s)))) :=
  .of_run fun a w hg _ => by
    unfold sliceElem at ht
    split at ht
    · rename_i e hu
      obtain ⟨j, hj, rfl⟩ := Option.map_eq_some_iff.1 ht
      have he : P.elem t = e := by simp [Program.elem, hu]
      simp [execOp, hg.ev hx, hg.ev hy, run_indexAt_slice w t p n c .i64 i (by rw [he]; exact hu), h0, h1, sizeOf, typeInfo, he, hj]
    · cases ht
theorem OpV.indexS {t : TypeId} {x y : Operand} {s : ByteArray} {i : Int} (hx : ev E x = some (.string s)) (hy : ev E y = some (.int .i64 i)) (ht : P.underlying t = some .string) (h0 : 0 ≤ i) (h1 : i < s.size) :
    OpV P w0 F E ⟨d, .index t x y, ty, pos, af, g⟩ (.int .u8 (s[i.toNat]!).toNat) :=
  .of_run fun a w hg _ => by
    have h2 : i.toNat < s.size := by omega
    have h3 : s[i.toNat]? = some s[i.toNat]! := by rw [getElem!_pos s i.toNat h2]; exact getElem?_pos s i.toNat h2
    simp [execOp, hg.ev hx, hg.ev hy, Instr.index, asIntOf, run_underlying ht, h0, h3]
theorem OpV.extract {x : Operand} {vs : Array Value} {k : Nat} {v : Value} (hx : ev E x = some (.tuple vs)) (hk : vs[k]? = some v) :
    OpV P w0 F E ⟨d, .extract x k, ty, pos, af, g⟩ v :=
  .of_run fun a w hg _ => by simp [execOp, hg.ev hx, Instr.extract, hk]
theorem OpV.conv {src dst : TypeId} {x : Operand} {k k' : IntKind} {n : Int} (hx : ev E x = some (.int k n)) (hs : (P.underlying src).isSome = true) (hd : P.underlying dst = some (.int k')) :
    OpV P w0 F E ⟨d, .convert src dst x, ty, pos, af, g⟩ (.int k' (k'.wrap n)) :=
  .of_run fun a w hg _ => by
    have hk : P.intKind dst = k' := by simp [Program.intKind, hd]
    have := run_convert_int (P := P) w src dst k n hs (by rw [hk]; exact hd)
    rw [hk] at this
    simp [execOp, hg.ev hx, this]
theorem OpV.toInt {src dst : TypeId} {x : Operand} {k : IntKind} {n : Int} (hx : ev E x = some (.int k n)) (hs : (P.underlying src).isSome = true) (hd : P.underlying dst = some (.int .i64)) (h : I64 n) :
    OpV P w0 F E ⟨d, .convert src dst x, ty, pos, af, g⟩ (.int .i64 n) := by
  have := OpV.conv (P := P) (w0 := w0) (F := F) (E := E) (d := d) (ty := ty) (pos := pos) (af := af) (g := g) hx hs hd
  rwa [h.wrap] at this
def callable (P : Program) (f : Nat) : Bool := match P.funcs[f]? with
  | some fn => fn.body.isSome && !(fn.name == "runtime.NumGoroutine")
  | none => false
theorem run_callFunc {f : Nat} (h : callable P f = true) (vs : Array Value) (w : World) : (callFunc f vs).run P w = .ok (.enter f vs) w := by
  unfold callable at h
  split at h
  · rename_i fn hf
    simp only [Bool.and_eq_true, Bool.not_eq_true'] at h
    have hb : fn.body.isNone = false := by cases hh : fn.body <;> simp_all
    simp only [callFunc, Sem.run_bind, run_program, Result.andThen_ok, hf, h.2, hb, Bool.false_eq_true, if_false]
    rfl
  · cases h
theorem run_call {o : Oper} {f : FuncId} {xs : Array Operand} {tys : Array TypeId} {vs : List Value} (ho : o.op = .call ⟨.value (.func f), xs, tys⟩) (hxs : evs E xs.toList vs) (hf : callable P f = true) {a : Act} (hg : Gets E a) (w : World) :
    (execOp a.eval o).run P w = .ok (.enter f vs.toArray) w := by
  have h1 : xs.map a.eval = vs.toArray := by
    have := hg.evs xs.toList hxs
    apply Array.toList_inj.1
    rw [Array.toList_map, this]
  simp [execOp, ho, resolve, Deferred.ofValue, invoke, Act.eval, h1, run_callFunc hf]
theorem OpV.call {f : FuncId} {xs : Array Operand} {tys : Array TypeId} {vs : List Value} {v : Value} (hxs : evs E xs.toList vs) (hf : callable P f = true)
    (hc : ∀ w, St w0 F w → Calls P f vs.toArray w fun e w' => e = .returned v ∧ Ext w w') :
    OpV P w0 F E ⟨d, .call ⟨.value (.func f), xs, tys⟩, ty, pos, af, g⟩ v := fun a w hg hs => by
  unfold Oper.quietAt
  rw [run_call rfl hxs hf hg w]
  exact ⟨rfl, hc w hs⟩

end

section
variable {P : Program} {n : Nat} {w0 : World} {ops : Array Oper} {Q : Exit → Act → World → Prop}

def gslot (ops : Array Oper) (j : Nat) : Option Nat := (ops[j]?).bind (·.dst)
def wantE (ops : Array Oper) (g : Option (Nat × Bool)) (E : Env) : Option Bool :=
  match g with
  | none => some true
  | some (j, b) => match gslot ops j with
    | none => some false
    | some t => match Env.get E t with
      | some (.bool c) => some (c == b)
      | some (.tuple _) => some false
      | _ => none

theorem wanted_of {o : Oper} {E : Env} {a : Act} {b : Bool} (hg : Gets E a) (h : wantE ops o.guard E = some b) : Region.wanted o (yielded ops a.tmps) = b := by
  unfold wantE at h
  unfold Region.wanted
  split at h
  · rename_i hn; simpa [hn] using h
  · rename_i j c hn
    simp only [hn]
    unfold yielded
    unfold gslot at h
    cases hs : (ops[j]?).bind (·.dst) with
    | none => rw [hs] at h; simp at h; simp [← h]
    | some t =>
      rw [hs] at h
      simp only at h
      simp only [Option.bind_some]
      split at h
      · rename_i c' he
        have h1 := hg t _ he
        simp only [Option.some.injEq] at h
        rw [Array.getD_eq_getD_getElem?] at h1
        cases ht : a.tmps[t]? with
        | none => rw [ht] at h1; cases h1
        | some v =>
          rw [ht] at h1
          simp only [Option.getD_some] at h1
          subst h1
          simp [← h]
      · rename_i c' he
        have h1 := hg t _ he
        simp only [Option.some.injEq] at h
        rw [Array.getD_eq_getD_getElem?] at h1
        cases ht : a.tmps[t]? with
        | none => simp [← h]
        | some v =>
          rw [ht] at h1
          simp only [Option.getD_some] at h1
          subst h1
          simp [← h]
      · cases h

structure Lt (P : Program) (w0 : World) (F : List Chunk) (n : Nat) (ops : Array Oper) (W : List Oper → Env → Prop) : Prop where
  step : ∀ {o : Oper} {rest : List Oper} {E : Env} {v : Value} {d : Nat}, o.dst = some d → Nat.blt d n = true → wantE ops o.guard E = some true → OpV P w0 F E o v → W rest ((d, v) :: E) → W (o :: rest) E
  skip : ∀ {o : Oper} {rest : List Oper} {E : Env} {d : Nat}, o.dst = some d → Nat.blt d n = true → wantE ops o.guard E = some false → W rest ((d, undef) :: E) → W (o :: rest) E
  weaken : ∀ {l : List Oper} {E E' : Env}, Sub E' E → W l E' → W l E

theorem OpV.wk {F : List Chunk} {E E' : Env} {o : Oper} {v : Value} (h : OpV P w0 F E' o v) (hs : Sub E' E) : OpV P w0 F E o v := fun a w hg hst => h a w (hg.sub hs) hst
theorem wantE_sub {g : Option (Nat × Bool)} {E E' : Env} {b : Bool} (h : wantE ops g E' = some b) (hs : Sub E' E) : wantE ops g E = some b := by
  unfold wantE at *
  split
  · exact h
  · rename_i j c
    split
    · rename_i hj; simpa [hj] using h
    · rename_i t hj
      simp only [hj] at h
      cases he : Env.get E' t with
      | none => simp [he] at h
      | some v => rw [he] at h; rw [hs t v he]; exact h

section
variable {F : List Chunk} {W : List Oper → Env → Prop}
theorem Lt.and (hW : Lt P w0 F n ops W) (t d2 tb : Nat) {p : Oper} {rest l : List Oper} {E : Env} {A B : Bool} (hA : Env.get E t = some (.bool A))
    (hT : A = true → (∀ E1, Env.get E1 tb = some (.bool B) → Sub ((t, .bool true) :: E) E1 → W (p :: rest) E1) → W l ((t, .bool true) :: E))
    (hF : A = false → (∀ E1, Sub ((t, .bool false) :: E) E1 → W (p :: rest) E1) → W l ((t, .bool false) :: E))
    (hp : p.op = .pick (.tmp t) (.tmp tb) (.const (.bool false))) (hpd : p.dst = some d2) (hpn : Nat.blt d2 n = true) (hpg : wantE ops p.guard E = some true)
    (hr : W rest ((d2, .bool (A && B)) :: E)) : W l E := by
  have self : ∀ b, A = b → Sub ((t, .bool b) :: E) E := fun b hb => Sub.cons (by rw [hA, hb]) (Sub.refl E)
  have other : ∀ b, A = b → Sub E ((t, .bool b) :: E) := fun b hb k v hk => by
    simp only [Env.get]
    cases hbq : Nat.beq t k with
    | true => have e := Nat.eq_of_beq_eq_true hbq; subst e; rw [hA, hb] at hk; simpa using hk
    | false => exact hk
  obtain ⟨d, op, ty, pos, af, g⟩ := p
  simp only at hp hpd hpg
  subst hp; subst hpd
  cases A with
  | true =>
    refine hW.weaken (self true rfl) (hT rfl fun E1 hB hs => hW.step rfl hpn (wantE_sub hpg ((other true rfl).trans hs)) (OpV.pickT (hs t _ (by simp [Env.get])) hB) ?_)
    exact hW.weaken (Sub.both ((other true rfl).trans hs)) hr
  | false =>
    refine hW.weaken (self false rfl) (hF rfl fun E1 hs => hW.step rfl hpn (wantE_sub hpg ((other false rfl).trans hs)) (OpV.pickF (hs t _ (by simp [Env.get])) rfl) ?_)
    exact hW.weaken (Sub.both ((other false rfl).trans hs)) hr
theorem Lt.or (hW : Lt P w0 F n ops W) (t d2 tb : Nat) {p : Oper} {rest l : List Oper} {E : Env} {A B : Bool} (hA : Env.get E t = some (.bool A))
    (hT : A = true → (∀ E1, Sub ((t, .bool true) :: E) E1 → W (p :: rest) E1) → W l ((t, .bool true) :: E))
    (hF : A = false → (∀ E1, Env.get E1 tb = some (.bool B) → Sub ((t, .bool false) :: E) E1 → W (p :: rest) E1) → W l ((t, .bool false) :: E))
    (hp : p.op = .pick (.tmp t) (.const (.bool true)) (.tmp tb)) (hpd : p.dst = some d2) (hpn : Nat.blt d2 n = true) (hpg : wantE ops p.guard E = some true)
    (hr : W rest ((d2, .bool (A || B)) :: E)) : W l E := by
  have self : ∀ b, A = b → Sub ((t, .bool b) :: E) E := fun b hb => Sub.cons (by rw [hA, hb]) (Sub.refl E)
  have other : ∀ b, A = b → Sub E ((t, .bool b) :: E) := fun b hb k v hk => by
    simp only [Env.get]
    cases hbq : Nat.beq t k with
    | true => have e := Nat.eq_of_beq_eq_true hbq; subst e; rw [hA, hb] at hk; simpa using hk
    | false => exact hk
  obtain ⟨d, op, ty, pos, af, g⟩ := p
  simp only at hp hpd hpg
  subst hp; subst hpd
  cases A with
  | true =>
    refine hW.weaken (self true rfl) (hT rfl fun E1 hs => hW.step rfl hpn (wantE_sub hpg ((other true rfl).trans hs)) (OpV.pickT (hs t _ (by simp [Env.get])) rfl) ?_)
    exact hW.weaken (Sub.both ((other true rfl).trans hs)) hr
  | false =>
    refine hW.weaken (self false rfl) (hF rfl fun E1 hB hs => hW.step rfl hpn (wantE_sub hpg ((other false rfl).trans hs)) (OpV.pickF (hs t _ (by simp [Env.get])) hB) ?_)
    exact hW.weaken (Sub.both ((other false rfl).trans hs)) hr
end

def WL (P : Program) (n : Nat) (w0 : World) (ops : Array Oper) (Q : Exit → Act → World → Prop) (l : List Oper) (E : Env) (F : List Chunk) : Prop :=
  ∀ a w, Ag n E a → St w0 F w → wpList P ops Q l a w

theorem Lt.ofWL {F : List Chunk} : Lt P w0 F n ops (fun l E => WL P n w0 ops Q l E F) where
  step := fun {o rest E v d} hd hn hw hv h a w ha hs => by
    unfold wpList
    rw [if_pos (wanted_of ha.get hw)]
    refine .inl (Oper.wp_of_quiet (C := St w0 F) (K := fun a' => a' = a.put (some d) v) hs (fun a' w' hw' e => ?_) ⟨v, fun w' hw' => hv.at ha.get hw', by rw [hd]⟩)
    subst e
    exact h _ _ (ha.put hn v) hw'
  skip := fun {o rest E d} hd hn hw h a w ha hs => by
    unfold wpList
    rw [if_neg (by rw [wanted_of ha.get hw]; simp), hd]
    exact h _ _ (ha.put hn undef) hs
  weaken := fun hs h a w ha hst => h a w (ha.sub hs) hst

def WQ (P : Program) (n : Nat) (w0 : World) (ops : Array Oper) (Q : Exit → Act → World → Prop) (l : List Oper) (E : Env) (F : List Chunk) : Prop :=
  ∀ a, Ag n E a → wpQuiet P ops (St w0 F) (fun a' => ∀ w', St w0 F w' → Q .normal a' w') l a

theorem Lt.ofWQ {F : List Chunk} : Lt P w0 F n ops (fun l E => WQ P n w0 ops Q l E F) where
  step := fun {o rest E v d} hd hn hw hv h a ha => by
    unfold wpQuiet
    rw [if_pos (wanted_of ha.get hw)]
    exact ⟨v, fun w' hw' => hv.at ha.get hw', by rw [hd]; exact h _ (ha.put hn v)⟩
  skip := fun {o rest E d} hd hn hw h a ha => by
    unfold wpQuiet
    rw [if_neg (by rw [wanted_of ha.get hw]; simp), hd]
    exact h _ (ha.put hn undef)
  weaken := fun hs h a ha => h a (ha.sub hs)

def OpH (P : Program) (w0 : World) (F : List Chunk) (E : Env) (o : Oper) (K : Value → List Chunk → Prop) : Prop :=
  ∀ a w, Gets E a → St w0 F w → ∀ (K' : Act → World → Prop) (Q' : Exit → Act → World → Prop), (∀ v F' w', K v F' → St w0 F' w' → K' (a.put o.dst v) w') → o.wp P a w K' Q'

theorem WL.heavy {F : List Chunk} {E : Env} {o : Oper} {rest : List Oper} {d : Nat} (hd : o.dst = some d) (hn : Nat.blt d n = true) (hw : wantE ops o.guard E = some true) (h : OpH P w0 F E o (fun v F' => WL P n w0 ops Q rest ((d, v) :: E) F')) : WL P n w0 ops Q (o :: rest) E F :=
  fun a w ha hs => by
    unfold wpList
    rw [if_pos (wanted_of ha.get hw)]
    refine .inl (h a w ha.get hs _ _ fun v F' w' hk hs' => ?_)
    rw [hd]
    exact hk _ _ (ha.put hn v) hs'
theorem WL.heavy0 {F : List Chunk} {E : Env} {o : Oper} {rest : List Oper} (hd : o.dst = none) (hw : wantE ops o.guard E = some true) (h : OpH P w0 F E o (fun _ F' => WL P n w0 ops Q rest E F')) : WL P n w0 ops Q (o :: rest) E F :=
  fun a w ha hs => by
    unfold wpList
    rw [if_pos (wanted_of ha.get hw)]
    refine .inl (h a w ha.get hs _ _ fun v F' w' hk hs' => ?_)
    rw [hd]
    exact hk _ _ ha hs'

theorem OpH.of_run {F : List Chunk} {E : Env} {o : Oper} {K : Value → List Chunk → Prop} (h : ∀ a w, Gets E a → St w0 F w → ∃ v w' F', (execOp a.eval o).run P w = .ok (.value v) w' ∧ St w0 F' w' ∧ K v F') : OpH P w0 F E o K :=
  fun a w hg hs K' Q' hK => by
    obtain ⟨v, w', F', hr, hs', hk⟩ := h a w hg hs
    unfold Oper.wp
    rw [hr]
    exact hK v F' w' hk hs'
theorem OpH.of_run0 {F : List Chunk} {E : Env} {o : Oper} {K : Value → List Chunk → Prop} (h : ∀ a w, Gets E a → St w0 F w → ∃ w' F', (execOp a.eval o).run P w = .ok .skip w' ∧ St w0 F' w' ∧ K undef F') : OpH P w0 F E o K :=
  fun a w hg hs K' Q' hK => by
    obtain ⟨w', F', hr, hs', hk⟩ := h a w hg hs
    unfold Oper.wp
    rw [hr]
    exact hK undef F' w' hk hs'

variable {F : List Chunk} {E : Env} {d : Option Tmp} {ty : TypeId} {pos : String} {af : Array Edge} {g : Option (Nat × Bool)} {K : Value → List Chunk → Prop}

theorem Ext.alloc (w : World) (o : Obj) : Ext w (w.alloc o) := (Below.refl _ _).alloc (Nat.le_refl _) o
theorem St.alloc {w : World} (h : St w0 F w) (T : TypeId) (l : List Value) : St w0 (Chunk.box w.heap.size T l :: F) (w.alloc (.cells l.toArray T (0, 0))) :=
  h.add (Ext.alloc w _) _ (heap_alloc_new w _) (by simp [Chunk.fp]) (by simp [Chunk.fp])

theorem OpH.box {T : TypeId} {x : Operand} {v : Value} {l : List Value} (hx : ev E x = some v) (hl : v.cells = l.toArray) (hk : ∀ b, K (.pointer (some ⟨b, 0, none⟩)) (Chunk.box b T l :: F)) : OpH P w0 F E ⟨d, .box T x, ty, pos, af, g⟩ K :=
  .of_run fun a w hg hs => ⟨_, _, _, by simp [execOp, hg.ev hx, Instr.box, newVar, newRow, hl], hs.alloc T l, hk _⟩
def zeroCells (P : Program) (T : TypeId) : Option (List Value) := ((P.info? T).bind (·.zero)).map fun z => z.cells.toList
theorem OpH.alloc {T : TypeId} {l : List Value} (hz : zeroCells P T = some l) (hk : ∀ b, K (.pointer (some ⟨b, 0, none⟩)) (Chunk.box b T l :: F)) : OpH P w0 F E ⟨d, .alloc T, ty, pos, af, g⟩ K :=
  .of_run fun a w hg hs => by
    unfold zeroCells at hz
    obtain ⟨z, hz1, hz2⟩ := Option.map_eq_some_iff.1 hz
    obtain ⟨i, hi, hiz⟩ := Option.bind_eq_some_iff.1 hz1
    have hl : z.cells = l.toArray := by rw [← hz2]
    exact ⟨_, _, _, by simp [execOp, Instr.alloc, zeroValue, typeInfo, hi, hiz, newVar, newRow, hl], hs.alloc T l, hk _⟩


theorem heap_setCell_same {w : World} {b k : Nat} {T : TypeId} {l : List Value} (h : w.heap[b]? = some (.cells l.toArray T (0, 0))) (v : Value) :
    (w.setCell ⟨b, k, none⟩ v).heap[b]? = some (.cells (l.set k v).toArray T (0, 0)) := by
  simp only [World.setCell, Array.getElem?_modify]
  simp [h]

theorem St.set {A C : List Chunk} {c c' : Chunk} {w w' : World} (h : St w0 (A ++ c :: C) w) (hfp : c'.fp = c.fp) (hA : c'.A w')
    (hb : ∀ b, b ∉ c.fp → w'.heap[b]? = w.heap[b]?) (hsz : w'.heap.size = w.heap.size) (ho : w'.os = w.os) (ht : w'.tape = w.tape) (hout : w'.output = w.output) : St w0 (A ++ c' :: C) w' := by
  have hc := h.own c (by simp)
  have hold : ∀ b, b < w0.heap.size → b ∉ c.fp := fun b hlt hin => by have := hc.2 b hin; omega
  have apart : ∀ d, d ∈ A ∨ d ∈ C → ∀ b ∈ d.fp, b ∉ c.fp := by
    have hn := h.nodup
    rw [List.flatMap_append, List.flatMap_cons, List.nodup_append, List.nodup_append] at hn
    obtain ⟨_, ⟨_, _, h2⟩, h1⟩ := hn
    rintro d (hd | hd) b hbd hbc
    · exact h1 b (List.mem_flatMap.2 ⟨d, hd, hbd⟩) b (List.mem_append_left _ hbc) rfl
    · exact h2 b hbc b (List.mem_flatMap.2 ⟨d, hd, hbd⟩) rfl
  refine ⟨⟨ho.trans h.below.os, ht.trans h.below.tape, hout.trans h.below.output, by rw [hsz]; exact h.below.size, fun k hk => by rw [hb k (hold k hk)]; exact h.below.block k hk⟩, fun d hd => ?_, ?_⟩
  · simp only [List.mem_append, List.mem_cons] at hd
    rcases hd with hd | rfl | hd
    · have := h.own d (by simp [hd])
      exact ⟨d.sup w w' (fun b hbd => hb b (apart d (.inl hd) b hbd)) this.1, this.2⟩
    · exact ⟨hA, by rw [hfp]; exact hc.2⟩
    · have := h.own d (by simp [hd])
      exact ⟨d.sup w w' (fun b hbd => hb b (apart d (.inr hd) b hbd)) this.1, this.2⟩
  · have hn := h.nodup
    rw [List.flatMap_append, List.flatMap_cons] at hn ⊢
    rw [hfp]; exact hn

theorem St.setBox {A C : List Chunk} {b k : Nat} {T : TypeId} {l : List Value} {w : World} (h : St w0 (A ++ Chunk.box b T l :: C) w) (v : Value) : St w0 (A ++ Chunk.box b T (l.set k v) :: C) (w.setCell ⟨b, k, none⟩ v) :=
  h.set rfl (heap_setCell_same (h.own (Chunk.box b T l) (by simp)).1 v) (fun b' hb' => Below.heap_setCell _ _ _ _ (by simpa [Chunk.fp] using hb')) (by simp) rfl rfl rfl

theorem run_store_box {w : World} {b k : Nat} {T : TypeId} {l : List Value} {v : Value} (h : w.heap[b]? = some (.cells l.toArray T (0, 0))) (hk : k < l.length) (hv : v.oneCell' = true) :
    (store ⟨b, k, none⟩ v).run P w = .ok () (w.setCell ⟨b, k, none⟩ v) := by
  have hc : w.cell? ⟨b, k, none⟩ = some l[k] := cell_box h (by simp [hk])
  have hf : w.frozen? ⟨b, k, none⟩ = false := by simp [World.frozen?, h]
  rw [run_store P w _ v _ hv]
  simp [hc, hf]

def lset (l : List Value) : Nat → List Value → List Value
  | _, [] => l
  | k, v :: r => lset (l.set k v) (k + 1) r
theorem lset_length : ∀ (vs : List Value) (l : List Value) (k : Nat), (lset l k vs).length = l.length
  | [], _, _ => rfl
  | _ :: r, l, k => by simp [lset, lset_length r]

theorem run_storeCells_box {A C : List Chunk} {b k : Nat} {T : TypeId} : ∀ (vs : List Value) (i : Nat) {l : List Value} {w : World}, St w0 (A ++ Chunk.box b T l :: C) w → k + i + vs.length ≤ l.length → vs.all Value.oneCell' = true →
    ∃ w', (storeCells ⟨b, k, none⟩ vs i).run P w = .ok () w' ∧ St w0 (A ++ Chunk.box b T (lset l (k + i) vs) :: C) w'
  | [], i, l, w, hs, _, _ => ⟨w, rfl, hs⟩
  | v :: r, i, l, w, hs, hl, hv => by
    simp only [List.all_cons, Bool.and_eq_true] at hv
    simp only [List.length_cons] at hl
    have h1 := run_store_box (P := P) (v := v) (hs.own (Chunk.box b T l) (by simp)).1 (show k + i < l.length by omega) hv.1
    obtain ⟨w', h2, h3⟩ := run_storeCells_box (k := k) (A := A) (C := C) r (i + 1) (hs.setBox (k := k + i) v) (by simp; omega) hv.2
    refine ⟨w', ?_, by simpa [lset, Nat.add_assoc] using h3⟩
    simp only [storeCells, Sem.run_bind, Addr.add_lit, h1, Result.andThen_ok, h2]

def tySize (P : Program) (t : TypeId) : Option Nat := (P.info? t).map (·.size)
theorem OpH.store {A C : List Chunk} {t : TypeId} {x y : Operand} {b k : Nat} {T : TypeId} {l vs : List Value} {v : Value} (hx : ev E x = some (.pointer (some ⟨b, k, none⟩))) (hy : ev E y = some v) (hvs : v.cells = vs.toArray)
    (ht : tySize P t = some vs.length) (hl : Nat.ble (k + vs.length) l.length = true) (hv : vs.all Value.oneCell' = true)
    (hk : K undef (A ++ Chunk.box b T (lset l k vs) :: C)) : OpH P w0 (A ++ Chunk.box b T l :: C) E ⟨d, .store t x y, ty, pos, af, g⟩ K :=
  .of_run0 fun a w hg hs => by
    obtain ⟨w', h1, h2⟩ := run_storeCells_box (P := P) (k := k) vs 0 hs (by have := Nat.le_of_ble_eq_true hl; omega) hv
    obtain ⟨i, hi, his⟩ := Option.map_eq_some_iff.1 ht
    refine ⟨w', _, ?_, h2, hk⟩
    simp [execOp, hg.ev hx, hg.ev hy, Instr.storeAt, Instr.sureAddr, storeVar, hvs, sizeOf, typeInfo, hi, his, h1]

theorem OpH.call {f : FuncId} {xs : Array Operand} {tys : Array TypeId} {vs : List Value} (hxs : evs E xs.toList vs) (hf : callable P f = true)
    (hc : ∀ w, St w0 F w → Calls P f vs.toArray w fun e w' => ∃ v F', e = .returned v ∧ K v F' ∧ St w0 F' w') :
    OpH P w0 F E ⟨d, .call ⟨.value (.func f), xs, tys⟩, ty, pos, af, g⟩ K := fun a w hg hs K' Q' hK => by
  unfold Oper.wp
  rw [run_call rfl hxs hf hg w]
  exact (hc w hs).mono fun e w' ⟨v, F', he, hk, hs'⟩ => by subst he; exact hK v F' w' hk hs'

def WC (P : Program) (n : Nat) (w0 : World) (c : Code) (Q : Exit → Act → World → Prop) (E : Env) (F : List Chunk) : Prop := ∀ a w, Ag n E a → St w0 F w → c.wp P Q a w
def En (n : Nat) (w0 : World) (Q : Exit → Act → World → Prop) (e : Exit) (E : Env) (F : List Chunk) : Prop := ∀ a w, Ag n E a → St w0 F w → Q e a w

variable {c x y : Code}
theorem WL.nil (h : En n w0 Q .normal E F) : WL P n w0 ops Q [] E F := fun a w ha hs => wpList_nil (h a w ha hs)
theorem WC.seq (h : WC P n w0 x (Exit.then (fun a w => y.wp P Q a w) Q) E F) : WC P n w0 (.seq x y) Q E F := fun a w ha hs => wp_seq (h a w ha hs)
theorem En.next (h : WC P n w0 y Q E F) : En n w0 (Exit.then (fun a w => y.wp P Q a w) Q) .normal E F := h
theorem WC.region {id : Nat} {l : List Oper} (h : WL P n w0 l.toArray Q l E F) : WC P n w0 (.region id l.toArray false) Q E F := fun a w ha hs => wp_region_lit (h a w ha hs)
theorem WC.drawn {id : Nat} {l : List Oper} (E' : Env) (hm : P.follows .mixedOrders = true) (hB : Region.lexB .any l.toArray = true)
    (h : ∀ W, Lt P w0 F n l.toArray W → (∀ E1, Sub E' E1 → W [] E1) → W l E) (hk : En n w0 Q .normal E' F) : WC P n w0 (.region id l.toArray true) Q E F := fun a _ ha hs =>
  wp_region_quiet (C := St w0 F) hm hB hs.drew (h (fun l E => WQ P n w0 _ Q l E F) Lt.ofWQ (fun _ hs1 a1 ha1 => wpQuiet_nil fun w' hw' => hk a1 w' (ha1.sub hs1) hw') a ha)
theorem WC.light {id : Nat} {l : List Oper} (E' : Env)
    (h : ∀ W, Lt P w0 F n l.toArray W → (∀ E1, Sub E' E1 → W [] E1) → W l E) (hk : En n w0 Q .normal E' F) : WC P n w0 (.region id l.toArray false) Q E F :=
  WC.region (h (fun l E => WL P n w0 _ Q l E F) Lt.ofWL (fun _ hs1 => WL.nil fun a w ha hs => hk a w (ha.sub hs1) hs))
theorem WC.skip (h : En n w0 Q .normal E F) : WC P n w0 .skip Q E F := fun a w ha hs => wp_skip (h a w ha hs)
theorem WC.ret (h : En n w0 Q .ret E F) : WC P n w0 .ret Q E F := fun a w ha hs => wp_ret (h a w ha hs)
theorem WC.exit {id : Nat} (h : En n w0 Q (.exit id) E F) : WC P n w0 (.exit id) Q E F := fun a w ha hs => wp_exit (h a w ha hs)
theorem WC.block {id : Nat} (h : WC P n w0 c (Exit.inBlock id Q) E F) : WC P n w0 (.block id c) Q E F := fun a w ha hs => wp_block (h a w ha hs)
theorem WC.cond {o : Operand} {b : Bool} (ho : ev E o = some (.bool b)) (ht : b = true → WC P n w0 x Q E F) (hf : b = false → WC P n w0 y Q E F) : WC P n w0 (.cond o x y) Q E F :=
  fun a w ha hs => wp_cond_split (ha.get.ev ho) (fun e => ht e a w ha hs) (fun e => hf e a w ha hs)
theorem WC.wk (E' : Env) (F' : List Chunk) (hE : Sub E' E) (hF : ∀ w, St w0 F w → St w0 F' w) (h : WC P n w0 c Q E' F') : WC P n w0 c Q E F := fun a w ha hs => h a w (ha.sub hE) (hF w hs)
theorem En.wk {e : Exit} (E' : Env) (F' : List Chunk) (hE : Sub E' E) (hF : ∀ w, St w0 F w → St w0 F' w) (h : En n w0 Q e E' F') : En n w0 Q e E F := fun a w ha hs => h a w (ha.sub hE) (hF w hs)
theorem En.then_ret {f : Act → World → Prop} (h : En n w0 Q .ret E F) : En n w0 (Exit.then f Q) .ret E F := h
theorem En.then_exit {f : Act → World → Prop} {id : Nat} (h : En n w0 Q (.exit id) E F) : En n w0 (Exit.then f Q) (.exit id) E F := h
theorem En.block_ret {id : Nat} (h : En n w0 Q .ret E F) : En n w0 (Exit.inBlock id Q) .ret E F := h
theorem En.block_norm {id : Nat} (h : En n w0 Q .normal E F) : En n w0 (Exit.inBlock id Q) .normal E F := h
theorem En.block_exit {id : Nat} (h : En n w0 Q .normal E F) : En n w0 (Exit.inBlock id Q) (.exit id) E F := fun a w ha hs => by
  show (if id = id then Q .normal a w else Q (.exit id) a w)
  rw [if_pos rfl]; exact h a w ha hs
theorem En.block_exit' {id id' : Nat} (hne : Nat.beq id' id = false) (h : En n w0 Q (.exit id') E F) : En n w0 (Exit.inBlock id Q) (.exit id') E F := fun a w ha hs => by
  show (if id' = id then Q .normal a w else Q (.exit id') a w)
  rw [if_neg (Nat.ne_of_beq_eq_false hne)]; exact h a w ha hs

def Nx {τ : Type} (n : Nat) (w0 : World) (EI : τ → Env) (FI : τ → List Chunk) (PI : τ → Prop) (m : τ → Nat) (k : Nat) (a : Act) (w : World) : Prop := ∃ s, m s < k ∧ PI s ∧ Ag n (EI s) a ∧ St w0 (FI s) w
theorem WC.loop {τ : Type} (EI : τ → Env) (FI : τ → List Chunk) (PI : τ → Prop) (m : τ → Nat) (s0 : τ) (h0 : PI s0) (hE : Sub (EI s0) E) (hF : ∀ w, St w0 F w → St w0 (FI s0) w)
    (h : ∀ s, PI s → WC P n w0 c (Exit.then (Nx n w0 EI FI PI m (m s)) Q) (EI s) (FI s)) : WC P n w0 (.loop c) Q E F := fun a w ha hs => by
  refine wp_loop_ghost (fun k a w => ∃ s, m s = k ∧ PI s ∧ Ag n (EI s) a ∧ St w0 (FI s) w) (m s0) ⟨s0, rfl, h0, ha.sub hE, hF w hs⟩ ?_
  rintro k a w ⟨s, rfl, hp, ha, hs⟩
  refine wp_mono (h s hp a w ha hs) fun e a' w' hq => ?_
  cases e with
  | normal => obtain ⟨s', h1, h2, h3, h4⟩ := hq; exact ⟨m s', h1, s', rfl, h2, h3, h4⟩
  | _ => exact hq
theorem En.round {τ : Type} {EI : τ → Env} {FI : τ → List Chunk} {PI : τ → Prop} {m : τ → Nat} {k : Nat} (s : τ) (hm : m s < k) (hp : PI s) (hE : Sub (EI s) E) (hF : ∀ w, St w0 F w → St w0 (FI s) w) : En n w0 (Exit.then (Nx n w0 EI FI PI m k) Q) .normal E F :=
  fun _ w ha hs => ⟨s, hm, hp, ha.sub hE, hF w hs⟩

def resSem (r : ResultVar) (tmps : Array Value) : Sem Value := match r with
  | .tmp t => pure (tmps.getD t undef)
  | .cell t u => do loadVar u (← asAddr (tmps.getD t undef))
def Res (P : Program) (w0 : World) (F : List Chunk) (E : Env) (r : ResultVar) (v : Value) : Prop :=
  ∀ a w, Gets E a → St w0 F w → (resSem r a.tmps).run P w = .ok v w
theorem results_eq (fn : Func) (tmps : Array Value) : results fn tmps = (do let vs ← fn.results.mapM (fun r => resSem r tmps); pure (if h : vs.size = 1 then vs[0] else .tuple vs)) := by
  unfold results
  congr 1
theorem Res.tmp {t : Nat} {v : Value} (h : Env.get E t = some v) : Res P w0 F E (.tmp t) v := fun a w hg _ => by simp [resSem, hg t v h]
theorem Res.cell {t u b : Nat} {T : TypeId} {l : List Value} (h : Env.get E t = some (.pointer (some ⟨b, 0, none⟩))) (hm : Chunk.box b T l ∈ F) (ht : aggTy P u = some l.length) : Res P w0 F E (.cell t u) (.agg l.toArray) := fun _ w hg hs => by
  have h1 := run_loadCells_list (P := P) (w := w) ⟨b, 0, none⟩ l (fun j v hj => by rw [Addr.add_lit, Nat.zero_add]; exact cell_box (hs.mem hm) hj)
  simp [resSem, hg t _ h, asAddr, loadVar, (run_isAgg_agg ht w).1, (run_isAgg_agg ht w).2, h1]
theorem Res.cell1 {t u b : Nat} {T : TypeId} {v : Value} (h : Env.get E t = some (.pointer (some ⟨b, 0, none⟩))) (hm : Chunk.box b T [v] ∈ F) (ht : plainTy P u = true) : Res P w0 F E (.cell t u) v := fun _ w hg hs => by
  have h1 : w.cell? ⟨b, 0, none⟩ = some v := cell_box (hs.mem hm) rfl
  simp [resSem, hg t _ h, asAddr, loadVar, run_isAgg_plain ht w, h1]

variable {fn : Func} {R : Ending → World → Prop}
theorem En.ret1 {r : ResultVar} {v : Value} (hr : fn.results = #[r]) (h : Res P w0 F E r v) (hR : ∀ w, St w0 F w → R (.returned v) w) : En n w0 (bodyPost P fn R) .ret E F := fun a w ha hs => by
  refine bodyPost_ret (v := v) ?_ ha.defers (hR w hs)
  have h1 := h a w ha.get hs
  rw [results_eq, hr]
  simp [h1]
theorem En.ret2 {r1 r2 : ResultVar} {v1 v2 : Value} (hr : fn.results = #[r1, r2]) (h1 : Res P w0 F E r1 v1) (h2 : Res P w0 F E r2 v2) (hR : ∀ w, St w0 F w → R (.returned (.tuple #[v1, v2])) w) : En n w0 (bodyPost P fn R) .ret E F := fun a w ha hs => by
  refine bodyPost_ret (v := .tuple #[v1, v2]) ?_ ha.defers (hR w hs)
  have k1 := h1 a w ha.get hs
  have k2 := h2 a w ha.get hs
  rw [results_eq, hr]
  simp [k1, k2]
theorem En.ret3 {r1 r2 r3 : ResultVar} {v1 v2 v3 : Value} (hr : fn.results = #[r1, r2, r3]) (h1 : Res P w0 F E r1 v1) (h2 : Res P w0 F E r2 v2) (h3 : Res P w0 F E r3 v3) (hR : ∀ w, St w0 F w → R (.returned (.tuple #[v1, v2, v3])) w) : En n w0 (bodyPost P fn R) .ret E F := fun a w ha hs => by
  refine bodyPost_ret (v := .tuple #[v1, v2, v3]) ?_ ha.defers (hR w hs)
  have k1 := h1 a w ha.get hs
  have k2 := h2 a w ha.get hs
  have k3 := h3 a w ha.get hs
  rw [results_eq, hr]
  simp [k1, k2, k3]
theorem En.ret0 (hr : fn.results = #[]) (hR : ∀ w, St w0 F w → R (.returned (.tuple #[])) w) : En n w0 (bodyPost P fn R) .ret E F := fun _ w ha hs =>
  bodyPost_ret (v := .tuple #[]) (results_none hr _ _ _) ha.defers (hR w hs)
theorem En.end0 (hr : fn.results = #[]) (hR : ∀ w, St w0 F w → R (.returned (.tuple #[])) w) : En n w0 (bodyPost P fn R) .normal E F := fun _ w ha hs =>
  bodyPost_end (v := .tuple #[]) (results_none hr _ _ _) ha.defers (hR w hs)

def argEnv : Nat → List Value → Env
  | _, [] => []
  | k, v :: r => (k, v) :: argEnv (k + 1) r
theorem argEnv_get : ∀ (l : List Value) (k t : Nat) (v : Value), Env.get (argEnv k l) t = some v → k ≤ t ∧ l[t - k]? = some v
  | [], _, _, _, h => by simp [argEnv, Env.get] at h
  | u :: r, k, t, v, h => by
    simp only [argEnv, Env.get] at h
    cases hb : Nat.beq k t with
    | true => rw [hb] at h; have e := Nat.eq_of_beq_eq_true hb; subst e; exact ⟨Nat.le_refl _, by simpa using h⟩
    | false =>
      rw [hb] at h
      obtain ⟨h1, h2⟩ := argEnv_get r (k + 1) t v h
      refine ⟨by omega, ?_⟩
      have : t - k = (t - (k + 1)) + 1 := by omega
      rw [this]; exact h2
theorem enter {f : FuncId} {vs : List Value} {w : World} (hf : P.funcs[f]? = some fn) (hb : fn.body = some c) (hn : fn.ntmps = n) (hl : Nat.ble vs.length n = true) (hE : argEnv 0 vs = E) (h : WC P n w c (bodyPost P fn R) E []) : Calls P f vs.toArray w R := by
  have hl' : vs.length ≤ n := Nat.le_of_ble_eq_true hl
  refine calls_of_wp hf hb (h _ w ⟨?_, rfl, fun t v ht => ?_⟩ (St.start w))
  · simp [hn]; omega
  · subst hE
    obtain ⟨_, h2⟩ := argEnv_get vs 0 t v ht
    simp only [Nat.sub_zero] at h2
    have h3 : t < vs.length := (List.getElem?_eq_some_iff.1 h2).1
    rw [Array.getD_eq_getD_getElem?, Array.getElem?_append_left (by simpa using h3)]
    simp [h2]
end
end K
end Go.Proofs.YtmhalmnbgkpmnaaGreat
