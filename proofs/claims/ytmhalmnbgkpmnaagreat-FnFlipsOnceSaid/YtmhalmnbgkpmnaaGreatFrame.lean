/- From a walk of a law ('it returns true, whatever the arguments; nothing that was there turns') to what the given row asks. -/
import Derived.Test.YtmhalmnbgkpmnaaGreatData
import Derived.ProofKit
import Derived.Deep.Slices
namespace Go.Proofs.YtmhalmnbgkpmnaaGreat
open Go.RowKit Go.ChangeShapes Go.WideShapes Go.ChangeAt K
namespace K

section
variable {H : Type} {enc : TypeId × Value → H}

theorem trodAll_stays {P : Program} (hl : laidOutB P = true) {W W' : World} (hb : Below W.heap.size W W') : ∀ (ts : List TypeId) (vs : List Value) (ds : List (DataW H)) (ps : List MemPlace),
    ts.all (fun t => P.readableRec t && decide (t < P.types.size)) = true → DataW.TrodAll enc P W 0 (fun _ => true) true ts vs ds ps → (∀ x ∈ ps, x.block < W.heap.size) →
    DataW.TrodAll enc P W' 0 (fun b => decide (b < W.heap.size)) true ts vs ds ps
  | [], vs, ds, ps, _, h, _ => by
    obtain ⟨rfl, rfl, rfl⟩ := trodAll_nil h
    exact trodAll_mk0
  | t :: ts, vs, ds, ps, hr, h, hlt => by
    obtain ⟨v, vs', d, ds', p, q, rfl, rfl, rfl, h1, h2⟩ := trodAll_cons h
    simp only [List.all_cons, Bool.and_eq_true, decide_eq_true_eq] at hr
    exact ⟨p, q, Below.trod hl hr.1.1 hr.1.2 h1 hb (fun x hx => hlt x (List.mem_append_left _ hx)),
      trodAll_stays hl hb ts vs' ds' q (by simpa using hr.2) h2 (fun x hx => hlt x (List.mem_append_right _ hx)), rfl⟩

def LawWalk (C : Checked) (n : Nat) (fn : Func) : Prop := ∀ (H : Type) (enc : TypeId × Value → H) (W : World) (base : Nat) (args : Array Value) (ds : List (DataW H)) (p : List MemPlace),
  (∀ (j : Nat) t v, fn.params[j]? = some t → args[j]? = some v → Value.okWide C.prog W .any base t v) →
  DataW.TrodAll enc C.prog W 0 (fun _ => true) true fn.params.toList args.toList ds p →
  Calls C.prog n args W fun e W' => e = .returned (.bool true) ∧ Ext W W'

theorem law_frame {C : Checked} {os : Os} {n tb : Nat} {fn : Func} {s : ChangeSpec} (own : ownKnob C.prog.godebug = none) (lo : laidOutB C.prog = true) (started : os.Started) (noInit : C.prog.inits.idxOf? n = none) (hfn : C.prog.funcs[n]? = some fn)
    (hs : s.vars = []) (hsp : ∀ (ds : List (DataW H)), ds.length = fn.params.toList.length → s.fn H (ds ++ []) = { results := [.lit (.bool true)], args := ds })
    (hres : fn.resultTypes = #[tb]) (hb : C.prog.underlying tb = some .bool) (hrd : fn.params.toList.all (fun t => C.prog.readableRec t && decide (t < C.prog.types.size)) = true)
    (witness : ∃ (w : World) (tape : Tape) (i : Input), w.os = os ∧ (w.forCall tape i).Shaped C.prog ∧ i.vars = [] ∧ Input.okWide C.prog (w.forCall tape i) .any w.heap.size n i ∧
      s.pre6 enc C.prog fn [] false (w.forCall tape i).memory i.args ∧ ({} : Assume).holds C.prog (lone (Frame.enter C.prog n i.args .normal) [] (w.forCall tape i)))
    (walk : LawWalk C n fn) :
    ReturnsInHanded {} C os n .any (s.pre6 enc C.prog fn [] false) (s.post enc C.prog fn false true false false) := by
  refine returnsInHanded_of_change own started noInit hfn witness ?_
  intro W base args ds gs before hval hW _ _
  have hW' := hW
  obtain ⟨p, q, hA, hV, rfl, hfz, hnd⟩ := hW
  rw [hs] at hV
  obtain ⟨rfl, rfl⟩ := trodVars_none hV
  have hlen : ∀ (ts : List TypeId) (vs : List Value) (ds : List (DataW H)) (ps : List MemPlace), DataW.TrodAll enc C.prog W 0 (fun _ => true) true ts vs ds ps → ds.length = ts.length := by
    intro ts
    induction ts with
    | nil => intro vs ds ps h; obtain ⟨_, rfl, _⟩ := trodAll_nil h; rfl
    | cons t ts ih => intro vs ds ps h; obtain ⟨_, _, _, _, _, _, _, rfl, _, _, h2⟩ := trodAll_cons h; simp [ih _ _ _ h2]
  have hlt : ∀ x ∈ p, x.block < W.heap.size := fun x hx => by simpa using hW'.lt x (by simpa using hx)
  refine (walk H enc W base args ds p hval hA).mono fun e W' ⟨he, hx⟩ => ?_
  subst he
  have hf := hsp ds (hlen _ _ _ _ hA)
  refine ⟨_, rfl, ds, [], p ++ [], [], p, [], hW', ?_, ?_, ?_, Below.frame hx _, fun h => by cases h⟩
  · rw [hf, hres]
    exact trodAll_mk1 ⟨1, by simp [DataW.trod, Value.cells, hb]⟩
  · rw [hf]
    exact trodAll_stays lo hx _ _ _ _ hrd hA hlt
  · rw [hf, hs]; rfl


section
variable {P : Program} {w : World} {base : Nat} {spare : Nat → Bool} {held : Bool} {fuel : Nat} {t : TypeId} {cs : List Value} {x : DataW H × List MemPlace}

def fldAt (P : Program) (t i : Nat) : Option (Nat × Nat × Nat) := match P.underlying t with
  | some (.struct fs) => (fs[i]?).map fun f => (f.type, f.offset, P.cellsOf f.type)
  | _ => none
theorem field_at {i ft off n : Nat} (h : DataW.trod enc P w base spare held fuel t cs = some x) (hi : fldAt P t i = some (ft, off, n)) : ∃ m y, DataW.trod enc P w base spare held m ft ((cs.drop off).take n) = some y := by
  unfold fldAt at hi
  split at hi
  · rename_i fs hu
    obtain ⟨f, hf, he⟩ := Option.map_eq_some_iff.1 hi
    simp only [Prod.mk.injEq] at he
    obtain ⟨rfl, rfl, rfl⟩ := he
    obtain ⟨xs, m, _, _, _, hlen, hg⟩ := DataW.trod_struct hu h
    have hlt : i < xs.length := by rw [hlen]; exact (Array.getElem?_eq_some_iff.1 hf).1
    exact ⟨m, xs[i], by rw [hg i f hf]; exact List.getElem?_eq_getElem hlt⟩
  · cases hi
theorem I64.of_wf {n : Int} (h : (Lit.int .i64 n).wf = true) : I64 n := by
  simp [Lit.wf, IntKind.min, IntKind.max, IntKind.signed, IntKind.bits] at h
  exact ⟨by omega, by omega⟩
theorem field_int {i ft off : Nat} (h : DataW.trod enc P w base spare held fuel t cs = some x) (hi : fldAt P t i = some (ft, off, 1)) (hk : P.underlying ft = some (.int .i64)) : ∃ n, (cs.drop off).take 1 = [.int .i64 n] ∧ I64 n := by
  obtain ⟨m, y, hy⟩ := field_at h hi
  obtain ⟨n, h1, _, h3⟩ := DataW.trod_int hk hy
  exact ⟨n, h1, I64.of_wf h3⟩
theorem field_bool {i ft off : Nat} (h : DataW.trod enc P w base spare held fuel t cs = some x) (hi : fldAt P t i = some (ft, off, 1)) (hk : P.underlying ft = some .bool) : ∃ b, (cs.drop off).take 1 = [.bool b] := by
  obtain ⟨m, y, hy⟩ := field_at h hi
  obtain ⟨b, h1, _⟩ := DataW.trod_bool hk hy
  exact ⟨b, h1⟩
theorem arg_struct {r : Reach} {b0 n : Nat} {v : Value} {d : DataW H} {p : List MemPlace} (hn : aggTy P t = some n) (hs : (match P.underlying t with | some (.struct _) => true | _ => false) = true) (hv : Value.okWide P w r b0 t v) (h : DataW.Trod enc P w base spare held t v d p) :
    ∃ l : List Value, v = .agg l.toArray ∧ l.length = n ∧ ∃ fuel, DataW.trod enc P w base spare held fuel t l = some (d, p) := by
  split at hs
  · rename_i fs hu
    obtain ⟨cs, rfl, hsz⟩ := okWide_struct hu hv
    obtain ⟨fuel, hf⟩ := h
    refine ⟨cs.toList, by simp, ?_, fuel, by simpa [Value.cells] using hf⟩
    unfold aggTy at hn
    rw [hu] at hn
    simp only at hn
    obtain ⟨i, hi, rfl⟩ := Option.map_eq_some_iff.1 hn
    simp [Program.cellsOf, hi] at hsz
    simpa using hsz
  · cases hs
theorem arg_int {r : Reach} {b0 : Nat} {v : Value} {d : DataW H} {p : List MemPlace} (hk : P.underlying t = some (.int .i64)) (hv : Value.okWide P w r b0 t v) (h : DataW.Trod enc P w base spare held t v d p) : ∃ n, v = .int .i64 n ∧ I64 n := by
  obtain ⟨n, rfl, _, _, wn⟩ := open_int hk hv h
  exact ⟨n, rfl, I64.of_wf wn⟩
theorem arg_bool {r : Reach} {b0 : Nat} {v : Value} {d : DataW H} {p : List MemPlace} (hk : P.underlying t = some .bool) (hv : Value.okWide P w r b0 t v) (h : DataW.Trod enc P w base spare held t v d p) : ∃ b, v = .bool b := by
  obtain ⟨b, rfl, _, _⟩ := open_bool hk hv h
  exact ⟨b, rfl⟩
theorem arg_string {r : Reach} {b0 : Nat} {v : Value} {d : DataW H} {p : List MemPlace} (hk : P.underlying t = some .string) (hv : Value.okWide P w r b0 t v) (h : DataW.Trod enc P w base spare held t v d p) : ∃ s : ByteArray, v = .string s ∧ s.size ≤ 9223372036854775807 := by
  obtain ⟨s, rfl, _, _, hs⟩ := ChangeMaps.open_string hk hv h
  refine ⟨s, rfl, ?_⟩
  unfold maxLen at hs; omega
theorem slice1_at {e : TypeId} (ht : P.underlying t = some (.slice e)) (hc : P.cellsOf e = 1) (h : DataW.trod enc P w base spare held fuel t cs = some x) {p : Value → Prop} (hp : ∀ (m : Nat) v y, DataW.trod enc P w base spare held m e [v] = some y → p v) :
    ∃ (a : Option Addr) (n c : Nat) (V : Nat → Value), cs = [.slice a n c] ∧ n ≤ 9223372036854775807 ∧ ∀ i, i < n → p (V i) ∧ ∃ b o, a = some ⟨b, o, .none⟩ ∧ w.cell? ⟨b, o + i, .none⟩ = some (V i) := by
  rcases Go.Deep.open_slice1 ht hc h with ⟨rfl, _⟩ | ⟨a, len, cap, m, n, V, D, Pl, rfl, _, hl, hm, hmm, _, hV⟩
  · exact ⟨.none, 0, 0, fun _ => undef, rfl, by omega, fun i hi => by omega⟩
  · refine ⟨some a, len, cap, V, rfl, by unfold maxLen at hm; omega, fun i hi => ?_⟩
    have hm' : len ≤ m := by rw [hmm]; split <;> omega
    obtain ⟨h1, h2⟩ := hV i (by omega)
    have h0 := (hV 0 (by omega)).1
    have hs : a.spot = .none := by
      cases hsp : a.spot with
      | none => rfl
      | some k =>
        have : a.add 0 = a := by simp [Addr.add]
        rw [this] at h0
        unfold World.cell? at h0
        rw [hsp] at h0
        split at h0 <;> simp at h0
    obtain ⟨b, o, sp⟩ := a
    subst hs
    exact ⟨hp _ _ _ h2, b, o, rfl, by rw [← Addr.add_lit]; exact h1⟩
def intOf : Value → Int | .int _ n => n | _ => 0
def boolOf : Value → Bool | .bool b => b | _ => false
theorem slice_ints {e : TypeId} (ht : P.underlying t = some (.slice e)) (he : P.underlying e = some (.int .i64)) (hc : P.cellsOf e = 1) (h : DataW.trod enc P w base spare held fuel t cs = some x) : ∃ a n c xs, cs = [.slice a n c] ∧ RdI w a n xs := by
  obtain ⟨a, n, c, V, hcs, hn, hV⟩ := slice1_at ht hc h (p := fun v => ∃ k, v = .int .i64 k ∧ I64 k) (fun m v y hy => by
    obtain ⟨k, h1, _, h3⟩ := DataW.trod_int he hy
    exact ⟨k, by simpa using h1, I64.of_wf h3⟩)
  refine ⟨a, n, c, (List.range n).map fun i => intOf (V i), hcs, by simp, hn, fun i k hk => ?_⟩
  simp only [List.getElem?_map, Option.map_eq_some_iff] at hk
  obtain ⟨j, hj, rfl⟩ := hk
  obtain ⟨hjl, rfl⟩ := List.getElem?_eq_some_iff.1 hj
  rw [List.getElem_range]
  obtain ⟨⟨k, hk, hI⟩, b, o, rfl, hcell⟩ := hV i (by simpa using hjl)
  rw [hk] at hcell ⊢
  exact ⟨hI, b, o, rfl, hcell⟩
theorem slice_bools {e : TypeId} (ht : P.underlying t = some (.slice e)) (he : P.underlying e = some .bool) (hc : P.cellsOf e = 1) (h : DataW.trod enc P w base spare held fuel t cs = some x) : ∃ a n c xs, cs = [.slice a n c] ∧ RdB w a n xs := by
  obtain ⟨a, n, c, V, hcs, hn, hV⟩ := slice1_at ht hc h (p := fun v => ∃ k, v = .bool k) (fun m v y hy => by
    obtain ⟨k, h1, _⟩ := DataW.trod_bool he hy
    exact ⟨k, by simpa using h1⟩)
  refine ⟨a, n, c, (List.range n).map fun i => boolOf (V i), hcs, by simp, hn, fun i k hk => ?_⟩
  simp only [List.getElem?_map, Option.map_eq_some_iff] at hk
  obtain ⟨j, hj, rfl⟩ := hk
  obtain ⟨hjl, rfl⟩ := List.getElem?_eq_some_iff.1 hj
  rw [List.getElem_range]
  obtain ⟨⟨k, hk⟩, b, o, rfl, hcell⟩ := hV i (by simpa using hjl)
  rw [hk] at hcell ⊢
  exact ⟨b, o, rfl, hcell⟩
theorem field_ints {i ft off e : Nat} (h : DataW.trod enc P w base spare held fuel t cs = some x) (hi : fldAt P t i = some (ft, off, 1)) (hk : P.underlying ft = some (.slice e)) (he : P.underlying e = some (.int .i64)) (hc : P.cellsOf e = 1) : ∃ a n c xs, (cs.drop off).take 1 = [.slice a n c] ∧ RdI w a n xs := by
  obtain ⟨m, y, hy⟩ := field_at h hi
  exact slice_ints hk he hc hy
theorem field_bools {i ft off e : Nat} (h : DataW.trod enc P w base spare held fuel t cs = some x) (hi : fldAt P t i = some (ft, off, 1)) (hk : P.underlying ft = some (.slice e)) (he : P.underlying e = some .bool) (hc : P.cellsOf e = 1) : ∃ a n c xs, (cs.drop off).take 1 = [.slice a n c] ∧ RdB w a n xs := by
  obtain ⟨m, y, hy⟩ := field_at h hi
  exact slice_bools hk he hc hy
theorem arg_slice {e : TypeId} {r : Reach} {b0 : Nat} {v : Value} {d : DataW H} {p : List MemPlace} {Q : Option Addr → Nat → Prop} (ht : P.underlying t = some (.slice e)) (hv : Value.okWide P w r b0 t v) (h : DataW.Trod enc P w base spare held t v d p)
    (hq : ∀ fuel cs, DataW.trod enc P w base spare held fuel t cs = some (d, p) → ∃ a n c, cs = [.slice a n c] ∧ Q a n) : ∃ a n c, v = .slice a n c ∧ Q a n := by
  obtain ⟨a, n, c, rfl⟩ := okWide_slice ht hv
  obtain ⟨fuel, hf⟩ := h
  obtain ⟨a', n', c', he, hx⟩ := hq _ _ hf
  simp [Value.cells] at he
  obtain ⟨rfl, rfl, rfl⟩ := he
  exact ⟨_, _, _, rfl, hx⟩
theorem arg_ints {e : TypeId} {r : Reach} {b0 : Nat} {v : Value} {d : DataW H} {p : List MemPlace} (ht : P.underlying t = some (.slice e)) (he : P.underlying e = some (.int .i64)) (hc : P.cellsOf e = 1) (hv : Value.okWide P w r b0 t v) (h : DataW.Trod enc P w base spare held t v d p) : ∃ a n c xs, v = .slice a n c ∧ RdI w a n xs := by
  obtain ⟨a, n, c, h1, xs, h2⟩ := arg_slice (Q := fun a n => ∃ xs, RdI w a n xs) ht hv h (fun _ _ hf => by obtain ⟨a, n, c, xs, h1, h2⟩ := slice_ints ht he hc hf; exact ⟨a, n, c, h1, xs, h2⟩)
  exact ⟨a, n, c, xs, h1, h2⟩
theorem arg_bools {e : TypeId} {r : Reach} {b0 : Nat} {v : Value} {d : DataW H} {p : List MemPlace} (ht : P.underlying t = some (.slice e)) (he : P.underlying e = some .bool) (hc : P.cellsOf e = 1) (hv : Value.okWide P w r b0 t v) (h : DataW.Trod enc P w base spare held t v d p) : ∃ a n c xs, v = .slice a n c ∧ RdB w a n xs := by
  obtain ⟨a, n, c, h1, xs, h2⟩ := arg_slice (Q := fun a n => ∃ xs, RdB w a n xs) ht hv h (fun _ _ hf => by obtain ⟨a, n, c, xs, h1, h2⟩ := slice_bools ht he hc hf; exact ⟨a, n, c, h1, xs, h2⟩)
  exact ⟨a, n, c, xs, h1, h2⟩

end
end
end K
end Go.Proofs.YtmhalmnbgkpmnaaGreat
