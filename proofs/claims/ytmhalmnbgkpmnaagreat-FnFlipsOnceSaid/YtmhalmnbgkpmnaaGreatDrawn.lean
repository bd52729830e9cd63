/- Regions whose operations come in an order that the tape draws, some of which make memory: what yields one value may be taken first. -/
import Derived.Test.YtmhalmnbgkpmnaaGreatCore
namespace Go.Proofs.YtmhalmnbgkpmnaaGreat
open Go.RowKit
namespace K

section
variable {P : Program} {n : Nat} {w0 : World} {ops : Array Oper} {Q : Exit → Act → World → Prop} {F0 : List Chunk}

def Qn (Q : Exit → Act → World → Prop) : Exit → Act → World → Prop
  | .normal, a, w => Q .normal a w
  | .outgrown, a, w => Q .outgrown a w
  | _, _, _ => False
theorem Qn.imp : ∀ (e : Exit) (a : Act) (w : World), Qn Q e a w → Q e a w := fun e a w h => by
  cases e <;> first | exact h | exact (h : False).elim

def LightAt (P : Program) (w0 : World) (ops : Array Oper) (F0 : List Chunk) (o : Oper) (v : Value) (a : Act) : Prop :=
  (Region.wanted o (yielded ops a.tmps) = true ∧ ∀ w, (∃ H, St w0 (H ++ F0) w) → o.quietAt P a (fun w' => Ext w w') w v) ∨
  (Region.wanted o (yielded ops a.tmps) = false ∧ v = undef)

theorem LightAt.of_same {o : Oper} {v : Value} {a a' : Act} (hy : LightAt P w0 ops F0 o v a) (he : execOp a'.eval o = execOp a.eval o)
    (hw : Region.wanted o (yielded ops a'.tmps) = Region.wanted o (yielded ops a.tmps)) : LightAt P w0 ops F0 o v a' := by
  unfold LightAt Oper.quietAt at *
  rw [he, hw]
  exact hy

theorem LightAt.wpOp {i : Nat} {o : Oper} {v : Value} {a : Act} (hi : ops[i]? = some o) (hy : LightAt P w0 ops F0 o v a)
    {K : Act → World → Prop} {w : World} {H : List Chunk} (hS : St w0 (H ++ F0) w) (h : ∀ w', St w0 (H ++ F0) w' → K (a.put o.dst v) w') : Go.wpOp P ops Q i K a w := by
  unfold Go.wpOp
  simp only [hi]
  rcases hy with ⟨hw, hv⟩ | ⟨hw, rfl⟩
  · simp only [hw, if_true]
    have h3 := hv w ⟨H, hS⟩
    refine .inl ?_
    unfold Oper.quietAt at h3
    unfold Oper.wp
    generalize (execOp a.eval o).run P w = r at *
    cases r with
    | ok n w' =>
      cases n <;> simp only [Oper.quietUpon] at h3 <;> simp only [Oper.upon]
      case value u => obtain ⟨e1, e2⟩ := h3; rw [e1, e2]; exact h _ hS
      case skip => obtain ⟨e1, e2⟩ := h3; rw [e1, ← e2]; exact h _ hS
      case enter f args =>
        obtain ⟨e1, hc⟩ := h3
        rw [e1]
        exact hc.mono fun e w'' ⟨he, hw''⟩ => by subst he; exact h _ (hS.ext hw'')
    | halt x w' => simp only [Oper.quietUpon] at h3
  · simp only [hw, Bool.false_eq_true, if_false]; exact h _ hS

theorem wpOp_putL {j : Nat} {oi oj : Oper} {v : Value} (hj : ops[j]? = some oj) (hap : oi.apart ops oj = true)
    (hsi : ∀ cs b, oi.op ≠ .select cs b) (hsj : ∀ cs b, oj.op ≠ .select cs b) {K : Act → World → Prop} {a : Act} {w : World}
    (hy : LightAt P w0 ops F0 oi v a) (h : Go.wpOp P ops (Qn Q) j K (a.put oi.dst v) w) :
    Go.wpOp P ops (Qn Q) j (fun a' w' => LightAt P w0 ops F0 oi v a' ∧ K (a'.put oi.dst v) w') a w := by
  obtain ⟨h1, h2, h3⟩ := Oper.apart_spec hap
  have keep : ∀ (a : Act), LightAt P w0 ops F0 oi v a → ∀ u, LightAt P w0 ops F0 oi v (a.put oj.dst u) := fun a hy u =>
    hy.of_same (execOp_put oi hsi a oj.dst u h3) (wanted_put oi a oj.dst u h3)
  have keepD : ∀ d, LightAt P w0 ops F0 oi v { a with defers := d :: a.defers } := fun d => hy.of_same rfl rfl
  unfold Go.wpOp at *
  simp only [hj] at *
  rw [wanted_put oj a oi.dst v h1] at h
  split
  · rename_i hw
    simp only [hw, if_true] at h
    rcases h with h | ⟨hasks, hlets⟩
    case inr => exact .inr ⟨by unfold Oper.asks at *; rw [execOp_put oj hsj a oi.dst v h1] at hasks; exact hasks, hlets⟩
    refine .inl ?_
    unfold Oper.wp at *
    rw [execOp_put oj hsj a oi.dst v h1] at h
    generalize (execOp a.eval oj).run P w = r at *
    cases r with
    | ok n w' =>
      cases n <;> simp only [Oper.upon] at h ⊢
      case value u => exact ⟨keep a hy u, by rw [← Act.put_comm a v u h2]; exact h⟩
      case skip => exact ⟨keep a hy _, by rw [← Act.put_comm a v undef h2]; exact h⟩
      case defer d =>
        refine ⟨keep _ (keepD d) _, ?_⟩
        rw [← Act.put_comm _ v undef h2, ← Act.put_defers]
        exact h
      case enter f args =>
        refine Calls.mono h fun e w'' he => ?_
        cases e with
        | returned u => exact ⟨keep a hy u, by rw [← Act.put_comm a v u h2]; exact he⟩
        | panicked c => exact he
        | outgrown => exact he
      case row row args => exact Rows.mono h fun u w'' he => ⟨keep a hy u, by rw [← Act.put_comm a v u h2]; exact he⟩
    | halt x w' =>
      cases x <;> simp only [Oper.upon] at h ⊢
      case panic u => exact h
  · rename_i hw
    simp only [hw] at h
    exact ⟨keep a hy _, by rw [← Act.put_comm a v undef h2]; exact h⟩

def WA (P : Program) (w0 : World) (ops : Array Oper) (Q : Exit → Act → World → Prop) (F0 : List Chunk) : Nat → Array Bool → Act → List Chunk → Prop
  | 0, listed, a, H => Region.ready .any ops listed = [] ∧ ∀ w, St w0 (H ++ F0) w → Q .normal a w
  | fuel + 1, listed, a, H =>
    (Region.ready .any ops listed = [] → ∀ w, St w0 (H ++ F0) w → Q .normal a w) ∧
    ∀ i ∈ Region.ready .any ops listed, ∀ w, St w0 (H ++ F0) w → Go.wpOp P ops (Qn Q) i (fun a' w' => ∃ H', St w0 (H' ++ F0) w' ∧ WA P w0 ops Q F0 fuel (listed.setIfInBounds i true) a' H') a w

theorem wpAny_of_WA : ∀ (fuel : Nat) (listed : Array Bool) (a : Act) (H : List Chunk) (w : World), St w0 (H ++ F0) w → WA P w0 ops Q F0 fuel listed a H → wpAny P .any ops (Qn Q) fuel listed a w
  | 0, _, _, _, w, hs, h => ⟨h.1, h.2 w hs⟩
  | fuel + 1, _, _, _, w, hs, h => ⟨fun h0 => h.1 h0 w hs, fun i hi => wpOp_mono (fun a' w' ⟨H', hs', h'⟩ => wpAny_of_WA fuel _ a' H' w' hs' h') (h.2 i hi w hs)⟩

theorem WA_first {i : Nat} {oi : Oper} {v : Value} (hi : ops[i]? = some oi) (hsel : ∀ (j : Nat) (o : Oper) cs b, ops[j]? = some o → o.op ≠ .select cs b) :
    ∀ (fuel : Nat) (listed : Array Bool) (a : Act) (H : List Chunk),
      (∀ j oj, ops[j]? = some oj → j ≠ i → listed.getD j true = false → (∀ e ∈ oj.after, Region.binds .any e = true → e.on ≠ i) → oi.apart ops oj = true) →
      i ∈ Region.ready .any ops listed → LightAt P w0 ops F0 oi v a →
      WA P w0 ops Q F0 fuel (listed.setIfInBounds i true) (a.put oi.dst v) H → WA P w0 ops Q F0 (fuel + 1) listed a H := by
  intro fuel
  induction fuel with
  | zero =>
    intro listed a H _ hr hy h
    refine ⟨fun h => (by rw [h] at hr; cases hr), fun j hj w hs => ?_⟩
    by_cases hji : j = i
    · subst hji; exact hy.wpOp hi hs fun w' hs' => ⟨H, hs', h⟩
    · have := ready_mono hj hji
      rw [h.1] at this
      cases this
  | succ fuel ih =>
    intro listed a H hfree hr hy h
    refine ⟨fun h => (by rw [h] at hr; cases hr), fun j hj w hs => ?_⟩
    by_cases hji : j = i
    · subst hji; exact hy.wpOp hi hs fun w' hs' => ⟨H, hs', h⟩
    · have h1 := h.2 j (ready_mono hj hji) w hs
      obtain ⟨hjun, oj, hoj, hall⟩ := mem_ready.1 hj
      have hnot : ∀ e ∈ oj.after, Region.binds .any e = true → e.on ≠ i := fun e he hb heq => by
        have h1 := hall e he hb
        have h0 := (mem_ready.1 hr).1
        rw [heq] at h1
        rcases Nat.lt_or_ge i listed.size with h' | h'
        · simp [h'] at h0 h1; rw [h0] at h1; cases h1
        · simp [Array.getElem?_eq_none h'] at h1
      have h2 := wpOp_putL hoj (hfree j oj hoj hji hjun hnot) (fun cs b => hsel i oi cs b hi) (fun cs b => hsel j oj cs b hoj) hy h1
      have hfree' : ∀ k ok, ops[k]? = some ok → k ≠ i → (listed.setIfInBounds j true).getD k true = false →
          (∀ e ∈ ok.after, Region.binds .any e = true → e.on ≠ i) → oi.apart ops ok = true := fun k ok hk hki hun hno => by
        refine hfree k ok hk hki ?_ hno
        by_cases hjk : j = k
        · subst hjk; exact hjun
        · rw [getD_set_ne true hjk] at hun; exact hun
      refine wpOp_mono (fun a' w' ⟨h3, H', hs', h4⟩ => ⟨H', hs', ih (listed.setIfInBounds j true) a' H' hfree' (ready_mono hr (Ne.symm hji)) h3 ?_⟩) h2
      rw [Array.setIfInBounds_comm _ _ hji]
      exact h4

theorem WA_rebase {H0 : List Chunk} : ∀ (fuel : Nat) (listed : Array Bool) (a : Act) (H : List Chunk), WA P w0 ops Q (H0 ++ F0) fuel listed a H → WA P w0 ops Q F0 fuel listed a (H ++ H0)
  | 0, _, _, H, h => ⟨h.1, fun w hs => h.2 w (by rw [List.append_assoc] at hs; exact hs)⟩
  | fuel + 1, _, _, H, h => ⟨fun h0 w hs => h.1 h0 w (by rw [List.append_assoc] at hs; exact hs), fun i hi w hs =>
      wpOp_mono (fun a' w' ⟨H', hs', h'⟩ => ⟨H' ++ H0, by rw [List.append_assoc]; exact hs', WA_rebase fuel _ a' H' h'⟩) (h.2 i hi w (by rw [List.append_assoc] at hs; exact hs))⟩

def WAE (P : Program) (n : Nat) (w0 : World) (ops : Array Oper) (Q : Exit → Act → World → Prop) (F0 : List Chunk) (fuel : Nat) (listed : List Bool) (E : Env) (H : List Chunk) : Prop :=
  ∀ a, Ag n E a → WA P w0 ops Q F0 fuel listed.toArray a H

variable {fuel : Nat} {listed : List Bool} {E : Env} {H : List Chunk}

theorem WC.drawnH {id : Nat} {l : List Oper} {F : List Chunk} (H : List Chunk) (F0 : List Chunk) (hF : ∀ w, St w0 F w → St w0 (H ++ F0) w) (hm : P.follows .mixedOrders = true)
    (h : WAE P n w0 l.toArray Q F0 l.length (List.replicate l.length false) E H) : WC P n w0 (.region id l.toArray true) Q E F := fun a w ha hs => by
  refine wp_mono (wp_region_any hm (Q := Qn Q) ?_) Qn.imp
  have := wpAny_of_WA (Q := Q) _ _ a H w.drew (hF _ hs.drew) (h a ha)
  simpa using this

theorem setl (l : List Bool) (i : Nat) : l.toArray.setIfInBounds i true = (l.set i true).toArray := by simp

theorem WAE.take {i d : Nat} {oi : Oper} {v : Value} (hi : ops[i]? = some oi) (hs : Region.noSelect ops = true) (hf : Region.free .any ops listed.toArray i = true) (hr : (Region.ready .any ops listed.toArray).contains i = true)
    (hd : oi.dst = some d) (hn : Nat.blt d n = true) (hw : wantE ops oi.guard E = some true) (hv : OpV P w0 F0 E oi v)
    (h : WAE P n w0 ops Q F0 fuel (listed.set i true) ((d, v) :: E) H) : WAE P n w0 ops Q F0 (fuel + 1) listed E H := fun a ha => by
  refine WA_first hi (Region.noSelect_spec hs) fuel listed.toArray a H (Region.free_spec hi hf) (by simpa using hr) (v := v) (.inl ⟨wanted_of ha.get hw, fun w ⟨H', hst⟩ => hv a w ha.get ?_⟩) ?_
  · clear h
    induction H' with
    | nil => exact hst
    | cons c r ih => exact ih hst.drop
  · rw [setl, hd]; exact h _ (ha.put hn v)
theorem WAE.skip {i d : Nat} {oi : Oper} (hi : ops[i]? = some oi) (hs : Region.noSelect ops = true) (hf : Region.free .any ops listed.toArray i = true) (hr : (Region.ready .any ops listed.toArray).contains i = true)
    (hd : oi.dst = some d) (hn : Nat.blt d n = true) (hw : wantE ops oi.guard E = some false)
    (h : WAE P n w0 ops Q F0 fuel (listed.set i true) ((d, undef) :: E) H) : WAE P n w0 ops Q F0 (fuel + 1) listed E H := fun a ha => by
  refine WA_first hi (Region.noSelect_spec hs) fuel listed.toArray a H (Region.free_spec hi hf) (by simpa using hr) (v := undef) (.inr ⟨wanted_of ha.get hw, rfl⟩) ?_
  rw [setl, hd]; exact h _ (ha.put hn undef)

def AllR (P : Program) (n : Nat) (w0 : World) (ops : Array Oper) (Q : Exit → Act → World → Prop) (F0 : List Chunk) (fuel : Nat) (listed : List Bool) (E : Env) (H : List Chunk) (rs : List Nat) : Prop :=
  ∀ i ∈ rs, ∀ a, Ag n E a → ∀ w, St w0 (H ++ F0) w → Go.wpOp P ops (Qn Q) i (fun a' w' => ∃ H', St w0 (H' ++ F0) w' ∧ WA P w0 ops Q F0 fuel (listed.toArray.setIfInBounds i true) a' H') a w
theorem WAE.all {rs : List Nat} (hr : Region.ready .any ops listed.toArray = rs) (hne : rs.isEmpty = false) (h : AllR P n w0 ops Q F0 fuel listed E H rs) : WAE P n w0 ops Q F0 (fuel + 1) listed E H := fun a ha =>
  ⟨fun h0 => (by rw [hr] at h0; rw [h0] at hne; cases hne), fun i hi w hs => h i (hr ▸ hi) a ha w hs⟩
theorem AllR.nil : AllR P n w0 ops Q F0 fuel listed E H [] := fun _ h => by cases h
theorem AllR.cons {i d : Nat} {o : Oper} {rs : List Nat} (hi : ops[i]? = some o) (hd : o.dst = some d) (hn : Nat.blt d n = true) (hw : wantE ops o.guard E = some true)
    (h : OpH P w0 (H ++ F0) E o (fun v F' => ∃ H', F' = H' ++ F0 ∧ WAE P n w0 ops Q F0 fuel (listed.set i true) ((d, v) :: E) H')) (hr : AllR P n w0 ops Q F0 fuel listed E H rs) : AllR P n w0 ops Q F0 fuel listed E H (i :: rs) := fun j hj a ha w hs => by
  rcases List.mem_cons.1 hj with rfl | hj
  · unfold Go.wpOp
    simp only [hi]
    rw [if_pos (wanted_of ha.get hw)]
    refine .inl (h a w ha.get hs _ _ fun v F' w' ⟨H', e, hk⟩ hs' => ?_)
    subst e
    rw [hd, setl]
    exact ⟨H', hs', hk _ (ha.put hn v)⟩
  · exact hr j hj a ha w hs
theorem AllR.cons0 {i : Nat} {o : Oper} {rs : List Nat} (hi : ops[i]? = some o) (hd : o.dst = none) (hw : wantE ops o.guard E = some true)
    (h : OpH P w0 (H ++ F0) E o (fun _ F' => ∃ H', F' = H' ++ F0 ∧ WAE P n w0 ops Q F0 fuel (listed.set i true) E H')) (hr : AllR P n w0 ops Q F0 fuel listed E H rs) : AllR P n w0 ops Q F0 fuel listed E H (i :: rs) := fun j hj a ha w hs => by
  rcases List.mem_cons.1 hj with rfl | hj
  · unfold Go.wpOp
    simp only [hi]
    rw [if_pos (wanted_of ha.get hw)]
    refine .inl (h a w ha.get hs _ _ fun v F' w' ⟨H', e, hk⟩ hs' => ?_)
    subst e
    rw [hd, setl]
    exact ⟨H', hs', hk _ ha⟩
  · exact hr j hj a ha w hs
theorem WAE.split {t : Nat} {A : Bool} (hA : Env.get E t = some (.bool A)) (hT : A = true → WAE P n w0 ops Q F0 fuel listed ((t, .bool true) :: E) H) (hF : A = false → WAE P n w0 ops Q F0 fuel listed ((t, .bool false) :: E) H) : WAE P n w0 ops Q F0 fuel listed E H := fun a ha => by
  cases A with
  | true => exact hT rfl a (ha.sub (Sub.cons hA (Sub.refl E)))
  | false => exact hF rfl a (ha.sub (Sub.cons hA (Sub.refl E)))
theorem WAE.rebase {H0 : List Chunk} (h : WAE P n w0 ops Q (H0 ++ F0) fuel listed E H) : WAE P n w0 ops Q F0 fuel listed E (H ++ H0) := fun a ha => WA_rebase _ _ a H (h a ha)
theorem WAE.done (hr : Region.ready .any ops listed.toArray = []) (h : En n w0 Q .normal E (H ++ F0)) : ∀ fuel, WAE P n w0 ops Q F0 fuel listed E H
  | 0 => fun a ha => ⟨hr, fun w hs => h a w ha hs⟩
  | _ + 1 => fun a ha => ⟨fun _ w hs => h a w ha hs, by rw [hr]; simp⟩
end
end K
end Go.Proofs.YtmhalmnbgkpmnaaGreat
