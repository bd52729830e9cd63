/- The builtin copy, into a block of the call's own. -/
import Derived.Laws.CopyRow
import Derived.Test.YtmhalmnbgkpmnaaGreatOwn
namespace Go.Proofs.YtmhalmnbgkpmnaaGreat
open Go.RowKit
namespace K
section
variable {P : Program} {w0 : World} {E : Env} {d : Option Tmp} {ty : TypeId} {pos : String} {af : Array Edge} {g' : Option (Nat × Bool)} {K : Value → List Chunk → Prop}
theorem OpH.copyBox {A C : List Chunk} {x y : Operand} {dT sT elem : TypeId} {g o dl dc sl sc : Nat} {ad : Addr} {T : TypeId} {l cs : List Value}
    (hx : ev E x = some (.slice (some ⟨g, o, .none⟩) dl dc)) (hy : ev E y = some (.slice (some ad) sl sc)) (hu : P.underlying dT = some (.slice elem)) (hsz : (P.info? elem).map (·.size) = some 1)
    (hn : cs.length = Nat.min sl dl) (hsrc : ∀ w, St w0 (A ++ Chunk.box g T l :: C) w → ∀ j v, cs[j]? = some v → w.cell? (ad.add j) = some v)
    (hfit : o + cs.length ≤ l.length) (h1 : ∀ v ∈ cs, v.oneCell' = true)
    (hk : K (.int .i64 cs.length) (A ++ Chunk.box g T (l.take o ++ (cs ++ l.drop (o + cs.length))) :: C)) : OpH P w0 (A ++ Chunk.box g T l :: C) E ⟨d, .call ⟨.builtin .copy, #[x, y], #[dT, sT]⟩, ty, pos, af, g'⟩ K :=
  .of_run fun a w hg hs => by
    have hb : w.heap[g]? = some (.cells l.toArray T (0, 0)) := (hs.own (Chunk.box g T l) (by simp)).1
    have hr := run_copy_row (P := P) w dT sT ty elem g o dl dc ad sl sc l.toArray T cs hu hsz hb hn (hsrc w hs) (by simpa using hfit) h1
    have hnew : (w.setRow g (l.take o ++ (cs ++ l.drop (o + cs.length))).toArray).heap[g]? = some (.cells (l.take o ++ (cs ++ l.drop (o + cs.length))).toArray T (0, 0)) := setRow_heap w g _ _ T _ hb
    refine ⟨_, w.setRow g (l.take o ++ (cs ++ l.drop (o + cs.length))).toArray, _, ?_, hs.set (c' := Chunk.box g T (l.take o ++ (cs ++ l.drop (o + cs.length)))) rfl hnew (fun b hbn => setRow_other w g b _ (fun e0 => hbn (by simp [Chunk.fp, e0]))) (by simp) rfl rfl rfl, hk⟩
    have e1 : l.toArray.toList.take o ++ cs ++ l.toArray.toList.drop (o + cs.length) = l.take o ++ (cs ++ l.drop (o + cs.length)) := by simp
    rw [e1] at hr
    simp [execOp, resolve, invoke, builtin, hg.ev hx, hg.ev hy, hr, goInt]
theorem splice_rep (p z : Value) (N n : Nat) : let k := Nat.min n (N - n)
    (List.replicate n p ++ List.replicate (N - n) z).take n ++ (List.replicate k p ++ (List.replicate n p ++ List.replicate (N - n) z).drop (n + k)) = List.replicate (n + k) p ++ List.replicate (N - (n + k)) z := by
  intro k
  have hk : k ≤ N - n := Nat.min_le_right _ _
  have e : (List.replicate n p ++ List.replicate (N - n) z).take n = List.replicate n p := by simp
  rw [e, List.drop_append, List.drop_replicate, List.drop_replicate, List.length_replicate, ← List.append_assoc, ← List.append_assoc, List.replicate_append_replicate]
  rw [show n - (n + k) = 0 by omega, show N - n - (n + k - n) = N - (n + k) by omega]
  simp
end
end K
end Go.Proofs.YtmhalmnbgkpmnaaGreat
