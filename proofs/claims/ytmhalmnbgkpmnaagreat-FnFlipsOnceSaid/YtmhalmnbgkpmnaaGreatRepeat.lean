/- slices.Repeat of a slice of one element. -/
import Derived.Test.YtmhalmnbgkpmnaaGreatCopy
import Derived.Test.YtmhalmnbgkpmnaaGreatBits
import Derived.Test.YtmhalmnbgkpmnaaGreatTypes
namespace Go.Proofs.YtmhalmnbgkpmnaaGreat
open Go.RowKit K
set_option maxRecDepth 100000
set_option maxHeartbeats 4000000
def rowR (p : Int) (N n : Nat) : List Value := List.replicate n (.int .i64 p) ++ List.replicate (N - n) (.int .i64 0)
theorem rp_si : (sliceElem Tryz.prog 23).isSome = true := by kernel_rfl
theorem rp_se : sliceElem Tryz.prog 23 = some 1 := by kernel_rfl
theorem rp_u : Tryz.prog.underlying 23 = some (.slice 3) := by kernel_rfl
theorem rp_sz : (Tryz.prog.info? 3).map (·.size) = some 1 := by kernel_rfl
theorem rp_ui : (Tryz.prog.underlying 3).isSome = true := by kernel_rfl
theorem rp_uu : (Tryz.prog.underlying 123).isSome = true := by kernel_rfl
theorem rp_di : Tryz.prog.underlying 3 = some (.int .i64) := by kernel_rfl
theorem rp_du : Tryz.prog.underlying 123 = some (.int .u64) := by kernel_rfl
theorem rp_ca : callable Tryz.prog 179 = true := by kernel_rfl
theorem rp_mi : makeInfo Tryz.prog 23 = some (3, 8, [.int .i64 0]) := by kernel_rfl
theorem w_Repeat {p : Int} {N : Nat} (hN : N ≤ 1073741824) {q0 : Option Addr} {n0 k0 : Nat} {w : World} (r0 : Rd tInt w q0 n0 k0 [p]) :
    Calls Tryz.prog 167 #[.slice q0 n0 k0, .int .i64 (N : Int)] w (fun en w' => ∃ rv G, en = .returned rv ∧ (∃ g, rv = .slice (some ⟨g, 0, .none⟩) N N ∧ G = [Chunk.box g 3 (List.replicate N (.int .i64 p))]) ∧ St w G w') := by
  obtain rfl := r0.1
  obtain ⟨g0, o0, _, ha0, hcs0, hd0⟩ := Rd.atIdx r0 (i := 0) (x := p) rfl
  have hc0 : w.cell? ⟨g0, o0, .none⟩ = some (.int .i64 p) := by
    subst hcs0
    simpa using hd0 0 _ rfl
  refine enter (vs := [_, _]) Tryz.func167 rfl rfl rfl rfl ?_
  refine WC.seq ?_
  refine WC.region ?_
  refine Lt.ofWL.step rfl rfl rfl (OpV.assign rfl) ?_
  refine WL.nil ?_
  refine En.next ?_
  refine WC.seq ?_
  refine WC.seq ?_
  refine WC.region ?_
  refine Lt.ofWL.step rfl rfl rfl (OpV.move rfl) ?_
  refine Lt.ofWL.step rfl rfl rfl (OpV.lss rfl rfl) ?_
  refine WL.nil ?_
  refine En.next ?_
  refine WC.cond rfl (fun hc => by simp at hc; omega) (fun _ => ?_)
  refine WC.skip ?_
  refine En.next ?_
  refine WC.seq ?_
  refine WC.region ?_
  refine Lt.ofWL.step rfl rfl rfl (OpV.move rfl) ?_
  refine Lt.ofWL.step rfl rfl rfl (OpV.len rfl rp_si rfl) ?_
  refine Lt.ofWL.step rfl rfl rfl (OpV.conv rfl rp_ui rp_du) ?_
  refine Lt.ofWL.step rfl rfl rfl (OpV.move rfl) ?_
  refine Lt.ofWL.step rfl rfl rfl (OpV.conv rfl rp_ui rp_du) ?_
  have e1 : IntKind.u64.wrap (([p] : List Int).length : Int) = ((1 : Nat) : Int) := by rw [IntKind.wrap_u64]; rfl
  have e2 : IntKind.u64.wrap (N : Int) = (N : Int) := by rw [IntKind.wrap_u64]; omega
  have hcall : ∀ w' : World, Calls Tryz.prog 179 #[.int .u64 (IntKind.u64.wrap (([p] : List Int).length : Int)), .int .u64 (IntKind.u64.wrap (N : Int))] w' fun e w'' => e = .returned (.tuple #[.int .u64 0, .int .u64 (N : Int)]) ∧ Ext w' w'' := fun w' => by
    rw [e1, e2]
    refine (w_Mul 1 N (by decide) (by omega) w').mono fun e w'' ⟨h1, h2⟩ => ?_
    rw [h1, h2]
    exact ⟨by rw [Nat.one_mul, Nat.div_eq_of_lt (by omega), Nat.mod_eq_of_lt (by omega)]; rfl, Ext.refl _⟩
  refine Lt.ofWL.step rfl rfl rfl (OpV.call (evs.cons rfl (evs.cons rfl evs.nil)) rp_ca (fun w' _ => hcall w')) ?_
  refine Lt.ofWL.step rfl rfl rfl (OpV.move rfl) ?_
  refine Lt.ofWL.step rfl rfl rfl (OpV.extract rfl rfl) ?_
  refine Lt.ofWL.step rfl rfl rfl (OpV.extract rfl rfl) ?_
  refine Lt.ofWL.step rfl rfl rfl (OpV.assign rfl) ?_
  refine Lt.ofWL.step rfl rfl rfl (OpV.assign rfl) ?_
  refine WL.nil ?_
  refine En.next ?_
  refine WC.seq ?_
  refine WC.seq ?_
  refine WC.region ?_
  refine Lt.ofWL.step rfl rfl rfl (OpV.move rfl) ?_
  refine Lt.ofWL.step rfl rfl rfl (OpV.gtr rfl rfl) ?_
  refine Lt.ofWL.step rfl rfl rfl (OpV.move rfl) ?_
  refine Lt.ofWL.step rfl rfl rfl (OpV.move rfl) ?_
  refine Lt.ofWL.step rfl rfl rfl (OpV.gtr rfl rfl) ?_
  refine Lt.ofWL.step rfl rfl rfl (OpV.pick rfl rfl rfl) ?_
  refine WL.nil ?_
  refine En.next ?_
  refine WC.cond rfl (fun hc => by simp at hc; omega) (fun _ => ?_)
  refine WC.skip ?_
  refine En.next ?_
  refine WC.seq ?_
  refine WC.region ?_
  refine Lt.ofWL.step rfl rfl rfl (OpV.move rfl) ?_
  refine Lt.ofWL.step rfl rfl rfl (OpV.toInt rfl rp_uu rp_di ⟨by omega, by omega⟩) ?_
  refine WL.heavy rfl rfl rfl (OpH.make rfl rfl rp_mi (Nat.le_refl _) (by omega) (by omega) ?_)
  intro g
  refine Lt.ofWL.step rfl rfl rfl (OpV.assign rfl) ?_
  refine WL.nil ?_
  refine En.next ?_
  refine WC.seq ?_
  refine WC.region ?_
  refine Lt.ofWL.step rfl rfl rfl (OpV.move rfl) ?_
  refine Lt.ofWL.step rfl rfl rfl (OpV.move rfl) ?_
  have ez : (List.replicate N [Value.int .i64 0]).flatten = List.replicate N (Value.int .i64 0) := by
    rw [List.flatten_replicate_singleton]
  rw [ez]
  have hm1 : Nat.min 1 N ≤ 1 := Nat.min_le_left _ _
  have hm2 : Nat.min 1 N ≤ N := Nat.min_le_right _ _
  refine WL.heavy rfl rfl rfl (OpH.copyBox (A := []) (C := []) (cs := List.replicate (Nat.min 1 N) (.int .i64 p)) rfl (by rw [ha0]; rfl) rp_u rp_sz (by simp) (fun w' hs j v hj => ?_) (by rw [List.length_replicate, List.length_replicate, Nat.zero_add]; exact hm2) (fun v hv => by rw [List.eq_of_mem_replicate hv]; rfl) ?_)
  · have hj1 := (List.getElem?_eq_some_iff.1 hj).1
    have : j = 0 := by rw [List.length_replicate] at hj1; omega
    subst this
    have hv := List.eq_of_mem_replicate (List.mem_of_getElem? hj)
    subst hv
    rw [Addr.add_lit, Nat.add_zero]; exact hs.cell hc0
  refine Lt.ofWL.step rfl rfl rfl (OpV.assign rfl) ?_
  refine WL.nil ?_
  refine En.next ?_
  have hrow : (List.replicate N (Value.int .i64 0)).take 0 ++ (List.replicate (Nat.min 1 N) (Value.int .i64 p) ++ (List.replicate N (Value.int .i64 0)).drop (0 + (List.replicate (Nat.min 1 N) (Value.int .i64 p)).length)) = rowR p N (Nat.min 1 N) := by
    rw [List.take_zero, List.nil_append, List.drop_replicate, List.length_replicate, Nat.zero_add]; rfl
  rw [hrow, List.length_replicate]
  refine WC.seq ?_
  refine WC.block ?_
  refine WC.loop (τ := Nat) (fun n => [(7, .slice (some ⟨g, 0, .none⟩) N N), (8, .int .i64 (n : Int))]) (fun n => [Chunk.box g 3 (rowR p N n)]) (fun n => n ≤ N ∧ (0 < N → 0 < n)) (fun n => N - n) (Nat.min 1 N) ⟨hm2, fun h => by rw [show Nat.min 1 N = 1 from Nat.min_eq_left h]; omega⟩ ?_ (fun _ h => h) ?_
  · exact Sub.cons rfl (Sub.cons rfl (Sub.nil _))
  · rintro n ⟨hn1, hn2⟩
    refine WC.seq ?_
    refine WC.seq ?_
    refine WC.region ?_
    refine Lt.ofWL.step rfl rfl rfl (OpV.move rfl) ?_
    refine Lt.ofWL.step rfl rfl rfl (OpV.move rfl) ?_
    refine Lt.ofWL.step rfl rfl rfl (OpV.len rfl rp_si rfl) ?_
    refine Lt.ofWL.step rfl rfl rfl (OpV.lss rfl rfl) ?_
    refine WL.nil ?_
    refine En.next ?_
    refine WC.cond rfl (fun hc => ?_) (fun hc => ?_)
    · have hlt : n < N := by simp at hc; omega
      have es : subA (some ⟨g, 0, .none⟩) N ((n : Int).toNat) 1 = some ⟨g, n, .none⟩ := by
        rw [subA, if_neg (by omega)]; simp [Addr.add_lit]
      have es0 : subA (some ⟨g, 0, .none⟩) N 0 1 = some ⟨g, 0, .none⟩ := by
        rw [subA, if_neg (by omega)]; simp [Addr.add_lit]
      have hs1 : subO (List.replicate N p) (n : Int) (List.replicate N p).length = some (List.replicate (N - n) p) := by
        rw [subO, if_pos (by simp; omega)]; simp
      have hs2 : subO (List.replicate N p) 0 (n : Int) = some (List.replicate n p) := by
        rw [subO, if_pos (by simp; omega)]; simp [Nat.min_eq_left hn1]
      have hk1 : Nat.min n (N - n) ≤ n := Nat.min_le_left _ _
      have hk2 : Nat.min n (N - n) ≤ N - n := Nat.min_le_right _ _
      refine WC.skip ?_
      refine En.next ?_
      refine WC.block ?_
      refine WC.drawnH [_] [] (fun _ h => h) (by kernel_rfl) ?_
      refine WAE.take (i := 0) rfl (by kernel_rfl) (by kernel_rfl) (by kernel_rfl) rfl rfl rfl (OpV.move rfl) ?_
      refine WAE.take (i := 1) rfl (by kernel_rfl) (by kernel_rfl) (by kernel_rfl) rfl rfl rfl (OpV.move rfl) ?_
      refine WAE.take (i := 2) rfl (by kernel_rfl) (by kernel_rfl) (by kernel_rfl) rfl rfl rfl (OpV.move rfl) ?_
      refine WAE.take (i := 3) rfl (by kernel_rfl) (by kernel_rfl) (by kernel_rfl) rfl rfl rfl (OpV.subL (by simp) rfl rfl rp_se hs1) ?_
      refine WAE.take (i := 4) rfl (by kernel_rfl) (by kernel_rfl) (by kernel_rfl) rfl rfl rfl (OpV.move rfl) ?_
      refine WAE.take (i := 5) rfl (by kernel_rfl) (by kernel_rfl) (by kernel_rfl) rfl rfl rfl (OpV.move rfl) ?_
      refine WAE.take (i := 6) rfl (by kernel_rfl) (by kernel_rfl) (by kernel_rfl) rfl rfl rfl (OpV.subH (by simp) rfl rfl rp_se (by simp) hs2) ?_
      rw [es, es0]
      refine WAE.all (rs := [7]) (by kernel_rfl) rfl (AllR.cons rfl rfl rfl rfl ?_ AllR.nil)
      refine OpH.copyBox (A := []) (C := []) (cs := List.replicate (Nat.min n (N - n)) (.int .i64 p)) rfl rfl rp_u rp_sz (by simp) (fun w' hs j v hj => ?_) ?_ (fun v hv => by rw [List.eq_of_mem_replicate hv]; rfl) ?_
      · have hj1 := (List.getElem?_eq_some_iff.1 hj).1
        rw [List.length_replicate] at hj1
        have hv := List.eq_of_mem_replicate (List.mem_of_getElem? hj)
        subst hv
        have hb := (hs.own (Chunk.box g 3 (rowR p N n)) (by simp)).1
        have hjn : j < n := by omega
        rw [Addr.add_lit, Nat.zero_add]
        refine cell_box hb ?_
        unfold rowR
        rw [List.getElem?_append_left (by simpa using hjn)]
        simp [hjn]
      · unfold rowR
        simp only [List.length_append, List.length_replicate]; omega
      refine ⟨[_], rfl, ?_⟩
      refine WAE.take (i := 8) rfl (by kernel_rfl) (by kernel_rfl) (by kernel_rfl) rfl rfl rfl (OpV.addR rfl rfl) ?_
      refine WAE.take (i := 9) rfl (by kernel_rfl) (by kernel_rfl) (by kernel_rfl) rfl rfl rfl (OpV.assign rfl) ?_
      refine WAE.done (by kernel_rfl) ?_ _
      refine En.block_norm ?_
      have en : wr ((n : Int) + ((List.replicate (Nat.min n (N - n)) (Value.int .i64 p)).length : Int)) = ((n + Nat.min n (N - n) : Nat) : Int) := by
        rw [List.length_replicate, wr_in (by omega) (by omega)]; omega
      have hr : (rowR p N n).take n ++ (List.replicate (Nat.min n (N - n)) (Value.int .i64 p) ++ (rowR p N n).drop (n + (List.replicate (Nat.min n (N - n)) (Value.int .i64 p)).length)) = rowR p N (n + Nat.min n (N - n)) := by
        rw [List.length_replicate]; exact splice_rep (.int .i64 p) (.int .i64 0) N n
      rw [hr, en]
      have hpos : 0 < Nat.min n (N - n) := Nat.lt_min.2 ⟨hn2 (by omega), by omega⟩
      exact En.round (n + Nat.min n (N - n)) (by omega) ⟨by omega, fun _ => by omega⟩ (by exact Sub.cons rfl (Sub.cons rfl (Sub.nil _))) (fun _ h => h)
    · have hnN : n = N := by simp at hc; omega
      subst hnN
      refine WC.exit ?_
      refine En.then_exit ?_
      refine En.then_exit ?_
      refine En.block_exit ?_
      refine En.next ?_
      refine WC.seq ?_
      refine WC.region ?_
      refine Lt.ofWL.step rfl rfl rfl (OpV.move rfl) ?_
      refine Lt.ofWL.step rfl rfl rfl (OpV.assign rfl) ?_
      refine WL.nil ?_
      refine En.next ?_
      refine WC.ret ?_
      refine En.ret1 rfl (Res.tmp rfl) ?_
      intro w' hs
      refine ⟨_, _, rfl, ⟨g, rfl, rfl⟩, ?_⟩
      have e : rowR p n n = List.replicate n (.int .i64 p) := by simp [rowR]
      rw [← e]; exact hs
theorem w_RepeatO {p : Int} {N : Nat} (hN : N ≤ 1073741824) {q0 : Option Addr} {n0 k0 : Nat} {w : World} (r0 : Rd tInt w q0 n0 k0 [p]) :
    Calls Tryz.prog 167 #[.slice q0 n0 k0, .int .i64 (N : Int)] w (fun en w' => ∃ rv G, en = .returned rv ∧ (∃ (a : Option Addr) (n : Nat) (c : Nat) (f : List Nat), rv = .slice a n c ∧ G = [Chunk.own tInt f a n c (List.replicate N p)]) ∧ St w G w') :=
  (w_Repeat hN r0).mono fun en w' ⟨rv, G, h1, ⟨g, h2, h3⟩, hs⟩ => by
    subst h3
    have hbx := (hs.own (Chunk.box g 3 (List.replicate N (.int .i64 p))) (by simp)).1
    refine ⟨rv, _, h1, ⟨some ⟨g, 0, .none⟩, N, N, [g], h2, rfl⟩, ?_⟩
    have ef : (List.replicate N [Value.int .i64 p]).flatten = List.replicate N (Value.int .i64 p) := by rw [List.flatten_replicate_singleton]
    refine St.join (F := []) (G := [Chunk.box g 3 (List.replicate N (.int .i64 p))]) _ hs ⟨by simp, List.replicate N [.int .i64 p], List.replicate N [], by simp [blk], ?_, ⟨by simp, by simp, fun i x hx => ?_⟩⟩ (by simp [Chunk.own, Chunk.fp])
    · rw [ef]
      refine ⟨by rw [List.length_replicate, List.length_replicate]; exact (Nat.mul_one N).symm, .inr ⟨g, [], [], [], rfl, ?_, by simp, by unfold maxLen; omega, ?_⟩⟩
      · rw [List.append_nil, List.length_replicate]; exact (Nat.mul_one N).symm
      · rw [List.append_nil, List.append_nil]; exact hbx
    · have hi : i < N := by simpa using (List.getElem?_eq_some_iff.1 hx).1
      have : x = p := List.eq_of_mem_replicate (List.mem_of_getElem? hx)
      subst this
      exact ⟨[.int .i64 x], [], by simp [hi], by simp [hi], rfl, rfl⟩
end Go.Proofs.YtmhalmnbgkpmnaaGreat
