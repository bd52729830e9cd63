/- Scenes and options that are drawn are valid. -/
import Derived.Test.YtmhalmnbgkpmnaaPScene
namespace Go.Proofs.Ytmhalmnbgkpmnaa
open Go.RowKit K
def EdFine (e : EditT) : Prop := e.Buffer.Data.length ≤ 1048576 ∧ e.Id ≠ 77
section DS
variable (b : List Int) (hb : b.length ≤ 1048576)
include hb
def Drw {α : Type} (b : List Int) (P : α → Prop) (r : α × L01CurT) : Prop := P r.1 ∧ ∃ i h, r.2 = L01CurT.mk b i h ∧ 0 ≤ i
omit hb in
theorem Drw.mk {α : Type} {P : α → Prop} {v : α} {i h : Int} (hp : P v) (hi : 0 ≤ i) : Drw b P (v, L01CurT.mk b i h) := ⟨hp, i, h, rfl, hi⟩
theorem edit_ok (i h : Int) (hi : 0 ≤ i) : ∃ r, spec_l10Edit (L01CurT.mk b i h) = some r ∧ Drw b EdFine r := by
  obtain ⟨k, i1, g1, e1, k0, k1, hi1⟩ := below_ok b hb i h 11 hi (by omega) (by omega)
  obtain ⟨d, i2, g2, e2, d0, d1, hi2⟩ := below_ok b hb i1 g1 4 hi1 (by omega) (by omega)
  have z : (ImageT.mk 0 0 []).Data.length ≤ 1048576 := by simp
  have h77 : wr (1 + d) ≠ 77 := by rw [wr_in (by omega) (by omega)]; omega
  unfold spec_l10Edit
  rw [e1, bnd_s]
  simp only []
  rw [e2, bnd_s]
  simp only []
  have img : ∃ r, (Option.bind (spec_l01Below (L01CurT.mk b i2 g2) 12) fun x => Option.bind (spec_l01Below (L01CurT.mk b x.2.i x.2.h) 8) fun y => Option.bind (spec_l05Image (L01CurT.mk b y.2.i y.2.h) 6) fun u => some ((EditT.mk k (wr (1 + d)) (wr (x.1 - 2)) (wr (y.1 - 2)) u.1), (L01CurT.mk b u.2.i u.2.h))) = some r ∧ Drw b EdFine r := by
    obtain ⟨x, i3, g3, e3, _, _, hi3⟩ := below_ok b hb i2 g2 12 hi2 (by omega) (by omega)
    obtain ⟨y, i4, g4, e4, _, _, hi4⟩ := below_ok b hb i3 g3 8 hi3 (by omega) (by omega)
    obtain ⟨q, i5, g5, e5, hq, _, _, hi5⟩ := image_ok b hb i4 g4 6 hi4 (by omega) (by omega)
    rw [e3, bnd_s, e4, bnd_s, e5, bnd_s]
    exact ⟨_, rfl, .mk b ⟨by have := imgOk_le hq; show q.Data.length ≤ 1048576; omega, h77⟩ hi5⟩
  have mid : ∀ o : Option (EditT × L01CurT), (∃ r, o = some r ∧ Drw b EdFine r) → ∃ r, o = some r ∧ Drw b EdFine r := fun _ h => h
  refine ifO_or (fun _ => ifO_or (fun _ => img) (fun _ => ?_)) (fun _ => ifO_or (fun _ => img) (fun _ => ?_))
  all_goals
    refine ifO_or (fun _ => ?_) (fun _ => ifO_or (fun _ => ?_) (fun _ => ifO_or (fun _ => ?_) (fun _ => ifO_or (fun _ => ?_) (fun _ => ifO_or (fun _ => ?_) (fun _ => ifO_or (fun _ => ?_) (fun _ => ?_))))))
    · obtain ⟨x, i3, g3, e3, _, _, hi3⟩ := below_ok b hb i2 g2 14 hi2 (by omega) (by omega)
      obtain ⟨y, i4, g4, e4, _, _, hi4⟩ := below_ok b hb i3 g3 10 hi3 (by omega) (by omega)
      rw [e3, bnd_s]; simp only []; rw [e4, bnd_s]
      exact ⟨_, rfl, .mk b ⟨z, h77⟩ hi4⟩
    · obtain ⟨x, i3, g3, e3, _, hi3⟩ := pick_ok b hb i2 g2 [255, 128, 0] hi2 (by simp) (by simp)
      rw [e3, bnd_s]
      exact ⟨_, rfl, .mk b ⟨z, h77⟩ hi3⟩
    · obtain ⟨x, i3, g3, e3, _, _, hi3⟩ := below_ok b hb i2 g2 8 hi2 (by omega) (by omega)
      rw [e3, bnd_s]
      exact ⟨_, rfl, .mk b ⟨z, h77⟩ hi3⟩
    · obtain ⟨x, i3, g3, e3, hi3⟩ := once_ok b hb i2 g2 2 hi2 (by omega) (by omega)
      rw [e3, bnd_s]
      refine ifO_or (fun _ => ?_) (fun _ => ⟨_, rfl, .mk b ⟨z, h77⟩ hi3⟩)
      obtain ⟨y, i4, g4, e4, _, _, hi4⟩ := below_ok b hb i3 g3 9 hi3 (by omega) (by omega)
      obtain ⟨u, i5, g5, e5, _, _, hi5⟩ := below_ok b hb i4 g4 9 hi4 (by omega) (by omega)
      rw [e4, bnd_s]; simp only []; rw [e5, bnd_s]
      exact ⟨_, rfl, .mk b ⟨z, h77⟩ hi5⟩
    · obtain ⟨x, i3, g3, e3, _, _, hi3⟩ := below_ok b hb i2 g2 2 hi2 (by omega) (by omega)
      rw [e3, bnd_s]
      exact ⟨_, rfl, .mk b ⟨z, h77⟩ hi3⟩
    · obtain ⟨p, i3, g3, e3, _, hi3⟩ := draw4_ok b hb i2 g2 hi2
      rw [e3, bnd_s]
      exact ⟨_, rfl, .mk b ⟨z, h77⟩ hi3⟩
    · exact ⟨_, rfl, .mk b ⟨z, h77⟩ hi2⟩
theorem options_ok (i h : Int) (hi : 0 ≤ i) : ∃ r, spec_l21Options (L01CurT.mk b i h) = some r ∧ inR r.1.Overlays 0 2 = true ∧ inR r.1.Layout 0 2 = true := by
  obtain ⟨x, i1, g1, e1, x0, x1, hi1⟩ := below_ok b hb i h 3 hi (by omega) (by omega)
  obtain ⟨c, i2, g2, e2, hi2⟩ := once_ok b hb i1 g1 2 hi1 (by omega) (by omega)
  obtain ⟨y, i3, g3, e3, y0, y1, hi3⟩ := below_ok b hb i2 g2 3 hi2 (by omega) (by omega)
  obtain ⟨p, i4, g4, e4, hi4⟩ := once_ok b hb i3 g3 2 hi3 (by omega) (by omega)
  obtain ⟨q, i5, g5, e5, hi5⟩ := once_ok b hb i4 g4 2 hi4 (by omega) (by omega)
  obtain ⟨r, i6, g6, e6, hi6⟩ := once_ok b hb i5 g5 2 hi5 (by omega) (by omega)
  unfold spec_l21Options
  simp only [e1, bnd_s, e2, e3, e4, e5, e6]
  exact ⟨_, rfl, inR_t.2 ⟨x0, by show x ≤ 2; omega⟩, inR_t.2 ⟨y0, by show y ≤ 2; omega⟩⟩
theorem scene_ok (i h : Int) (hi : 0 ≤ i) : ∃ r, spec_l10Scene (L01CurT.mk b i h) = some r ∧ Drw b Fine r := by
  obtain ⟨w, i1, g1, e1, w0, w1, hi1⟩ := below_ok b hb i h 7 hi (by omega) (by omega)
  obtain ⟨z, i2, g2, e2, z0, z1, hi2⟩ := below_ok b hb i1 g1 6 hi1 (by omega) (by omega)
  obtain ⟨p, i3, g3, e3, hp, hi3⟩ := draw4_ok b hb i2 g2 hi2
  obtain ⟨k, i4, g4, e4, k0, k1, hi4⟩ := below_ok b hb i3 g3 4 hi3 (by omega) (by omega)
  have f0 : Fine (SceneT.mk (wr (4 + w)) (wr (3 + z)) (or64 p 4278190080) []) := by
    refine ⟨⟨by simp, by simp⟩, ?_, by simp⟩
    unfold sceneOk
    rw [wr_in (by omega) (by omega), wr_in (by omega) (by omega)]
    have a1 : inR (4 + w) 1 16 = true := inR_t.2 (by omega)
    have a2 : inR (3 + z) 1 16 = true := inR_t.2 (by omega)
    simp only [a1, a2, (opq_or hp).2]; rfl
  have loop0 : ∀ (k : Nat) (i' g : Int) (s : SceneT), k ≤ 4 → 0 ≤ i' → Fine s → ∃ i2 g2 s', loopO (fun (x : Int × Int × Int × Int × Int × List SurfaceT × Int) => spec_l10Scene_L0 (L01CurT.mk b i h) x.1 x.2.1 x.2.2.1 x.2.2.2.1 x.2.2.2.2.1 x.2.2.2.2.2.1 x.2.2.2.2.2.2) (i', g, s.W, s.H, s.Back, s.Surfaces, (k : Int)) = some (i2, g2, SceneT.W s', SceneT.H s', SceneT.Back s', SceneT.Surfaces s') ∧ 0 ≤ i2 ∧ Fine s' := by
    intro k
    induction k with
    | zero =>
      intro i' g s _ hi' hs
      refine ⟨i', g, s, loopO_inr ?_, hi', hs⟩
      simp only [spec_l10Scene_L0]
      rw [ifO_neg (by simp)]
    | succ k ih =>
      intro i' g s hk hi' hs
      obtain ⟨x, j1, t1, f1, x0, x1, hj1⟩ := below_ok b hb i' g 9 hi' (by omega) (by omega)
      obtain ⟨y, j2, t2, f2, y0, y1, hj2⟩ := below_ok b hb j1 t1 7 hj1 (by omega) (by omega)
      obtain ⟨q, j3, t3, f3, hq, _, _, hj3⟩ := image_ok b hb j2 t2 6 hj2 (by omega) (by omega)
      obtain ⟨⟨s', ok⟩, d1, d2⟩ := DoEdit_ok hs (EditT.mk 0 ((k + 1 : Nat) : Int) (wr (x - 2)) (wr (y - 2)) q) (by have := imgOk_le hq; show q.Data.length ≤ 1048576; omega) (by show ((k + 1 : Nat) : Int) ≠ 77; omega)
      obtain ⟨i2, g2, s2, r1, r2, r3⟩ := ih j3 t3 s' (by omega) hj3 d2
      refine ⟨i2, g2, s2, ?_, r2, r3⟩
      rw [← r1]
      refine loopO_inl ?_
      have hd : decide (0 < ((k + 1 : Nat) : Int)) = true := by simp only [decide_eq_true_eq]; omega
      simp only [spec_l10Scene_L0, hd, ifO_true, f1, bnd_s, f2, f3]
      rw [show SceneT.mk s.W s.H s.Back s.Surfaces = s from rfl, d1]
      simp only [bnd_s, wr_pred (show k < 4611686018427387904 by omega)]
  have loop1 : ∀ (k : Nat) (i' g : Int) (s : SceneT), k ≤ 4 → 0 ≤ i' → Fine s → ∃ i2 g2 s', loopO (fun (x : Int × Int × Int × Int × Int × List SurfaceT × Int) => spec_l10Scene_L1 (L01CurT.mk b i h) x.1 x.2.1 x.2.2.1 x.2.2.2.1 x.2.2.2.2.1 x.2.2.2.2.2.1 x.2.2.2.2.2.2) (i', g, s.W, s.H, s.Back, s.Surfaces, (k : Int)) = some (SceneT.W s', SceneT.H s', SceneT.Back s', SceneT.Surfaces s', i2, g2) ∧ 0 ≤ i2 ∧ Fine s' := by
    intro k
    induction k with
    | zero =>
      intro i' g s _ hi' hs
      refine ⟨i', g, s, loopO_inr ?_, hi', hs⟩
      simp only [spec_l10Scene_L1]
      rw [ifO_neg (by simp)]
    | succ k ih =>
      intro i' g s hk hi' hs
      obtain ⟨⟨e, c⟩, f1, he, j1, t1, hc, hj1⟩ := edit_ok b hb i' g hi'
      obtain ⟨⟨s', ok⟩, d1, d2⟩ := DoEdit_ok hs e he.1 he.2
      obtain ⟨i2, g2, s2, r1, r2, r3⟩ := ih j1 t1 s' (by omega) hj1 d2
      refine ⟨i2, g2, s2, ?_, r2, r3⟩
      rw [← r1]
      refine loopO_inl ?_
      have hd : decide (0 < ((k + 1 : Nat) : Int)) = true := by simp only [decide_eq_true_eq]; omega
      have hc' : c = L01CurT.mk b j1 t1 := hc
      simp only [spec_l10Scene_L1, hd, ifO_true, f1, bnd_s]
      rw [show SceneT.mk s.W s.H s.Back s.Surfaces = s from rfl, d1]
      simp only [bnd_s, hc', wr_pred (show k < 4611686018427387904 by omega)]
  obtain ⟨k, rfl⟩ : ∃ n : Nat, k = n := ⟨k.toNat, by omega⟩
  obtain ⟨i5, g5, s5, r1, hi5, fine5⟩ := loop0 k i4 g4 _ (by omega) hi4 f0
  obtain ⟨m, i6, g6, e6, m0, m1, hi6⟩ := below_ok b hb i5 g5 4 hi5 (by omega) (by omega)
  obtain ⟨m, rfl⟩ : ∃ n : Nat, m = n := ⟨m.toNat, by omega⟩
  obtain ⟨i7, g7, s7, q1, hi7, fine7⟩ := loop1 m i6 g6 s5 (by omega) hi6 fine5
  refine ⟨(s7, L01CurT.mk b i7 g7), ?_, fine7, i7, g7, rfl, hi7⟩
  unfold spec_l10Scene
  simp only [e1, bnd_s, e2, e3, e4]
  simp only [] at r1 q1
  rw [r1]
  simp only [bnd_s, e6]
  rw [q1]; rfl
theorem DrawAssignment_ok : ∃ s o, spec_DrawAssignment b = some (s, o) ∧ Fine s ∧ inR o.Overlays 0 2 = true ∧ inR o.Layout 0 2 = true := by
  obtain ⟨g, hg⟩ := new_ok b
  obtain ⟨⟨s, c⟩, e1, fs, i1, g1, hc, hi1⟩ := scene_ok b hb 0 g (by omega)
  obtain ⟨⟨o, d⟩, e2, o1, o2⟩ := options_ok b hb i1 g1 hi1
  have hc' : c = L01CurT.mk b i1 g1 := hc
  refine ⟨s, o, ?_, fs, o1, o2⟩
  unfold spec_DrawAssignment
  rw [hg]
  simp only [bnd_s, e1, hc', e2]
end DS
end Go.Proofs.Ytmhalmnbgkpmnaa
