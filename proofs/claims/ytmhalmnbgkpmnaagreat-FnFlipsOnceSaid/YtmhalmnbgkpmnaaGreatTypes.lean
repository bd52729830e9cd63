/- How the data of the program lies in memory. -/
import Derived.Test.YtmhalmnbgkpmnaaGreatVault
import Derived.Test.YtmhalmnbgkpmnaaGreatStructs
namespace Go.Proofs.YtmhalmnbgkpmnaaGreat
open Go.RowKit K
set_option maxRecDepth 100000
set_option maxHeartbeats 4000000

def tU8E (x : Int) : List Value := [.int .u8 x]
def tU8 : Ty Int := Ty.flat 5 1 tU8E (by decide) (fun _ => rfl) (fun _ => rfl)
theorem tU8_flat : Flat tU8 tU8E := Flat.of
def tIntE (x : Int) : List Value := [.int .i64 x]
def tInt : Ty Int := Ty.flat 3 1 tIntE (by decide) (fun _ => rfl) (fun _ => rfl)
theorem tInt_flat : Flat tInt tIntE := Flat.of
def tPlane : Ty PlaneT where
  T := 61
  k := 11
  rd := fun w cs x => ∃ a1 c1, cs = [.bool x.On, .int .i64 x.X, .int .i64 x.Y, .int .i64 x.W, .int .i64 x.H, .int .i64 x.Layout, .slice a1 x.Words.length c1, .int .i64 x.Alpha, .int .i64 x.Orient, .int .i64 x.ToW, .int .i64 x.ToH] ∧ Rd tInt w a1 x.Words.length c1 x.Words
  ow := fun fp w cs x => ∃ a1 c1 f1, fp = f1 ∧ cs = [.bool x.On, .int .i64 x.X, .int .i64 x.Y, .int .i64 x.W, .int .i64 x.H, .int .i64 x.Layout, .slice a1 x.Words.length c1, .int .i64 x.Alpha, .int .i64 x.Orient, .int .i64 x.ToW, .int .i64 x.ToH] ∧ Ow tInt f1 a1 x.Words.length c1 x.Words w
  pos := by decide
  len := fun ⟨_, _, e, _⟩ => by rw [e]; rfl
  ext := fun k ⟨a1, c1, e, h1⟩ => ⟨a1, c1, e, h1.ext k⟩
  one := fun ⟨_, _, e, _⟩ => by rw [e]; rfl
  ro := fun ⟨a1, c1, f1, _, e, h1⟩ => ⟨a1, c1, e, h1.rd⟩
  sup := fun h ⟨a1, c1, f1, e0, e, h1⟩ => ⟨a1, c1, f1, e0, e, h1.sup _ _ (fun b hb => h b (by rw [e0]; simp [hb]))⟩
  bd := fun ⟨a1, c1, f1, e0, e, h1⟩ b hb => h1.bd _ b (by rw [← e0]; exact hb)
theorem tPlane_mk {w0 w : World} {C : List Chunk} {f1 : List Nat} {a1 : Option Addr} {n1 c1 : Nat} (y0 : Bool) (y1 : Int) (y2 : Int) (y3 : Int) (y4 : Int) (y5 : Int) (y6 : List Int) (y7 : Int) (y8 : Int) (y9 : Int) (y10 : Int) (h : St w0 (Chunk.own tInt f1 a1 n1 c1 y6 :: C) w) : St w0 (Chunk.el tPlane (f1) [.bool y0, .int .i64 y1, .int .i64 y2, .int .i64 y3, .int .i64 y4, .int .i64 y5, .slice a1 n1 c1, .int .i64 y7, .int .i64 y8, .int .i64 y9, .int .i64 y10] (PlaneT.mk y0 y1 y2 y3 y4 y5 y6 y7 y8 y9 y10) :: C) w := by
  obtain rfl := (h.own (Chunk.own tInt f1 a1 n1 c1 y6) (by simp)).1.1
  exact St.join (F := []) (G := [Chunk.own tInt f1 a1 _ c1 y6]) _ h ⟨a1, c1, f1, rfl, rfl, (h.own (Chunk.own tInt f1 a1 _ c1 y6) (by simp)).1⟩ (by simp [Chunk.own, Chunk.el, Chunk.fp])
theorem tPlane_open {w0 w : World} {F C : List Chunk} {fp : List Nat} {cs : List Value} {x : PlaneT} (h : St w0 (F ++ Chunk.el tPlane fp cs x :: C) w) : ∃ a1 c1 f1, cs = [.bool x.On, .int .i64 x.X, .int .i64 x.Y, .int .i64 x.W, .int .i64 x.H, .int .i64 x.Layout, .slice a1 x.Words.length c1, .int .i64 x.Alpha, .int .i64 x.Orient, .int .i64 x.ToW, .int .i64 x.ToH] ∧ St w0 (F ++ ([Chunk.own tInt f1 a1 x.Words.length c1 x.Words] ++ C)) w := by
  obtain ⟨a1, c1, f1, e0, e, h1⟩ := (h.own (Chunk.el tPlane fp cs x) (by simp)).1
  refine ⟨a1, c1, f1, e, St.split h (fun d hd => ?_) (by rw [show (Chunk.el tPlane fp cs x).fp = fp from rfl, e0]; simp [Chunk.own, Chunk.fp])⟩
  simp only [List.mem_cons, List.not_mem_nil, or_false] at hd
  rcases hd with rfl
  exact h1
theorem tPlane_al {w1 w : World} {G : List Nat} {cs : List Value} {x : PlaneT} (h : (Ty.al tPlane w1 G).rd w cs x) : ∃ a1 c1, cs = [.bool x.On, .int .i64 x.X, .int .i64 x.Y, .int .i64 x.W, .int .i64 x.H, .int .i64 x.Layout, .slice a1 x.Words.length c1, .int .i64 x.Alpha, .int .i64 x.Orient, .int .i64 x.ToW, .int .i64 x.ToH] ∧ Vl tInt w1 G a1 x.Words.length c1 x.Words := by
  obtain ⟨f, hf, a1, c1, f1, e0, e, h1⟩ := h
  exact ⟨a1, c1, e, ⟨f1, fun b hb => hf b (by rw [e0]; simp [hb]), h1⟩⟩
theorem tPlane_mkAl {w1 : World} {G : List Nat} {a1 : Option Addr} {n1 c1 : Nat} (y0 : Bool) (y1 : Int) (y2 : Int) (y3 : Int) (y4 : Int) (y5 : Int) (y6 : List Int) (y7 : Int) (y8 : Int) (y9 : Int) (y10 : Int) (v1 : Vl tInt w1 G a1 n1 c1 y6) (w : World) : (Ty.al tPlane w1 G).ow [] w [.bool y0, .int .i64 y1, .int .i64 y2, .int .i64 y3, .int .i64 y4, .int .i64 y5, .slice a1 n1 c1, .int .i64 y7, .int .i64 y8, .int .i64 y9, .int .i64 y10] (PlaneT.mk y0 y1 y2 y3 y4 y5 y6 y7 y8 y9 y10) := by
  obtain ⟨f1, s1, o1⟩ := v1
  obtain rfl := o1.1
  refine ⟨rfl, f1, fun b hb => ?_, a1, c1, f1, rfl, rfl, o1⟩
  exact s1 b hb
theorem tPlane_zero : ∀ w, tPlane.ow [] w [.bool false, .int .i64 0, .int .i64 0, .int .i64 0, .int .i64 0, .int .i64 0, .slice .none 0 0, .int .i64 0, .int .i64 0, .int .i64 0, .int .i64 0] (PlaneT.mk false 0 0 0 0 0 [] 0 0 0 0) := fun w => ⟨.none, 0, [], rfl, rfl, Ow.nil w⟩
def tFlip : Ty FlipT where
  T := 79
  k := 7
  rd := fun w cs x => ∃ a1 c1 a2 c2 a3 c3, cs = [.int .i64 x.Seq, .int .i64 x.Fence, .int .i64 x.State.W, .int .i64 x.State.H, .slice a1 x.State.Planes.length c1, .slice a2 x.State.Color.Matrix.length c2, .slice a3 x.State.Color.Curve.length c3] ∧ Rd tPlane w a1 x.State.Planes.length c1 x.State.Planes ∧ Rd tInt w a2 x.State.Color.Matrix.length c2 x.State.Color.Matrix ∧ Rd tInt w a3 x.State.Color.Curve.length c3 x.State.Color.Curve
  ow := fun fp w cs x => ∃ a1 c1 f1 a2 c2 f2 a3 c3 f3, fp = f1 ++ f2 ++ f3 ∧ cs = [.int .i64 x.Seq, .int .i64 x.Fence, .int .i64 x.State.W, .int .i64 x.State.H, .slice a1 x.State.Planes.length c1, .slice a2 x.State.Color.Matrix.length c2, .slice a3 x.State.Color.Curve.length c3] ∧ Ow tPlane f1 a1 x.State.Planes.length c1 x.State.Planes w ∧ Ow tInt f2 a2 x.State.Color.Matrix.length c2 x.State.Color.Matrix w ∧ Ow tInt f3 a3 x.State.Color.Curve.length c3 x.State.Color.Curve w
  pos := by decide
  len := fun ⟨_, _, _, _, _, _, e, _, _, _⟩ => by rw [e]; rfl
  ext := fun k ⟨a1, c1, a2, c2, a3, c3, e, h1, h2, h3⟩ => ⟨a1, c1, a2, c2, a3, c3, e, h1.ext k, h2.ext k, h3.ext k⟩
  one := fun ⟨_, _, _, _, _, _, e, _, _, _⟩ => by rw [e]; rfl
  ro := fun ⟨a1, c1, f1, a2, c2, f2, a3, c3, f3, _, e, h1, h2, h3⟩ => ⟨a1, c1, a2, c2, a3, c3, e, h1.rd, h2.rd, h3.rd⟩
  sup := fun h ⟨a1, c1, f1, a2, c2, f2, a3, c3, f3, e0, e, h1, h2, h3⟩ => ⟨a1, c1, f1, a2, c2, f2, a3, c3, f3, e0, e, h1.sup _ _ (fun b hb => h b (by rw [e0]; simp [hb])), h2.sup _ _ (fun b hb => h b (by rw [e0]; simp [hb])), h3.sup _ _ (fun b hb => h b (by rw [e0]; simp [hb]))⟩
  bd := fun ⟨a1, c1, f1, a2, c2, f2, a3, c3, f3, e0, e, h1, h2, h3⟩ b hb => by
    rw [e0] at hb; simp only [List.mem_append] at hb
    rcases hb with (hb | hb) | hb
    · exact h1.bd _ b hb
    · exact h2.bd _ b hb
    · exact h3.bd _ b hb
theorem tFlip_mk {w0 w : World} {C : List Chunk} {f1 : List Nat} {a1 : Option Addr} {n1 c1 : Nat} {f2 : List Nat} {a2 : Option Addr} {n2 c2 : Nat} {f3 : List Nat} {a3 : Option Addr} {n3 c3 : Nat} (y0 : Int) (y1 : Int) (y2 : CrtcT) (h : St w0 (Chunk.own tPlane f1 a1 n1 c1 y2.Planes :: Chunk.own tInt f2 a2 n2 c2 y2.Color.Matrix :: Chunk.own tInt f3 a3 n3 c3 y2.Color.Curve :: C) w) : St w0 (Chunk.el tFlip (f1 ++ f2 ++ f3) [.int .i64 y0, .int .i64 y1, .int .i64 y2.W, .int .i64 y2.H, .slice a1 n1 c1, .slice a2 n2 c2, .slice a3 n3 c3] (FlipT.mk y0 y1 y2) :: C) w := by
  obtain rfl := (h.own (Chunk.own tPlane f1 a1 n1 c1 y2.Planes) (by simp)).1.1; obtain rfl := (h.own (Chunk.own tInt f2 a2 n2 c2 y2.Color.Matrix) (by simp)).1.1; obtain rfl := (h.own (Chunk.own tInt f3 a3 n3 c3 y2.Color.Curve) (by simp)).1.1
  exact St.join (F := []) (G := [Chunk.own tPlane f1 a1 _ c1 y2.Planes, Chunk.own tInt f2 a2 _ c2 y2.Color.Matrix, Chunk.own tInt f3 a3 _ c3 y2.Color.Curve]) _ h ⟨a1, c1, f1, a2, c2, f2, a3, c3, f3, rfl, rfl, (h.own (Chunk.own tPlane f1 a1 _ c1 y2.Planes) (by simp)).1, (h.own (Chunk.own tInt f2 a2 _ c2 y2.Color.Matrix) (by simp)).1, (h.own (Chunk.own tInt f3 a3 _ c3 y2.Color.Curve) (by simp)).1⟩ (by simp [Chunk.own, Chunk.el, Chunk.fp])
theorem tFlip_open {w0 w : World} {F C : List Chunk} {fp : List Nat} {cs : List Value} {x : FlipT} (h : St w0 (F ++ Chunk.el tFlip fp cs x :: C) w) : ∃ a1 c1 f1 a2 c2 f2 a3 c3 f3, cs = [.int .i64 x.Seq, .int .i64 x.Fence, .int .i64 x.State.W, .int .i64 x.State.H, .slice a1 x.State.Planes.length c1, .slice a2 x.State.Color.Matrix.length c2, .slice a3 x.State.Color.Curve.length c3] ∧ St w0 (F ++ ([Chunk.own tPlane f1 a1 x.State.Planes.length c1 x.State.Planes, Chunk.own tInt f2 a2 x.State.Color.Matrix.length c2 x.State.Color.Matrix, Chunk.own tInt f3 a3 x.State.Color.Curve.length c3 x.State.Color.Curve] ++ C)) w := by
  obtain ⟨a1, c1, f1, a2, c2, f2, a3, c3, f3, e0, e, h1, h2, h3⟩ := (h.own (Chunk.el tFlip fp cs x) (by simp)).1
  refine ⟨a1, c1, f1, a2, c2, f2, a3, c3, f3, e, St.split h (fun d hd => ?_) (by rw [show (Chunk.el tFlip fp cs x).fp = fp from rfl, e0]; simp [Chunk.own, Chunk.fp])⟩
  simp only [List.mem_cons, List.not_mem_nil, or_false] at hd
  rcases hd with rfl | rfl | rfl
  · exact h1
  · exact h2
  · exact h3
theorem tFlip_al {w1 w : World} {G : List Nat} {cs : List Value} {x : FlipT} (h : (Ty.al tFlip w1 G).rd w cs x) : ∃ a1 c1 a2 c2 a3 c3, cs = [.int .i64 x.Seq, .int .i64 x.Fence, .int .i64 x.State.W, .int .i64 x.State.H, .slice a1 x.State.Planes.length c1, .slice a2 x.State.Color.Matrix.length c2, .slice a3 x.State.Color.Curve.length c3] ∧ Vl tPlane w1 G a1 x.State.Planes.length c1 x.State.Planes ∧ Vl tInt w1 G a2 x.State.Color.Matrix.length c2 x.State.Color.Matrix ∧ Vl tInt w1 G a3 x.State.Color.Curve.length c3 x.State.Color.Curve := by
  obtain ⟨f, hf, a1, c1, f1, a2, c2, f2, a3, c3, f3, e0, e, h1, h2, h3⟩ := h
  exact ⟨a1, c1, a2, c2, a3, c3, e, ⟨f1, fun b hb => hf b (by rw [e0]; simp [hb]), h1⟩, ⟨f2, fun b hb => hf b (by rw [e0]; simp [hb]), h2⟩, ⟨f3, fun b hb => hf b (by rw [e0]; simp [hb]), h3⟩⟩
theorem tFlip_mkAl {w1 : World} {G : List Nat} {a1 : Option Addr} {n1 c1 : Nat} {a2 : Option Addr} {n2 c2 : Nat} {a3 : Option Addr} {n3 c3 : Nat} (y0 : Int) (y1 : Int) (y2 : CrtcT) (v1 : Vl tPlane w1 G a1 n1 c1 y2.Planes) (v2 : Vl tInt w1 G a2 n2 c2 y2.Color.Matrix) (v3 : Vl tInt w1 G a3 n3 c3 y2.Color.Curve) (w : World) : (Ty.al tFlip w1 G).ow [] w [.int .i64 y0, .int .i64 y1, .int .i64 y2.W, .int .i64 y2.H, .slice a1 n1 c1, .slice a2 n2 c2, .slice a3 n3 c3] (FlipT.mk y0 y1 y2) := by
  obtain ⟨f1, s1, o1⟩ := v1
  obtain ⟨f2, s2, o2⟩ := v2
  obtain ⟨f3, s3, o3⟩ := v3
  obtain rfl := o1.1
  obtain rfl := o2.1
  obtain rfl := o3.1
  refine ⟨rfl, f1 ++ f2 ++ f3, fun b hb => ?_, a1, c1, f1, a2, c2, f2, a3, c3, f3, rfl, rfl, o1, o2, o3⟩
  simp only [List.mem_append] at hb
  rcases hb with (hb | hb) | hb
  · exact s1 b hb
  · exact s2 b hb
  · exact s3 b hb
theorem tFlip_zero : ∀ w, tFlip.ow [] w [.int .i64 0, .int .i64 0, .int .i64 0, .int .i64 0, .slice .none 0 0, .slice .none 0 0, .slice .none 0 0] (FlipT.mk 0 0 (CrtcT.mk 0 0 [] (ColorMapT.mk [] []))) := fun w => ⟨.none, 0, [], .none, 0, [], .none, 0, [], rfl, rfl, Ow.nil w, Ow.nil w, Ow.nil w⟩
def tChange : Ty ChangeT where
  T := 63
  k := 14
  rd := fun w cs x => ∃ a1 c1 a2 c2 a3 c3, cs = [.int .i64 x.Plane, .bool x.Value.On, .int .i64 x.Value.X, .int .i64 x.Value.Y, .int .i64 x.Value.W, .int .i64 x.Value.H, .int .i64 x.Value.Layout, .slice a1 x.Value.Words.length c1, .int .i64 x.Value.Alpha, .int .i64 x.Value.Orient, .int .i64 x.Value.ToW, .int .i64 x.Value.ToH, .slice a2 x.Color.Matrix.length c2, .slice a3 x.Color.Curve.length c3] ∧ Rd tInt w a1 x.Value.Words.length c1 x.Value.Words ∧ Rd tInt w a2 x.Color.Matrix.length c2 x.Color.Matrix ∧ Rd tInt w a3 x.Color.Curve.length c3 x.Color.Curve
  ow := fun fp w cs x => ∃ a1 c1 f1 a2 c2 f2 a3 c3 f3, fp = f1 ++ f2 ++ f3 ∧ cs = [.int .i64 x.Plane, .bool x.Value.On, .int .i64 x.Value.X, .int .i64 x.Value.Y, .int .i64 x.Value.W, .int .i64 x.Value.H, .int .i64 x.Value.Layout, .slice a1 x.Value.Words.length c1, .int .i64 x.Value.Alpha, .int .i64 x.Value.Orient, .int .i64 x.Value.ToW, .int .i64 x.Value.ToH, .slice a2 x.Color.Matrix.length c2, .slice a3 x.Color.Curve.length c3] ∧ Ow tInt f1 a1 x.Value.Words.length c1 x.Value.Words w ∧ Ow tInt f2 a2 x.Color.Matrix.length c2 x.Color.Matrix w ∧ Ow tInt f3 a3 x.Color.Curve.length c3 x.Color.Curve w
  pos := by decide
  len := fun ⟨_, _, _, _, _, _, e, _, _, _⟩ => by rw [e]; rfl
  ext := fun k ⟨a1, c1, a2, c2, a3, c3, e, h1, h2, h3⟩ => ⟨a1, c1, a2, c2, a3, c3, e, h1.ext k, h2.ext k, h3.ext k⟩
  one := fun ⟨_, _, _, _, _, _, e, _, _, _⟩ => by rw [e]; rfl
  ro := fun ⟨a1, c1, f1, a2, c2, f2, a3, c3, f3, _, e, h1, h2, h3⟩ => ⟨a1, c1, a2, c2, a3, c3, e, h1.rd, h2.rd, h3.rd⟩
  sup := fun h ⟨a1, c1, f1, a2, c2, f2, a3, c3, f3, e0, e, h1, h2, h3⟩ => ⟨a1, c1, f1, a2, c2, f2, a3, c3, f3, e0, e, h1.sup _ _ (fun b hb => h b (by rw [e0]; simp [hb])), h2.sup _ _ (fun b hb => h b (by rw [e0]; simp [hb])), h3.sup _ _ (fun b hb => h b (by rw [e0]; simp [hb]))⟩
  bd := fun ⟨a1, c1, f1, a2, c2, f2, a3, c3, f3, e0, e, h1, h2, h3⟩ b hb => by
    rw [e0] at hb; simp only [List.mem_append] at hb
    rcases hb with (hb | hb) | hb
    · exact h1.bd _ b hb
    · exact h2.bd _ b hb
    · exact h3.bd _ b hb
theorem tChange_mk {w0 w : World} {C : List Chunk} {f1 : List Nat} {a1 : Option Addr} {n1 c1 : Nat} {f2 : List Nat} {a2 : Option Addr} {n2 c2 : Nat} {f3 : List Nat} {a3 : Option Addr} {n3 c3 : Nat} (y0 : Int) (y1 : PlaneT) (y2 : ColorMapT) (h : St w0 (Chunk.own tInt f1 a1 n1 c1 y1.Words :: Chunk.own tInt f2 a2 n2 c2 y2.Matrix :: Chunk.own tInt f3 a3 n3 c3 y2.Curve :: C) w) : St w0 (Chunk.el tChange (f1 ++ f2 ++ f3) [.int .i64 y0, .bool y1.On, .int .i64 y1.X, .int .i64 y1.Y, .int .i64 y1.W, .int .i64 y1.H, .int .i64 y1.Layout, .slice a1 n1 c1, .int .i64 y1.Alpha, .int .i64 y1.Orient, .int .i64 y1.ToW, .int .i64 y1.ToH, .slice a2 n2 c2, .slice a3 n3 c3] (ChangeT.mk y0 y1 y2) :: C) w := by
  obtain rfl := (h.own (Chunk.own tInt f1 a1 n1 c1 y1.Words) (by simp)).1.1; obtain rfl := (h.own (Chunk.own tInt f2 a2 n2 c2 y2.Matrix) (by simp)).1.1; obtain rfl := (h.own (Chunk.own tInt f3 a3 n3 c3 y2.Curve) (by simp)).1.1
  exact St.join (F := []) (G := [Chunk.own tInt f1 a1 _ c1 y1.Words, Chunk.own tInt f2 a2 _ c2 y2.Matrix, Chunk.own tInt f3 a3 _ c3 y2.Curve]) _ h ⟨a1, c1, f1, a2, c2, f2, a3, c3, f3, rfl, rfl, (h.own (Chunk.own tInt f1 a1 _ c1 y1.Words) (by simp)).1, (h.own (Chunk.own tInt f2 a2 _ c2 y2.Matrix) (by simp)).1, (h.own (Chunk.own tInt f3 a3 _ c3 y2.Curve) (by simp)).1⟩ (by simp [Chunk.own, Chunk.el, Chunk.fp])
theorem tChange_open {w0 w : World} {F C : List Chunk} {fp : List Nat} {cs : List Value} {x : ChangeT} (h : St w0 (F ++ Chunk.el tChange fp cs x :: C) w) : ∃ a1 c1 f1 a2 c2 f2 a3 c3 f3, cs = [.int .i64 x.Plane, .bool x.Value.On, .int .i64 x.Value.X, .int .i64 x.Value.Y, .int .i64 x.Value.W, .int .i64 x.Value.H, .int .i64 x.Value.Layout, .slice a1 x.Value.Words.length c1, .int .i64 x.Value.Alpha, .int .i64 x.Value.Orient, .int .i64 x.Value.ToW, .int .i64 x.Value.ToH, .slice a2 x.Color.Matrix.length c2, .slice a3 x.Color.Curve.length c3] ∧ St w0 (F ++ ([Chunk.own tInt f1 a1 x.Value.Words.length c1 x.Value.Words, Chunk.own tInt f2 a2 x.Color.Matrix.length c2 x.Color.Matrix, Chunk.own tInt f3 a3 x.Color.Curve.length c3 x.Color.Curve] ++ C)) w := by
  obtain ⟨a1, c1, f1, a2, c2, f2, a3, c3, f3, e0, e, h1, h2, h3⟩ := (h.own (Chunk.el tChange fp cs x) (by simp)).1
  refine ⟨a1, c1, f1, a2, c2, f2, a3, c3, f3, e, St.split h (fun d hd => ?_) (by rw [show (Chunk.el tChange fp cs x).fp = fp from rfl, e0]; simp [Chunk.own, Chunk.fp])⟩
  simp only [List.mem_cons, List.not_mem_nil, or_false] at hd
  rcases hd with rfl | rfl | rfl
  · exact h1
  · exact h2
  · exact h3
theorem tChange_al {w1 w : World} {G : List Nat} {cs : List Value} {x : ChangeT} (h : (Ty.al tChange w1 G).rd w cs x) : ∃ a1 c1 a2 c2 a3 c3, cs = [.int .i64 x.Plane, .bool x.Value.On, .int .i64 x.Value.X, .int .i64 x.Value.Y, .int .i64 x.Value.W, .int .i64 x.Value.H, .int .i64 x.Value.Layout, .slice a1 x.Value.Words.length c1, .int .i64 x.Value.Alpha, .int .i64 x.Value.Orient, .int .i64 x.Value.ToW, .int .i64 x.Value.ToH, .slice a2 x.Color.Matrix.length c2, .slice a3 x.Color.Curve.length c3] ∧ Vl tInt w1 G a1 x.Value.Words.length c1 x.Value.Words ∧ Vl tInt w1 G a2 x.Color.Matrix.length c2 x.Color.Matrix ∧ Vl tInt w1 G a3 x.Color.Curve.length c3 x.Color.Curve := by
  obtain ⟨f, hf, a1, c1, f1, a2, c2, f2, a3, c3, f3, e0, e, h1, h2, h3⟩ := h
  exact ⟨a1, c1, a2, c2, a3, c3, e, ⟨f1, fun b hb => hf b (by rw [e0]; simp [hb]), h1⟩, ⟨f2, fun b hb => hf b (by rw [e0]; simp [hb]), h2⟩, ⟨f3, fun b hb => hf b (by rw [e0]; simp [hb]), h3⟩⟩
theorem tChange_mkAl {w1 : World} {G : List Nat} {a1 : Option Addr} {n1 c1 : Nat} {a2 : Option Addr} {n2 c2 : Nat} {a3 : Option Addr} {n3 c3 : Nat} (y0 : Int) (y1 : PlaneT) (y2 : ColorMapT) (v1 : Vl tInt w1 G a1 n1 c1 y1.Words) (v2 : Vl tInt w1 G a2 n2 c2 y2.Matrix) (v3 : Vl tInt w1 G a3 n3 c3 y2.Curve) (w : World) : (Ty.al tChange w1 G).ow [] w [.int .i64 y0, .bool y1.On, .int .i64 y1.X, .int .i64 y1.Y, .int .i64 y1.W, .int .i64 y1.H, .int .i64 y1.Layout, .slice a1 n1 c1, .int .i64 y1.Alpha, .int .i64 y1.Orient, .int .i64 y1.ToW, .int .i64 y1.ToH, .slice a2 n2 c2, .slice a3 n3 c3] (ChangeT.mk y0 y1 y2) := by
  obtain ⟨f1, s1, o1⟩ := v1
  obtain ⟨f2, s2, o2⟩ := v2
  obtain ⟨f3, s3, o3⟩ := v3
  obtain rfl := o1.1
  obtain rfl := o2.1
  obtain rfl := o3.1
  refine ⟨rfl, f1 ++ f2 ++ f3, fun b hb => ?_, a1, c1, f1, a2, c2, f2, a3, c3, f3, rfl, rfl, o1, o2, o3⟩
  simp only [List.mem_append] at hb
  rcases hb with (hb | hb) | hb
  · exact s1 b hb
  · exact s2 b hb
  · exact s3 b hb
theorem tChange_zero : ∀ w, tChange.ow [] w [.int .i64 0, .bool false, .int .i64 0, .int .i64 0, .int .i64 0, .int .i64 0, .int .i64 0, .slice .none 0 0, .int .i64 0, .int .i64 0, .int .i64 0, .int .i64 0, .slice .none 0 0, .slice .none 0 0] (ChangeT.mk 0 (PlaneT.mk false 0 0 0 0 0 [] 0 0 0 0) (ColorMapT.mk [] [])) := fun w => ⟨.none, 0, [], .none, 0, [], .none, 0, [], rfl, rfl, Ow.nil w, Ow.nil w, Ow.nil w⟩
end Go.Proofs.YtmhalmnbgkpmnaaGreat
