/- How the data of the program lies in memory. -/
import Derived.Test.YtmhalmnbgkpmnaaGreatTail
import Derived.Test.YtmhalmnbgkpmnaaGreatStructs
namespace Go.Proofs.YtmhalmnbgkpmnaaGreat
open Go.RowKit K
set_option maxRecDepth 100000
set_option maxHeartbeats 4000000

def tIntE (x : Int) : List Value := [.int .i64 x]
def tInt : Ty Int := Ty.flat 3 1 tIntE (by decide) (fun _ => rfl) (fun _ => rfl)
theorem tInt_flat : Flat tInt tIntE := Flat.of
def tPlane : Ty PlaneT where
  T := 61
  k := 11
  rd := fun w cs x => ∃ a1 c1, cs = [.bool x.On, .int .i64 x.X, .int .i64 x.Y, .int .i64 x.W, .int .i64 x.H, .int .i64 x.Layout, .slice a1 x.Words.length c1, .int .i64 x.Alpha, .int .i64 x.Orient, .int .i64 x.ToW, .int .i64 x.ToH] ∧ Rd tInt w a1 x.Words.length c1 x.Words
  ow := fun fp w cs x => ∃ a1 c1 f1, fp = f1 ∧ cs = [.bool x.On, .int .i64 x.X, .int .i64 x.Y, .int .i64 x.W, .int .i64 x.H, .int .i64 x.Layout, .slice a1 x.Words.length c1, .int .i64 x.Alpha, .int .i64 x.Orient, .int .i64 x.ToW, .int .i64 x.ToH] ∧ Ow tInt f1 a1 x.Words.length c1 x.Words w
  pos := by decide
  len := fun ⟨_, _, e, _⟩ => by rw [e]; rfl
  ext := fun k ⟨a1, c1, e, h1⟩ => ⟨a1, c1, e, h1.ext k⟩
  one := fun ⟨_, _, e, _⟩ => by rw [e]; rfl
  ro := fun ⟨a1, c1, f1, _, e, h1⟩ => ⟨a1, c1, e, h1.rd⟩
  sup := fun h ⟨a1, c1, f1, e0, e, h1⟩ => ⟨a1, c1, f1, e0, e, h1.sup _ _ (fun b hb => h b (by rw [e0]; simp [hb]))⟩
  bd := fun ⟨a1, c1, f1, e0, e, h1⟩ b hb => h1.bd _ b (by rw [← e0]; exact hb)
theorem tPlane_mk {w0 w : World} {C : List Chunk} {f1 : List Nat} {a1 : Option Addr} {n1 c1 : Nat} (y0 : Bool) (y1 : Int) (y2 : Int) (y3 : Int) (y4 : Int) (y5 : Int) (y6 : List Int) (y7 : Int) (y8 : Int) (y9 : Int) (y10 : Int) (h : St w0 (Chunk.own tInt f1 a1 n1 c1 y6 :: C) w) : St w0 (Chunk.el tPlane (f1) [.bool y0, .int .i64 y1, .int .i64 y2, .int .i64 y3, .int .i64 y4, .int .i64 y5, .slice a1 n1 c1, .int .i64 y7, .int .i64 y8, .int .i64 y9, .int .i64 y10] (PlaneT.mk y0 y1 y2 y3 y4 y5 y6 y7 y8 y9 y10) :: C) w := by
  obtain rfl := (h.own (Chunk.own tInt f1 a1 n1 c1 y6) (by simp)).1.1
  exact St.join (F := []) (G := [Chunk.own tInt f1 a1 _ c1 y6]) _ h ⟨a1, c1, f1, rfl, rfl, (h.own (Chunk.own tInt f1 a1 _ c1 y6) (by simp)).1⟩ (by simp [Chunk.own, Chunk.el, Chunk.fp])
theorem tPlane_open {w0 w : World} {F C : List Chunk} {fp : List Nat} {cs : List Value} {x : PlaneT} (h : St w0 (F ++ Chunk.el tPlane fp cs x :: C) w) : ∃ a1 c1 f1, cs = [.bool x.On, .int .i64 x.X, .int .i64 x.Y, .int .i64 x.W, .int .i64 x.H, .int .i64 x.Layout, .slice a1 x.Words.length c1, .int .i64 x.Alpha, .int .i64 x.Orient, .int .i64 x.ToW, .int .i64 x.ToH] ∧ St w0 (F ++ ([Chunk.own tInt f1 a1 x.Words.length c1 x.Words] ++ C)) w := by
  obtain ⟨a1, c1, f1, e0, e, h1⟩ := (h.own (Chunk.el tPlane fp cs x) (by simp)).1
  refine ⟨a1, c1, f1, e, St.split h (fun d hd => ?_) (by rw [show (Chunk.el tPlane fp cs x).fp = fp from rfl, e0]; simp [Chunk.own, Chunk.fp])⟩
  simp only [List.mem_cons, List.not_mem_nil, or_false] at hd
  rcases hd with rfl
  exact h1
theorem tPlane_zero : ∀ w, tPlane.ow [] w [.bool false, .int .i64 0, .int .i64 0, .int .i64 0, .int .i64 0, .int .i64 0, .slice .none 0 0, .int .i64 0, .int .i64 0, .int .i64 0, .int .i64 0] (PlaneT.mk false 0 0 0 0 0 [] 0 0 0 0) := fun w => ⟨.none, 0, [], rfl, rfl, Ow.nil w⟩
def tFlip : Ty FlipT where
  T := 79
  k := 7
  rd := fun w cs x => ∃ a1 c1 a2 c2 a3 c3, cs = [.int .i64 x.Seq, .int .i64 x.Fence, .int .i64 x.State.W, .int .i64 x.State.H, .slice a1 x.State.Planes.length c1, .slice a2 x.State.Color.Matrix.length c2, .slice a3 x.State.Color.Curve.length c3] ∧ Rd tPlane w a1 x.State.Planes.length c1 x.State.Planes ∧ Rd tInt w a2 x.State.Color.Matrix.length c2 x.State.Color.Matrix ∧ Rd tInt w a3 x.State.Color.Curve.length c3 x.State.Color.Curve
  ow := fun fp w cs x => ∃ a1 c1 f1 a2 c2 f2 a3 c3 f3, fp = f1 ++ f2 ++ f3 ∧ cs = [.int .i64 x.Seq, .int .i64 x.Fence, .int .i64 x.State.W, .int .i64 x.State.H, .slice a1 x.State.Planes.length c1, .slice a2 x.State.Color.Matrix.length c2, .slice a3 x.State.Color.Curve.length c3] ∧ Ow tPlane f1 a1 x.State.Planes.length c1 x.State.Planes w ∧ Ow tInt f2 a2 x.State.Color.Matrix.length c2 x.State.Color.Matrix w ∧ Ow tInt f3 a3 x.State.Color.Curve.length c3 x.State.Color.Curve w
  pos := by decide
  len := fun ⟨_, _, _, _, _, _, e, _, _, _⟩ => by rw [e]; rfl
  ext := fun k ⟨a1, c1, a2, c2, a3, c3, e, h1, h2, h3⟩ => ⟨a1, c1, a2, c2, a3, c3, e, h1.ext k, h2.ext k, h3.ext k⟩
  one := fun ⟨_, _, _, _, _, _, e, _, _, _⟩ => by rw [e]; rfl
  ro := fun ⟨a1, c1, f1, a2, c2, f2, a3, c3, f3, _, e, h1, h2, h3⟩ => ⟨a1, c1, a2, c2, a3, c3, e, h1.rd, h2.rd, h3.rd⟩
  sup := fun h ⟨a1, c1, f1, a2, c2, f2, a3, c3, f3, e0, e, h1, h2, h3⟩ => ⟨a1, c1, f1, a2, c2, f2, a3, c3, f3, e0, e, h1.sup _ _ (fun b hb => h b (by rw [e0]; simp [hb])), h2.sup _ _ (fun b hb => h b (by rw [e0]; simp [hb])), h3.sup _ _ (fun b hb => h b (by rw [e0]; simp [hb]))⟩
  bd := fun ⟨a1, c1, f1, a2, c2, f2, a3, c3, f3, e0, e, h1, h2, h3⟩ b hb => by
    rw [e0] at hb; simp only [List.mem_append] at hb
    rcases hb with (hb | hb) | hb
    · exact h1.bd _ b hb
    · exact h2.bd _ b hb
    · exact h3.bd _ b hb
theorem tFlip_mk {w0 w : World} {C : List Chunk} {f1 : List Nat} {a1 : Option Addr} {n1 c1 : Nat} {f2 : List Nat} {a2 : Option Addr} {n2 c2 : Nat} {f3 : List Nat} {a3 : Option Addr} {n3 c3 : Nat} (y0 : Int) (y1 : Int) (y2 : CrtcT) (h : St w0 (Chunk.own tPlane f1 a1 n1 c1 y2.Planes :: Chunk.own tInt f2 a2 n2 c2 y2.Color.Matrix :: Chunk.own tInt f3 a3 n3 c3 y2.Color.Curve :: C) w) : St w0 (Chunk.el tFlip (f1 ++ f2 ++ f3) [.int .i64 y0, .int .i64 y1, .int .i64 y2.W, .int .i64 y2.H, .slice a1 n1 c1, .slice a2 n2 c2, .slice a3 n3 c3] (FlipT.mk y0 y1 y2) :: C) w := by
  obtain rfl := (h.own (Chunk.own tPlane f1 a1 n1 c1 y2.Planes) (by simp)).1.1; obtain rfl := (h.own (Chunk.own tInt f2 a2 n2 c2 y2.Color.Matrix) (by simp)).1.1; obtain rfl := (h.own (Chunk.own tInt f3 a3 n3 c3 y2.Color.Curve) (by simp)).1.1
  exact St.join (F := []) (G := [Chunk.own tPlane f1 a1 _ c1 y2.Planes, Chunk.own tInt f2 a2 _ c2 y2.Color.Matrix, Chunk.own tInt f3 a3 _ c3 y2.Color.Curve]) _ h ⟨a1, c1, f1, a2, c2, f2, a3, c3, f3, rfl, rfl, (h.own (Chunk.own tPlane f1 a1 _ c1 y2.Planes) (by simp)).1, (h.own (Chunk.own tInt f2 a2 _ c2 y2.Color.Matrix) (by simp)).1, (h.own (Chunk.own tInt f3 a3 _ c3 y2.Color.Curve) (by simp)).1⟩ (by simp [Chunk.own, Chunk.el, Chunk.fp])
theorem tFlip_open {w0 w : World} {F C : List Chunk} {fp : List Nat} {cs : List Value} {x : FlipT} (h : St w0 (F ++ Chunk.el tFlip fp cs x :: C) w) : ∃ a1 c1 f1 a2 c2 f2 a3 c3 f3, cs = [.int .i64 x.Seq, .int .i64 x.Fence, .int .i64 x.State.W, .int .i64 x.State.H, .slice a1 x.State.Planes.length c1, .slice a2 x.State.Color.Matrix.length c2, .slice a3 x.State.Color.Curve.length c3] ∧ St w0 (F ++ ([Chunk.own tPlane f1 a1 x.State.Planes.length c1 x.State.Planes, Chunk.own tInt f2 a2 x.State.Color.Matrix.length c2 x.State.Color.Matrix, Chunk.own tInt f3 a3 x.State.Color.Curve.length c3 x.State.Color.Curve] ++ C)) w := by
  obtain ⟨a1, c1, f1, a2, c2, f2, a3, c3, f3, e0, e, h1, h2, h3⟩ := (h.own (Chunk.el tFlip fp cs x) (by simp)).1
  refine ⟨a1, c1, f1, a2, c2, f2, a3, c3, f3, e, St.split h (fun d hd => ?_) (by rw [show (Chunk.el tFlip fp cs x).fp = fp from rfl, e0]; simp [Chunk.own, Chunk.fp])⟩
  simp only [List.mem_cons, List.not_mem_nil, or_false] at hd
  rcases hd with rfl | rfl | rfl
  · exact h1
  · exact h2
  · exact h3
theorem tFlip_zero : ∀ w, tFlip.ow [] w [.int .i64 0, .int .i64 0, .int .i64 0, .int .i64 0, .slice .none 0 0, .slice .none 0 0, .slice .none 0 0] (FlipT.mk 0 0 (CrtcT.mk 0 0 [] (ColorMapT.mk [] []))) := fun w => ⟨.none, 0, [], .none, 0, [], .none, 0, [], rfl, rfl, Ow.nil w, Ow.nil w, Ow.nil w⟩
def tColorMap : Ty ColorMapT where
  T := 28
  k := 2
  rd := fun w cs x => ∃ a1 c1 a2 c2, cs = [.slice a1 x.Matrix.length c1, .slice a2 x.Curve.length c2] ∧ Rd tInt w a1 x.Matrix.length c1 x.Matrix ∧ Rd tInt w a2 x.Curve.length c2 x.Curve
  ow := fun fp w cs x => ∃ a1 c1 f1 a2 c2 f2, fp = f1 ++ f2 ∧ cs = [.slice a1 x.Matrix.length c1, .slice a2 x.Curve.length c2] ∧ Ow tInt f1 a1 x.Matrix.length c1 x.Matrix w ∧ Ow tInt f2 a2 x.Curve.length c2 x.Curve w
  pos := by decide
  len := fun ⟨_, _, _, _, e, _, _⟩ => by rw [e]; rfl
  ext := fun k ⟨a1, c1, a2, c2, e, h1, h2⟩ => ⟨a1, c1, a2, c2, e, h1.ext k, h2.ext k⟩
  one := fun ⟨_, _, _, _, e, _, _⟩ => by rw [e]; rfl
  ro := fun ⟨a1, c1, f1, a2, c2, f2, _, e, h1, h2⟩ => ⟨a1, c1, a2, c2, e, h1.rd, h2.rd⟩
  sup := fun h ⟨a1, c1, f1, a2, c2, f2, e0, e, h1, h2⟩ => ⟨a1, c1, f1, a2, c2, f2, e0, e, h1.sup _ _ (fun b hb => h b (by rw [e0]; simp [hb])), h2.sup _ _ (fun b hb => h b (by rw [e0]; simp [hb]))⟩
  bd := fun ⟨a1, c1, f1, a2, c2, f2, e0, e, h1, h2⟩ b hb => by
    rw [e0] at hb; simp only [List.mem_append] at hb
    rcases hb with hb | hb
    · exact h1.bd _ b hb
    · exact h2.bd _ b hb
theorem tColorMap_mk {w0 w : World} {C : List Chunk} {f1 : List Nat} {a1 : Option Addr} {n1 c1 : Nat} {f2 : List Nat} {a2 : Option Addr} {n2 c2 : Nat} (y0 : List Int) (y1 : List Int) (h : St w0 (Chunk.own tInt f1 a1 n1 c1 y0 :: Chunk.own tInt f2 a2 n2 c2 y1 :: C) w) : St w0 (Chunk.el tColorMap (f1 ++ f2) [.slice a1 n1 c1, .slice a2 n2 c2] (ColorMapT.mk y0 y1) :: C) w := by
  obtain rfl := (h.own (Chunk.own tInt f1 a1 n1 c1 y0) (by simp)).1.1; obtain rfl := (h.own (Chunk.own tInt f2 a2 n2 c2 y1) (by simp)).1.1
  exact St.join (F := []) (G := [Chunk.own tInt f1 a1 _ c1 y0, Chunk.own tInt f2 a2 _ c2 y1]) _ h ⟨a1, c1, f1, a2, c2, f2, rfl, rfl, (h.own (Chunk.own tInt f1 a1 _ c1 y0) (by simp)).1, (h.own (Chunk.own tInt f2 a2 _ c2 y1) (by simp)).1⟩ (by simp [Chunk.own, Chunk.el, Chunk.fp])
theorem tColorMap_open {w0 w : World} {F C : List Chunk} {fp : List Nat} {cs : List Value} {x : ColorMapT} (h : St w0 (F ++ Chunk.el tColorMap fp cs x :: C) w) : ∃ a1 c1 f1 a2 c2 f2, cs = [.slice a1 x.Matrix.length c1, .slice a2 x.Curve.length c2] ∧ St w0 (F ++ ([Chunk.own tInt f1 a1 x.Matrix.length c1 x.Matrix, Chunk.own tInt f2 a2 x.Curve.length c2 x.Curve] ++ C)) w := by
  obtain ⟨a1, c1, f1, a2, c2, f2, e0, e, h1, h2⟩ := (h.own (Chunk.el tColorMap fp cs x) (by simp)).1
  refine ⟨a1, c1, f1, a2, c2, f2, e, St.split h (fun d hd => ?_) (by rw [show (Chunk.el tColorMap fp cs x).fp = fp from rfl, e0]; simp [Chunk.own, Chunk.fp])⟩
  simp only [List.mem_cons, List.not_mem_nil, or_false] at hd
  rcases hd with rfl | rfl
  · exact h1
  · exact h2
theorem tColorMap_zero : ∀ w, tColorMap.ow [] w [.slice .none 0 0, .slice .none 0 0] (ColorMapT.mk [] []) := fun w => ⟨.none, 0, [], .none, 0, [], rfl, rfl, Ow.nil w, Ow.nil w⟩
def tCrtc : Ty CrtcT where
  T := 30
  k := 5
  rd := fun w cs x => ∃ a1 c1 a2 c2 a3 c3, cs = [.int .i64 x.W, .int .i64 x.H, .slice a1 x.Planes.length c1, .slice a2 x.Color.Matrix.length c2, .slice a3 x.Color.Curve.length c3] ∧ Rd tPlane w a1 x.Planes.length c1 x.Planes ∧ Rd tInt w a2 x.Color.Matrix.length c2 x.Color.Matrix ∧ Rd tInt w a3 x.Color.Curve.length c3 x.Color.Curve
  ow := fun fp w cs x => ∃ a1 c1 f1 a2 c2 f2 a3 c3 f3, fp = f1 ++ f2 ++ f3 ∧ cs = [.int .i64 x.W, .int .i64 x.H, .slice a1 x.Planes.length c1, .slice a2 x.Color.Matrix.length c2, .slice a3 x.Color.Curve.length c3] ∧ Ow tPlane f1 a1 x.Planes.length c1 x.Planes w ∧ Ow tInt f2 a2 x.Color.Matrix.length c2 x.Color.Matrix w ∧ Ow tInt f3 a3 x.Color.Curve.length c3 x.Color.Curve w
  pos := by decide
  len := fun ⟨_, _, _, _, _, _, e, _, _, _⟩ => by rw [e]; rfl
  ext := fun k ⟨a1, c1, a2, c2, a3, c3, e, h1, h2, h3⟩ => ⟨a1, c1, a2, c2, a3, c3, e, h1.ext k, h2.ext k, h3.ext k⟩
  one := fun ⟨_, _, _, _, _, _, e, _, _, _⟩ => by rw [e]; rfl
  ro := fun ⟨a1, c1, f1, a2, c2, f2, a3, c3, f3, _, e, h1, h2, h3⟩ => ⟨a1, c1, a2, c2, a3, c3, e, h1.rd, h2.rd, h3.rd⟩
  sup := fun h ⟨a1, c1, f1, a2, c2, f2, a3, c3, f3, e0, e, h1, h2, h3⟩ => ⟨a1, c1, f1, a2, c2, f2, a3, c3, f3, e0, e, h1.sup _ _ (fun b hb => h b (by rw [e0]; simp [hb])), h2.sup _ _ (fun b hb => h b (by rw [e0]; simp [hb])), h3.sup _ _ (fun b hb => h b (by rw [e0]; simp [hb]))⟩
  bd := fun ⟨a1, c1, f1, a2, c2, f2, a3, c3, f3, e0, e, h1, h2, h3⟩ b hb => by
    rw [e0] at hb; simp only [List.mem_append] at hb
    rcases hb with (hb | hb) | hb
    · exact h1.bd _ b hb
    · exact h2.bd _ b hb
    · exact h3.bd _ b hb
theorem tCrtc_mk {w0 w : World} {C : List Chunk} {f1 : List Nat} {a1 : Option Addr} {n1 c1 : Nat} {f2 : List Nat} {a2 : Option Addr} {n2 c2 : Nat} {f3 : List Nat} {a3 : Option Addr} {n3 c3 : Nat} (y0 : Int) (y1 : Int) (y2 : List PlaneT) (y3 : ColorMapT) (h : St w0 (Chunk.own tPlane f1 a1 n1 c1 y2 :: Chunk.own tInt f2 a2 n2 c2 y3.Matrix :: Chunk.own tInt f3 a3 n3 c3 y3.Curve :: C) w) : St w0 (Chunk.el tCrtc (f1 ++ f2 ++ f3) [.int .i64 y0, .int .i64 y1, .slice a1 n1 c1, .slice a2 n2 c2, .slice a3 n3 c3] (CrtcT.mk y0 y1 y2 y3) :: C) w := by
  obtain rfl := (h.own (Chunk.own tPlane f1 a1 n1 c1 y2) (by simp)).1.1; obtain rfl := (h.own (Chunk.own tInt f2 a2 n2 c2 y3.Matrix) (by simp)).1.1; obtain rfl := (h.own (Chunk.own tInt f3 a3 n3 c3 y3.Curve) (by simp)).1.1
  exact St.join (F := []) (G := [Chunk.own tPlane f1 a1 _ c1 y2, Chunk.own tInt f2 a2 _ c2 y3.Matrix, Chunk.own tInt f3 a3 _ c3 y3.Curve]) _ h ⟨a1, c1, f1, a2, c2, f2, a3, c3, f3, rfl, rfl, (h.own (Chunk.own tPlane f1 a1 _ c1 y2) (by simp)).1, (h.own (Chunk.own tInt f2 a2 _ c2 y3.Matrix) (by simp)).1, (h.own (Chunk.own tInt f3 a3 _ c3 y3.Curve) (by simp)).1⟩ (by simp [Chunk.own, Chunk.el, Chunk.fp])
theorem tCrtc_open {w0 w : World} {F C : List Chunk} {fp : List Nat} {cs : List Value} {x : CrtcT} (h : St w0 (F ++ Chunk.el tCrtc fp cs x :: C) w) : ∃ a1 c1 f1 a2 c2 f2 a3 c3 f3, cs = [.int .i64 x.W, .int .i64 x.H, .slice a1 x.Planes.length c1, .slice a2 x.Color.Matrix.length c2, .slice a3 x.Color.Curve.length c3] ∧ St w0 (F ++ ([Chunk.own tPlane f1 a1 x.Planes.length c1 x.Planes, Chunk.own tInt f2 a2 x.Color.Matrix.length c2 x.Color.Matrix, Chunk.own tInt f3 a3 x.Color.Curve.length c3 x.Color.Curve] ++ C)) w := by
  obtain ⟨a1, c1, f1, a2, c2, f2, a3, c3, f3, e0, e, h1, h2, h3⟩ := (h.own (Chunk.el tCrtc fp cs x) (by simp)).1
  refine ⟨a1, c1, f1, a2, c2, f2, a3, c3, f3, e, St.split h (fun d hd => ?_) (by rw [show (Chunk.el tCrtc fp cs x).fp = fp from rfl, e0]; simp [Chunk.own, Chunk.fp])⟩
  simp only [List.mem_cons, List.not_mem_nil, or_false] at hd
  rcases hd with rfl | rfl | rfl
  · exact h1
  · exact h2
  · exact h3
theorem tCrtc_zero : ∀ w, tCrtc.ow [] w [.int .i64 0, .int .i64 0, .slice .none 0 0, .slice .none 0 0, .slice .none 0 0] (CrtcT.mk 0 0 [] (ColorMapT.mk [] [])) := fun w => ⟨.none, 0, [], .none, 0, [], .none, 0, [], rfl, rfl, Ow.nil w, Ow.nil w, Ow.nil w⟩
def tFlips : Ty FlipsT where
  T := 25
  k := 4
  rd := fun w cs x => ∃ a1 c1 a2 c2 a3 c3, cs = [.slice a1 x.Pending.length c1, .slice a2 x.Signalled.length c2, .int .i64 x.Next, .slice a3 x.Events.length c3] ∧ Rd tFlip w a1 x.Pending.length c1 x.Pending ∧ Rd tInt w a2 x.Signalled.length c2 x.Signalled ∧ Rd tInt w a3 x.Events.length c3 x.Events
  ow := fun fp w cs x => ∃ a1 c1 f1 a2 c2 f2 a3 c3 f3, fp = f1 ++ f2 ++ f3 ∧ cs = [.slice a1 x.Pending.length c1, .slice a2 x.Signalled.length c2, .int .i64 x.Next, .slice a3 x.Events.length c3] ∧ Ow tFlip f1 a1 x.Pending.length c1 x.Pending w ∧ Ow tInt f2 a2 x.Signalled.length c2 x.Signalled w ∧ Ow tInt f3 a3 x.Events.length c3 x.Events w
  pos := by decide
  len := fun ⟨_, _, _, _, _, _, e, _, _, _⟩ => by rw [e]; rfl
  ext := fun k ⟨a1, c1, a2, c2, a3, c3, e, h1, h2, h3⟩ => ⟨a1, c1, a2, c2, a3, c3, e, h1.ext k, h2.ext k, h3.ext k⟩
  one := fun ⟨_, _, _, _, _, _, e, _, _, _⟩ => by rw [e]; rfl
  ro := fun ⟨a1, c1, f1, a2, c2, f2, a3, c3, f3, _, e, h1, h2, h3⟩ => ⟨a1, c1, a2, c2, a3, c3, e, h1.rd, h2.rd, h3.rd⟩
  sup := fun h ⟨a1, c1, f1, a2, c2, f2, a3, c3, f3, e0, e, h1, h2, h3⟩ => ⟨a1, c1, f1, a2, c2, f2, a3, c3, f3, e0, e, h1.sup _ _ (fun b hb => h b (by rw [e0]; simp [hb])), h2.sup _ _ (fun b hb => h b (by rw [e0]; simp [hb])), h3.sup _ _ (fun b hb => h b (by rw [e0]; simp [hb]))⟩
  bd := fun ⟨a1, c1, f1, a2, c2, f2, a3, c3, f3, e0, e, h1, h2, h3⟩ b hb => by
    rw [e0] at hb; simp only [List.mem_append] at hb
    rcases hb with (hb | hb) | hb
    · exact h1.bd _ b hb
    · exact h2.bd _ b hb
    · exact h3.bd _ b hb
theorem tFlips_mk {w0 w : World} {C : List Chunk} {f1 : List Nat} {a1 : Option Addr} {n1 c1 : Nat} {f2 : List Nat} {a2 : Option Addr} {n2 c2 : Nat} {f3 : List Nat} {a3 : Option Addr} {n3 c3 : Nat} (y0 : List FlipT) (y1 : List Int) (y2 : Int) (y3 : List Int) (h : St w0 (Chunk.own tFlip f1 a1 n1 c1 y0 :: Chunk.own tInt f2 a2 n2 c2 y1 :: Chunk.own tInt f3 a3 n3 c3 y3 :: C) w) : St w0 (Chunk.el tFlips (f1 ++ f2 ++ f3) [.slice a1 n1 c1, .slice a2 n2 c2, .int .i64 y2, .slice a3 n3 c3] (FlipsT.mk y0 y1 y2 y3) :: C) w := by
  obtain rfl := (h.own (Chunk.own tFlip f1 a1 n1 c1 y0) (by simp)).1.1; obtain rfl := (h.own (Chunk.own tInt f2 a2 n2 c2 y1) (by simp)).1.1; obtain rfl := (h.own (Chunk.own tInt f3 a3 n3 c3 y3) (by simp)).1.1
  exact St.join (F := []) (G := [Chunk.own tFlip f1 a1 _ c1 y0, Chunk.own tInt f2 a2 _ c2 y1, Chunk.own tInt f3 a3 _ c3 y3]) _ h ⟨a1, c1, f1, a2, c2, f2, a3, c3, f3, rfl, rfl, (h.own (Chunk.own tFlip f1 a1 _ c1 y0) (by simp)).1, (h.own (Chunk.own tInt f2 a2 _ c2 y1) (by simp)).1, (h.own (Chunk.own tInt f3 a3 _ c3 y3) (by simp)).1⟩ (by simp [Chunk.own, Chunk.el, Chunk.fp])
theorem tFlips_open {w0 w : World} {F C : List Chunk} {fp : List Nat} {cs : List Value} {x : FlipsT} (h : St w0 (F ++ Chunk.el tFlips fp cs x :: C) w) : ∃ a1 c1 f1 a2 c2 f2 a3 c3 f3, cs = [.slice a1 x.Pending.length c1, .slice a2 x.Signalled.length c2, .int .i64 x.Next, .slice a3 x.Events.length c3] ∧ St w0 (F ++ ([Chunk.own tFlip f1 a1 x.Pending.length c1 x.Pending, Chunk.own tInt f2 a2 x.Signalled.length c2 x.Signalled, Chunk.own tInt f3 a3 x.Events.length c3 x.Events] ++ C)) w := by
  obtain ⟨a1, c1, f1, a2, c2, f2, a3, c3, f3, e0, e, h1, h2, h3⟩ := (h.own (Chunk.el tFlips fp cs x) (by simp)).1
  refine ⟨a1, c1, f1, a2, c2, f2, a3, c3, f3, e, St.split h (fun d hd => ?_) (by rw [show (Chunk.el tFlips fp cs x).fp = fp from rfl, e0]; simp [Chunk.own, Chunk.fp])⟩
  simp only [List.mem_cons, List.not_mem_nil, or_false] at hd
  rcases hd with rfl | rfl | rfl
  · exact h1
  · exact h2
  · exact h3
theorem tFlips_zero : ∀ w, tFlips.ow [] w [.slice .none 0 0, .slice .none 0 0, .int .i64 0, .slice .none 0 0] (FlipsT.mk [] [] 0 []) := fun w => ⟨.none, 0, [], .none, 0, [], .none, 0, [], rfl, rfl, Ow.nil w, Ow.nil w, Ow.nil w⟩
end Go.Proofs.YtmhalmnbgkpmnaaGreat
