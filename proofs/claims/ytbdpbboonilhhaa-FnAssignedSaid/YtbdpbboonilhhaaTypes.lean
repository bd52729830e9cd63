/- How the data of the program lies in memory. -/
import Derived.Test.YtbdpbboonilhhaaVault
import Derived.Test.YtbdpbboonilhhaaMap
import Derived.Test.YtbdpbboonilhhaaStructs
namespace Go.Proofs.Ytbdpbboonilhhaa
open Go.RowKit K
set_option maxRecDepth 100000
set_option maxHeartbeats 4000000

def tU8E (x : Int) : List Value := [.int .u8 x]
def tU8 : Ty Int := Ty.flat 5 1 tU8E (by decide) (fun _ => rfl) (fun _ => rfl)
theorem tU8_flat : Flat tU8 tU8E := Flat.of
def tIntE (x : Int) : List Value := [.int .i64 x]
def tInt : Ty Int := Ty.flat 3 1 tIntE (by decide) (fun _ => rfl) (fun _ => rfl)
theorem tInt_flat : Flat tInt tIntE := Flat.of
def tSurface : Ty SurfaceT where
  T := 119
  k := 11
  rd := fun w cs x => ∃ a1 c1, cs = [.int .i64 x.Id, .int .i64 x.X, .int .i64 x.Y, .int .i64 x.W, .int .i64 x.H, .int .i64 x.Alpha, .int .i64 x.Orient, .bool x.Visible, .int .i64 x.Buffer.W, .int .i64 x.Buffer.H, .slice a1 x.Buffer.Data.length c1] ∧ Rd tInt w a1 x.Buffer.Data.length c1 x.Buffer.Data
  ow := fun fp w cs x => ∃ a1 c1 f1, fp = f1 ∧ cs = [.int .i64 x.Id, .int .i64 x.X, .int .i64 x.Y, .int .i64 x.W, .int .i64 x.H, .int .i64 x.Alpha, .int .i64 x.Orient, .bool x.Visible, .int .i64 x.Buffer.W, .int .i64 x.Buffer.H, .slice a1 x.Buffer.Data.length c1] ∧ Ow tInt f1 a1 x.Buffer.Data.length c1 x.Buffer.Data w
  pos := by decide
  len := fun ⟨_, _, e, _⟩ => by rw [e]; rfl
  ext := fun k ⟨a1, c1, e, h1⟩ => ⟨a1, c1, e, h1.ext k⟩
  one := fun ⟨_, _, e, _⟩ => by rw [e]; rfl
  ro := fun ⟨a1, c1, f1, _, e, h1⟩ => ⟨a1, c1, e, h1.rd⟩
  sup := fun h ⟨a1, c1, f1, e0, e, h1⟩ => ⟨a1, c1, f1, e0, e, h1.sup _ _ (fun b hb => h b (by rw [e0]; simp [hb]))⟩
  bd := fun ⟨a1, c1, f1, e0, e, h1⟩ b hb => h1.bd _ b (by rw [← e0]; exact hb)
theorem tSurface_mk {w0 w : World} {C : List Chunk} {f1 : List Nat} {a1 : Option Addr} {n1 c1 : Nat} (y0 : Int) (y1 : Int) (y2 : Int) (y3 : Int) (y4 : Int) (y5 : Int) (y6 : Int) (y7 : Bool) (y8 : ImageT) (h : St w0 (Chunk.own tInt f1 a1 n1 c1 y8.Data :: C) w) : St w0 (Chunk.el tSurface (f1) [.int .i64 y0, .int .i64 y1, .int .i64 y2, .int .i64 y3, .int .i64 y4, .int .i64 y5, .int .i64 y6, .bool y7, .int .i64 y8.W, .int .i64 y8.H, .slice a1 n1 c1] (SurfaceT.mk y0 y1 y2 y3 y4 y5 y6 y7 y8) :: C) w := by
  obtain rfl := (h.own (Chunk.own tInt f1 a1 n1 c1 y8.Data) (by simp)).1.1
  exact St.join (F := []) (G := [Chunk.own tInt f1 a1 _ c1 y8.Data]) _ h ⟨a1, c1, f1, rfl, rfl, (h.own (Chunk.own tInt f1 a1 _ c1 y8.Data) (by simp)).1⟩ (by simp [Chunk.own, Chunk.el, Chunk.fp])
theorem tSurface_open {w0 w : World} {F C : List Chunk} {fp : List Nat} {cs : List Value} {x : SurfaceT} (h : St w0 (F ++ Chunk.el tSurface fp cs x :: C) w) : ∃ a1 c1 f1, cs = [.int .i64 x.Id, .int .i64 x.X, .int .i64 x.Y, .int .i64 x.W, .int .i64 x.H, .int .i64 x.Alpha, .int .i64 x.Orient, .bool x.Visible, .int .i64 x.Buffer.W, .int .i64 x.Buffer.H, .slice a1 x.Buffer.Data.length c1] ∧ St w0 (F ++ ([Chunk.own tInt f1 a1 x.Buffer.Data.length c1 x.Buffer.Data] ++ C)) w := by
  obtain ⟨a1, c1, f1, e0, e, h1⟩ := (h.own (Chunk.el tSurface fp cs x) (by simp)).1
  refine ⟨a1, c1, f1, e, St.split h (fun d hd => ?_) (by rw [show (Chunk.el tSurface fp cs x).fp = fp from rfl, e0]; simp [Chunk.own, Chunk.fp])⟩
  simp only [List.mem_cons, List.not_mem_nil, or_false] at hd
  rcases hd with rfl
  exact h1
theorem tSurface_al {w1 w : World} {G : List Nat} {cs : List Value} {x : SurfaceT} (h : (Ty.al tSurface w1 G).rd w cs x) : ∃ a1 c1, cs = [.int .i64 x.Id, .int .i64 x.X, .int .i64 x.Y, .int .i64 x.W, .int .i64 x.H, .int .i64 x.Alpha, .int .i64 x.Orient, .bool x.Visible, .int .i64 x.Buffer.W, .int .i64 x.Buffer.H, .slice a1 x.Buffer.Data.length c1] ∧ Vl tInt w1 G a1 x.Buffer.Data.length c1 x.Buffer.Data := by
  obtain ⟨f, hf, a1, c1, f1, e0, e, h1⟩ := h
  exact ⟨a1, c1, e, ⟨f1, fun b hb => hf b (by rw [e0]; simp [hb]), h1⟩⟩
theorem tSurface_mkAl {w1 : World} {G : List Nat} {a1 : Option Addr} {n1 c1 : Nat} (y0 : Int) (y1 : Int) (y2 : Int) (y3 : Int) (y4 : Int) (y5 : Int) (y6 : Int) (y7 : Bool) (y8 : ImageT) (v1 : Vl tInt w1 G a1 n1 c1 y8.Data) (w : World) : (Ty.al tSurface w1 G).ow [] w [.int .i64 y0, .int .i64 y1, .int .i64 y2, .int .i64 y3, .int .i64 y4, .int .i64 y5, .int .i64 y6, .bool y7, .int .i64 y8.W, .int .i64 y8.H, .slice a1 n1 c1] (SurfaceT.mk y0 y1 y2 y3 y4 y5 y6 y7 y8) := by
  obtain ⟨f1, s1, o1⟩ := v1
  obtain rfl := o1.1
  refine ⟨rfl, f1, fun b hb => ?_, a1, c1, f1, rfl, rfl, o1⟩
  exact s1 b hb
theorem tSurface_zero : ∀ w, tSurface.ow [] w [.int .i64 0, .int .i64 0, .int .i64 0, .int .i64 0, .int .i64 0, .int .i64 0, .int .i64 0, .bool false, .int .i64 0, .int .i64 0, .slice .none 0 0] (SurfaceT.mk 0 0 0 0 0 0 0 false (ImageT.mk 0 0 [])) := fun w => ⟨.none, 0, [], rfl, rfl, Ow.nil w⟩
def tPlane : Ty PlaneT where
  T := 30
  k := 11
  rd := fun w cs x => ∃ a1 c1, cs = [.bool x.On, .int .i64 x.X, .int .i64 x.Y, .int .i64 x.W, .int .i64 x.H, .int .i64 x.Layout, .slice a1 x.Words.length c1, .int .i64 x.Alpha, .int .i64 x.Orient, .int .i64 x.ToW, .int .i64 x.ToH] ∧ Rd tInt w a1 x.Words.length c1 x.Words
  ow := fun fp w cs x => ∃ a1 c1 f1, fp = f1 ∧ cs = [.bool x.On, .int .i64 x.X, .int .i64 x.Y, .int .i64 x.W, .int .i64 x.H, .int .i64 x.Layout, .slice a1 x.Words.length c1, .int .i64 x.Alpha, .int .i64 x.Orient, .int .i64 x.ToW, .int .i64 x.ToH] ∧ Ow tInt f1 a1 x.Words.length c1 x.Words w
  pos := by decide
  len := fun ⟨_, _, e, _⟩ => by rw [e]; rfl
  ext := fun k ⟨a1, c1, e, h1⟩ => ⟨a1, c1, e, h1.ext k⟩
  one := fun ⟨_, _, e, _⟩ => by rw [e]; rfl
  ro := fun ⟨a1, c1, f1, _, e, h1⟩ => ⟨a1, c1, e, h1.rd⟩
  sup := fun h ⟨a1, c1, f1, e0, e, h1⟩ => ⟨a1, c1, f1, e0, e, h1.sup _ _ (fun b hb => h b (by rw [e0]; simp [hb]))⟩
  bd := fun ⟨a1, c1, f1, e0, e, h1⟩ b hb => h1.bd _ b (by rw [← e0]; exact hb)
theorem tPlane_mk {w0 w : World} {C : List Chunk} {f1 : List Nat} {a1 : Option Addr} {n1 c1 : Nat} (y0 : Bool) (y1 : Int) (y2 : Int) (y3 : Int) (y4 : Int) (y5 : Int) (y6 : List Int) (y7 : Int) (y8 : Int) (y9 : Int) (y10 : Int) (h : St w0 (Chunk.own tInt f1 a1 n1 c1 y6 :: C) w) : St w0 (Chunk.el tPlane (f1) [.bool y0, .int .i64 y1, .int .i64 y2, .int .i64 y3, .int .i64 y4, .int .i64 y5, .slice a1 n1 c1, .int .i64 y7, .int .i64 y8, .int .i64 y9, .int .i64 y10] (PlaneT.mk y0 y1 y2 y3 y4 y5 y6 y7 y8 y9 y10) :: C) w := by
  obtain rfl := (h.own (Chunk.own tInt f1 a1 n1 c1 y6) (by simp)).1.1
  exact St.join (F := []) (G := [Chunk.own tInt f1 a1 _ c1 y6]) _ h ⟨a1, c1, f1, rfl, rfl, (h.own (Chunk.own tInt f1 a1 _ c1 y6) (by simp)).1⟩ (by simp [Chunk.own, Chunk.el, Chunk.fp])
theorem tPlane_open {w0 w : World} {F C : List Chunk} {fp : List Nat} {cs : List Value} {x : PlaneT} (h : St w0 (F ++ Chunk.el tPlane fp cs x :: C) w) : ∃ a1 c1 f1, cs = [.bool x.On, .int .i64 x.X, .int .i64 x.Y, .int .i64 x.W, .int .i64 x.H, .int .i64 x.Layout, .slice a1 x.Words.length c1, .int .i64 x.Alpha, .int .i64 x.Orient, .int .i64 x.ToW, .int .i64 x.ToH] ∧ St w0 (F ++ ([Chunk.own tInt f1 a1 x.Words.length c1 x.Words] ++ C)) w := by
  obtain ⟨a1, c1, f1, e0, e, h1⟩ := (h.own (Chunk.el tPlane fp cs x) (by simp)).1
  refine ⟨a1, c1, f1, e, St.split h (fun d hd => ?_) (by rw [show (Chunk.el tPlane fp cs x).fp = fp from rfl, e0]; simp [Chunk.own, Chunk.fp])⟩
  simp only [List.mem_cons, List.not_mem_nil, or_false] at hd
  rcases hd with rfl
  exact h1
theorem tPlane_al {w1 w : World} {G : List Nat} {cs : List Value} {x : PlaneT} (h : (Ty.al tPlane w1 G).rd w cs x) : ∃ a1 c1, cs = [.bool x.On, .int .i64 x.X, .int .i64 x.Y, .int .i64 x.W, .int .i64 x.H, .int .i64 x.Layout, .slice a1 x.Words.length c1, .int .i64 x.Alpha, .int .i64 x.Orient, .int .i64 x.ToW, .int .i64 x.ToH] ∧ Vl tInt w1 G a1 x.Words.length c1 x.Words := by
  obtain ⟨f, hf, a1, c1, f1, e0, e, h1⟩ := h
  exact ⟨a1, c1, e, ⟨f1, fun b hb => hf b (by rw [e0]; simp [hb]), h1⟩⟩
theorem tPlane_mkAl {w1 : World} {G : List Nat} {a1 : Option Addr} {n1 c1 : Nat} (y0 : Bool) (y1 : Int) (y2 : Int) (y3 : Int) (y4 : Int) (y5 : Int) (y6 : List Int) (y7 : Int) (y8 : Int) (y9 : Int) (y10 : Int) (v1 : Vl tInt w1 G a1 n1 c1 y6) (w : World) : (Ty.al tPlane w1 G).ow [] w [.bool y0, .int .i64 y1, .int .i64 y2, .int .i64 y3, .int .i64 y4, .int .i64 y5, .slice a1 n1 c1, .int .i64 y7, .int .i64 y8, .int .i64 y9, .int .i64 y10] (PlaneT.mk y0 y1 y2 y3 y4 y5 y6 y7 y8 y9 y10) := by
  obtain ⟨f1, s1, o1⟩ := v1
  obtain rfl := o1.1
  refine ⟨rfl, f1, fun b hb => ?_, a1, c1, f1, rfl, rfl, o1⟩
  exact s1 b hb
theorem tPlane_zero : ∀ w, tPlane.ow [] w [.bool false, .int .i64 0, .int .i64 0, .int .i64 0, .int .i64 0, .int .i64 0, .slice .none 0 0, .int .i64 0, .int .i64 0, .int .i64 0, .int .i64 0] (PlaneT.mk false 0 0 0 0 0 [] 0 0 0 0) := fun w => ⟨.none, 0, [], rfl, rfl, Ow.nil w⟩
end Go.Proofs.Ytbdpbboonilhhaa
