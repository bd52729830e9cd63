/- How the data of the program lies in memory. -/
import Derived.Test.YtfgkgkkcaclfpaaOwn
import Derived.Test.YtfgkgkkcaclfpaaMap
import Derived.Test.YtfgkgkkcaclfpaaStructs
namespace Go.Proofs.Ytfgkgkkcaclfpaa
open Go.RowKit K
set_option maxRecDepth 100000
set_option maxHeartbeats 4000000

def tIntE (x : Int) : List Value := [.int .i64 x]
def tInt : Ty Int := Ty.flat 3 1 tIntE (by decide) (fun _ => rfl) (fun _ => rfl)
theorem tInt_flat : Flat tInt tIntE := Flat.of
def tImage : Ty ImageT where
  T := 48
  k := 3
  rd := fun w cs x => ∃ a1 c1, cs = [.int .i64 x.W, .int .i64 x.H, .slice a1 x.Data.length c1] ∧ Rd tInt w a1 x.Data.length c1 x.Data
  ow := fun fp w cs x => ∃ a1 c1 f1, fp = f1 ∧ cs = [.int .i64 x.W, .int .i64 x.H, .slice a1 x.Data.length c1] ∧ Ow tInt f1 a1 x.Data.length c1 x.Data w
  pos := by decide
  len := fun ⟨_, _, e, _⟩ => by rw [e]; rfl
  ext := fun k ⟨a1, c1, e, h1⟩ => ⟨a1, c1, e, h1.ext k⟩
  one := fun ⟨_, _, e, _⟩ => by rw [e]; rfl
  ro := fun ⟨a1, c1, f1, _, e, h1⟩ => ⟨a1, c1, e, h1.rd⟩
  sup := fun h ⟨a1, c1, f1, e0, e, h1⟩ => ⟨a1, c1, f1, e0, e, h1.sup _ _ (fun b hb => h b (by rw [e0]; simp [hb]))⟩
  bd := fun ⟨a1, c1, f1, e0, e, h1⟩ b hb => h1.bd _ b (by rw [← e0]; exact hb)
theorem tImage_mk {w0 w : World} {C : List Chunk} {f1 : List Nat} {a1 : Option Addr} {n1 c1 : Nat} (y0 : Int) (y1 : Int) (y2 : List Int) (h : St w0 (Chunk.own tInt f1 a1 n1 c1 y2 :: C) w) : St w0 (Chunk.el tImage (f1) [.int .i64 y0, .int .i64 y1, .slice a1 n1 c1] (ImageT.mk y0 y1 y2) :: C) w := by
  obtain rfl := (h.own (Chunk.own tInt f1 a1 n1 c1 y2) (by simp)).1.1
  exact St.join (F := []) (G := [Chunk.own tInt f1 a1 _ c1 y2]) _ h ⟨a1, c1, f1, rfl, rfl, (h.own (Chunk.own tInt f1 a1 _ c1 y2) (by simp)).1⟩ (by simp [Chunk.own, Chunk.el, Chunk.fp])
theorem tImage_open {w0 w : World} {F C : List Chunk} {fp : List Nat} {cs : List Value} {x : ImageT} (h : St w0 (F ++ Chunk.el tImage fp cs x :: C) w) : ∃ a1 c1 f1, cs = [.int .i64 x.W, .int .i64 x.H, .slice a1 x.Data.length c1] ∧ St w0 (F ++ ([Chunk.own tInt f1 a1 x.Data.length c1 x.Data] ++ C)) w := by
  obtain ⟨a1, c1, f1, e0, e, h1⟩ := (h.own (Chunk.el tImage fp cs x) (by simp)).1
  refine ⟨a1, c1, f1, e, St.split h (fun d hd => ?_) (by rw [show (Chunk.el tImage fp cs x).fp = fp from rfl, e0]; simp [Chunk.own, Chunk.fp])⟩
  simp only [List.mem_cons, List.not_mem_nil, or_false] at hd
  rcases hd with rfl
  exact h1
theorem tImage_zero : ∀ w, tImage.ow [] w [.int .i64 0, .int .i64 0, .slice .none 0 0] (ImageT.mk 0 0 []) := fun w => ⟨.none, 0, [], rfl, rfl, Ow.nil w⟩
end Go.Proofs.Ytfgkgkkcaclfpaa
