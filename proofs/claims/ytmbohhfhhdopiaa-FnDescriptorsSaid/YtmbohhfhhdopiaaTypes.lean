/- How the data of the program lies in memory. -/
import Derived.Test.YtmbohhfhhdopiaaOwn
import Derived.Test.YtmbohhfhhdopiaaMap
import Derived.Test.YtmbohhfhhdopiaaStructs
namespace Go.Proofs.Ytmbohhfhhdopiaa
open Go.RowKit K
set_option maxRecDepth 100000
set_option maxHeartbeats 4000000

def tU8E (x : Int) : List Value := [.int .u8 x]
def tU8 : Ty Int := Ty.flat 5 1 tU8E (by decide) (fun _ => rfl) (fun _ => rfl)
theorem tU8_flat : Flat tU8 tU8E := Flat.of
def tStrE (x : ByteArray) : List Value := [.string x]
def tStr : Ty ByteArray := Ty.flat 9 1 tStrE (by decide) (fun _ => rfl) (fun _ => rfl)
theorem tStr_flat : Flat tStr tStrE := Flat.of
def tIntE (x : Int) : List Value := [.int .i64 x]
def tInt : Ty Int := Ty.flat 3 1 tIntE (by decide) (fun _ => rfl) (fun _ => rfl)
theorem tInt_flat : Flat tInt tIntE := Flat.of
def tModeE (x : ModeT) : List Value := [.int .i64 x.Clock, .int .i64 x.W, .int .i64 x.HFront, .int .i64 x.HSync, .int .i64 x.HBack, .int .i64 x.H, .int .i64 x.VFront, .int .i64 x.VSync, .int .i64 x.VBack]
def tMode : Ty ModeT := Ty.flat 33 9 tModeE (by decide) (fun _ => rfl) (fun _ => rfl)
theorem tMode_flat : Flat tMode tModeE := Flat.of
def tBoolE (x : Bool) : List Value := [.bool x]
def tBool : Ty Bool := Ty.flat 4 1 tBoolE (by decide) (fun _ => rfl) (fun _ => rfl)
theorem tBool_flat : Flat tBool tBoolE := Flat.of
def tMonitor : Ty MonitorT where
  T := 59
  k := 3
  rd := fun w cs x => ∃ a1 c1, cs = [.string x.Name, .slice a1 x.Modes.length c1, .int .i64 x.Stretch] ∧ Rd tMode w a1 x.Modes.length c1 x.Modes
  ow := fun fp w cs x => ∃ a1 c1 f1, fp = f1 ∧ cs = [.string x.Name, .slice a1 x.Modes.length c1, .int .i64 x.Stretch] ∧ Ow tMode f1 a1 x.Modes.length c1 x.Modes w
  pos := by decide
  len := fun ⟨_, _, e, _⟩ => by rw [e]; rfl
  ext := fun k ⟨a1, c1, e, h1⟩ => ⟨a1, c1, e, h1.ext k⟩
  one := fun ⟨_, _, e, _⟩ => by rw [e]; rfl
  ro := fun ⟨a1, c1, f1, _, e, h1⟩ => ⟨a1, c1, e, h1.rd⟩
  sup := fun h ⟨a1, c1, f1, e0, e, h1⟩ => ⟨a1, c1, f1, e0, e, h1.sup _ _ (fun b hb => h b (by rw [e0]; simp [hb]))⟩
  bd := fun ⟨a1, c1, f1, e0, e, h1⟩ b hb => h1.bd _ b (by rw [← e0]; exact hb)
theorem tMonitor_mk {w0 w : World} {C : List Chunk} {f1 : List Nat} {a1 : Option Addr} {n1 c1 : Nat} (y0 : ByteArray) (y1 : List ModeT) (y2 : Int) (h : St w0 (Chunk.own tMode f1 a1 n1 c1 y1 :: C) w) : St w0 (Chunk.el tMonitor (f1) [.string y0, .slice a1 n1 c1, .int .i64 y2] (MonitorT.mk y0 y1 y2) :: C) w := by
  obtain rfl := (h.own (Chunk.own tMode f1 a1 n1 c1 y1) (by simp)).1.1
  exact St.join (F := []) (G := [Chunk.own tMode f1 a1 _ c1 y1]) _ h ⟨a1, c1, f1, rfl, rfl, (h.own (Chunk.own tMode f1 a1 _ c1 y1) (by simp)).1⟩ (by simp [Chunk.own, Chunk.el, Chunk.fp])
theorem tMonitor_open {w0 w : World} {F C : List Chunk} {fp : List Nat} {cs : List Value} {x : MonitorT} (h : St w0 (F ++ Chunk.el tMonitor fp cs x :: C) w) : ∃ a1 c1 f1, cs = [.string x.Name, .slice a1 x.Modes.length c1, .int .i64 x.Stretch] ∧ St w0 (F ++ ([Chunk.own tMode f1 a1 x.Modes.length c1 x.Modes] ++ C)) w := by
  obtain ⟨a1, c1, f1, e0, e, h1⟩ := (h.own (Chunk.el tMonitor fp cs x) (by simp)).1
  refine ⟨a1, c1, f1, e, St.split h (fun d hd => ?_) (by rw [show (Chunk.el tMonitor fp cs x).fp = fp from rfl, e0]; simp [Chunk.own, Chunk.fp])⟩
  simp only [List.mem_cons, List.not_mem_nil, or_false] at hd
  rcases hd with rfl
  exact h1
theorem tMonitor_zero : ∀ w, tMonitor.ow [] w [.string (⟨#[]⟩ : ByteArray), .slice .none 0 0, .int .i64 0] (MonitorT.mk (⟨#[]⟩ : ByteArray) [] 0) := fun w => ⟨.none, 0, [], rfl, rfl, Ow.nil w⟩
end Go.Proofs.Ytmbohhfhhdopiaa
