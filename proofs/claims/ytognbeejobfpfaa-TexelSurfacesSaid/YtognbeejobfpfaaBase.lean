/- What a call leaves: an ending, and a world that is as it was below its first new block. No program is named here. -/
import Derived.WalkKit
import Derived.Lib.Hide
namespace Go.Proofs.Ytognbeejobfpfaa
open Go.RowKit
set_option linter.unusedVariables false
set_option linter.unusedSimpArgs false

/-- It returns v, and has turned nothing that was there. -/
def Ret (v : Value) (w : World) (e : Ending) (w' : World) : Prop := e = .returned v ∧ Below w.heap.size w w'
/-- It returns v, and has turned nothing at all. -/
def Same (v : Value) (w : World) (e : Ending) (w' : World) : Prop := e = .returned v ∧ w = w'

theorem Same.ret {v : Value} {w : World} {e : Ending} {w' : World} (h : Same v w e w') : Ret v w e w' := by
  obtain ⟨h1, h2⟩ := h
  subst h2
  exact ⟨h1, Below.refl _ _⟩
theorem ret_same {v : Value} {w : World} : Ret v w (.returned v) w := ⟨rfl, Below.refl _ _⟩
theorem ret_of {u v : Value} {w w' : World} (h : u = v) (hb : Below w.heap.size w w') : Ret v w (.returned u) w' := ⟨by rw [h], hb⟩
theorem same_of {u v : Value} {w : World} (h : u = v) : Same v w (.returned u) w := ⟨by rw [h], rfl⟩

/-- Behind a call: cells and marks of what was there, and that the heap has not shrunk. -/
theorem bcell {W w1 : World} (hb : Below W.heap.size W w1) : (∀ b o, b < W.heap.size → w1.cell? ⟨b, o, none⟩ = W.cell? ⟨b, o, none⟩) ∧ (∀ b o, b < W.heap.size → w1.frozen? ⟨b, o, none⟩ = W.frozen? ⟨b, o, none⟩) ∧ W.heap.size ≤ w1.heap.size :=
  ⟨fun b o h => hb.cell (p := ⟨b, o, none⟩) h, fun b o h => hb.frozen (p := ⟨b, o, none⟩) h, hb.size⟩

theorem Below.next {w W w1 : World} (h : Below w.heap.size w W) (hb : Below W.heap.size W w1) : Below w.heap.size w w1 := h.trans (hb.mono h.size)

theorem Below.step {w W w1 : World} (h : Below w.heap.size w W) (hb : Below W.heap.size W w1) : Below w.heap.size w w1 ∧ w.heap.size ≤ w1.heap.size := ⟨Below.next h hb, (Below.next h hb).size⟩

theorem vint {k : IntKind} {a b : Int} (h : a = b) : Value.int k a = .int k b := by rw [h]
theorem vbool {a b : Bool} (h : a = b) : Value.bool a = .bool b := by rw [h]
theorem vtup2 {a b c d : Value} (h : a = b) (h2 : c = d) : Value.tuple #[a, c] = .tuple #[b, d] := by rw [h, h2]
theorem vtup3 {a b c d e f : Value} (h : a = b) (h2 : c = d) (h3 : e = f) : Value.tuple #[a, c, e] = .tuple #[b, d, f] := by rw [h, h2, h3]
theorem vagg2 {a b c d : Value} (h : a = b) (h2 : c = d) : Value.agg #[a, c] = .agg #[b, d] := by rw [h, h2]
theorem vagg3 {a b c d e f : Value} (h : a = b) (h2 : c = d) (h3 : e = f) : Value.agg #[a, c, e] = .agg #[b, d, f] := by rw [h, h2, h3]

end Go.Proofs.Ytognbeejobfpfaa
