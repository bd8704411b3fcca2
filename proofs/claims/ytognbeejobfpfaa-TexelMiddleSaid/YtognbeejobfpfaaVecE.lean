/- Walks: vec.Length. -/
import Derived.Test.YtognbeejobfpfaaVecD
import Derived.Test.YtognbeejobfpfaaAddTwo
import Derived.Test.YtognbeejobfpfaaWalkH
import Derived.Deep.RegionHeld3
import Derived.Deep.CutRange
namespace Go.Proofs.Ytognbeejobfpfaa
open Go.RowKit Go.Sort
set_option linter.unusedVariables false
set_option linter.unusedSimpArgs false

/-- A wide number in a block. -/
abbrev Holds2 (w : World) (b : Nat) (h l : Int) : Prop :=
  (w.cell? ⟨b, 0, none⟩ = some (.int .i64 h) ∧ w.cell? ⟨b, 1, none⟩ = some (.int .u64 l)) ∧ w.frozen? ⟨b, 0, none⟩ = false ∧ w.frozen? ⟨b, 1, none⟩ = false
theorem Holds2.call {w w1 : World} {b : Nat} {x y : Int} (h : Holds2 w b x y) (hb : Below w.heap.size w w1) : Holds2 w1 b x y := by
  obtain ⟨⟨h0, h1⟩, f0, f1⟩ := h
  have hl := World.block_lt_of_cell? w _ h0
  obtain ⟨kc, kf, -⟩ := bcell hb
  exact ⟨⟨(kc b 0 hl).trans h0, (kc b 1 hl).trans h1⟩, (kf b 0 hl).trans f0, (kf b 1 hl).trans f1⟩
theorem Holds2.more {w : World} {b : Nat} {x y : Int} (h : Holds2 w b x y) (o : Obj) : Holds2 (w.alloc o) b x y := h.call ((Below.refl _ _).alloc (Nat.le_refl _) _)
theorem own1 {W w1 : World} {x y : Int} {T : TypeId} (hb : Below (W.alloc (.cells #[.int .i64 x, .int .u64 y] T)).heap.size (W.alloc (.cells #[.int .i64 x, .int .u64 y] T)) w1) : Holds2 w1 W.heap.size x y :=
  Holds2.call (w := W.alloc (.cells #[.int .i64 x, .int .u64 y] T)) (by unfold Holds2; simp [go_sem]) hb
theorem own2 {W w1 : World} {x y : Int} {T : TypeId} {o : Obj} (hb : Below ((W.alloc (.cells #[.int .i64 x, .int .u64 y] T)).alloc o).heap.size ((W.alloc (.cells #[.int .i64 x, .int .u64 y] T)).alloc o) w1) : Holds2 w1 W.heap.size x y :=
  Holds2.call (w := (W.alloc (.cells #[.int .i64 x, .int .u64 y] T)).alloc o) (Holds2.call (w := W.alloc (.cells #[.int .i64 x, .int .u64 y] T)) (by unfold Holds2; simp [go_sem]) ((Below.refl _ _).alloc (Nat.le_refl _) _)) hb
theorem own3 {W w1 : World} {x y : Int} {T : TypeId} (hb : Below (W.alloc (.cells #[.int .i64 x, .int .u64 y] T)).drew.heap.size (W.alloc (.cells #[.int .i64 x, .int .u64 y] T)).drew w1) : Holds2 w1 W.heap.size x y :=
  Holds2.call (w := (W.alloc (.cells #[.int .i64 x, .int .u64 y] T)).drew) (by unfold Holds2; simp [go_sem]) hb

/-- The cells of a box. -/
abbrev Cells3 (B : Nat) (v : T3) (w : World) : Prop :=
  w.cell? ⟨B, 0, none⟩ = some (.int .i64 v.1) ∧ w.cell? ⟨B, 1, none⟩ = some (.int .i64 v.2.1) ∧ w.cell? ⟨B, 2, none⟩ = some (.int .i64 v.2.2)
theorem Cells3.call {w w1 : World} {b : Nat} {v : T3} (h : Cells3 b v w) (hb : Below w.heap.size w w1) : Cells3 b v w1 :=
  ⟨cell_call hb h.1, cell_call hb h.2.1, cell_call hb h.2.2⟩

theorem Cells3.put2 {w : World} {b g : Nat} {v : T3} (h : Cells3 b v w) (hne : b ≠ g) (x y : Value) : Cells3 b v ((w.setCell ⟨g, 0, none⟩ x).setCell ⟨g, 1, none⟩ y) := by
  obtain ⟨h0, h1, h2⟩ := h
  unfold Cells3
  simp (maxDischargeDepth := 9) [go_sem, h0, h1, h2, hne, Ne.symm hne]

/-- A variable that holds a wide number, and whether there is one. -/
def IsW (w : World) (S : Int) (ok : Bool) (p o : Value) (wx : World) : Prop :=
  ∃ g : Nat, p = .pointer (some ⟨g, 0, none⟩) ∧ o = .bool ok ∧ Holds2 wx g (wHi S) (wLo S) ∧ Below w.heap.size w wx

end Go.Proofs.Ytognbeejobfpfaa
