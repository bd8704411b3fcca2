/- Vectors: plain, and in memory. No function of the program is named here. -/
import Derived.Test.YtognbeejobfpfaaQuietT
import Derived.Test.YtognbeejobfpfaaFixM
namespace Go.Proofs.Ytognbeejobfpfaa
open Go.RowKit Go.Sort
set_option linter.unusedVariables false
set_option linter.unusedSimpArgs false

abbrev T3 : Type := Int × Int × Int
def InV (v : T3) : Prop := InI v.1 ∧ InI v.2.1 ∧ InI v.2.2
def vadd (a b : T3) : T3 := (satAdd a.1 b.1, satAdd a.2.1 b.2.1, satAdd a.2.2 b.2.2)
def vsub (a b : T3) : T3 := (satSub a.1 b.1, satSub a.2.1 b.2.1, satSub a.2.2 b.2.2)
def vmul (a b : T3) : T3 := (fmul a.1 b.1, fmul a.2.1 b.2.1, fmul a.2.2 b.2.2)
def one3 : T3 := (4294967296, 4294967296, 4294967296)
def zero3 : T3 := (0, 0, 0)
def sumT (l : List T3) : T3 := l.foldl vadd zero3
def mulT (l : List T3) : T3 := l.foldl vmul one3
theorem vadd_I (a b : T3) : InV (vadd a b) := ⟨satAdd_I _ _, satAdd_I _ _, satAdd_I _ _⟩
theorem vsub_I (a b : T3) : InV (vsub a b) := ⟨satSub_I _ _, satSub_I _ _, satSub_I _ _⟩
theorem vmul_I (a b : T3) : InV (vmul a b) := ⟨fmul_I _ _, fmul_I _ _, fmul_I _ _⟩
theorem zero3_I : InV zero3 := by unfold InV zero3 InI; simp
theorem one3_I : InV one3 := by unfold InV one3 InI; simp
theorem foldV_I {f : T3 → T3 → T3} (hf : ∀ a b, InV (f a b)) {l : List T3} : ∀ {s : T3}, InV s → InV (l.foldl f s) := by
  induction l with
  | nil => intro s h; exact h
  | cons x l ih => intro s _; exact ih (hf _ _)
theorem sumT_I (l : List T3) : InV (sumT l) := foldV_I vadd_I zero3_I
theorem mulT_I (l : List T3) : InV (mulT l) := foldV_I vmul_I one3_I
theorem vadd_zero {x : T3} (h : InV x) : vadd zero3 x = x := by
  obtain ⟨a, b, c⟩ := h
  unfold vadd zero3
  rw [satAdd_zero a, satAdd_zero b, satAdd_zero c]
theorem vmul_one {x : T3} (h : InV x) : vmul one3 x = x := by
  obtain ⟨a, b, c⟩ := h
  unfold vmul one3
  rw [fmul_one a, fmul_one b, fmul_one c]
theorem foldV_step {f : T3 → T3 → T3} {s : T3} {l : List T3} {k : Nat} (hk : k < l.length) : (l.drop k).foldl f s = (l.drop (k + 1)).foldl f (f s l[k]) := by
  rw [List.drop_eq_getElem_cons hk]; rfl

/-- A vector in a block of its own. -/
def Holds3 (w : World) (b : Nat) (v : T3) : Prop :=
  w.cell? ⟨b, 0, none⟩ = some (.int .i64 v.1) ∧ w.cell? ⟨b, 1, none⟩ = some (.int .i64 v.2.1) ∧ w.cell? ⟨b, 2, none⟩ = some (.int .i64 v.2.2) ∧
  w.frozen? ⟨b, 0, none⟩ = false ∧ w.frozen? ⟨b, 1, none⟩ = false ∧ w.frozen? ⟨b, 2, none⟩ = false
theorem Holds3.lt {w : World} {b : Nat} {v : T3} (h : Holds3 w b v) : b < w.heap.size := World.block_lt_of_cell? w _ h.1
theorem Holds3.call {w w1 : World} {b : Nat} {v : T3} (h : Holds3 w b v) (hb : Below w.heap.size w w1) : Holds3 w1 b v := by
  have hl := h.lt
  obtain ⟨h0, h1, h2, f0, f1, f2⟩ := h
  obtain ⟨kc, kf, -⟩ := bcell hb
  exact ⟨(kc b 0 hl).trans h0, (kc b 1 hl).trans h1, (kc b 2 hl).trans h2, (kf b 0 hl).trans f0, (kf b 1 hl).trans f1, (kf b 2 hl).trans f2⟩
theorem Holds3.more {w : World} {b : Nat} {v : T3} (h : Holds3 w b v) (o : Obj) : Holds3 (w.alloc o) b v := h.call ((Below.refl _ _).alloc (Nat.le_refl _) o)
theorem Holds3.new (w : World) (x y z : Int) (T : TypeId) (b : Nat) (hb : b = w.heap.size) : Holds3 (w.alloc (.cells #[.int .i64 x, .int .i64 y, .int .i64 z] T)) b (x, y, z) := by
  subst hb
  unfold Holds3
  simp [go_sem]
theorem Holds3.put {w : World} {b : Nat} {v : T3} (h : Holds3 w b v) (u : T3) :
    Holds3 (((w.setCell ⟨b, 0, none⟩ (.int .i64 u.1)).setCell ⟨b, 1, none⟩ (.int .i64 u.2.1)).setCell ⟨b, 2, none⟩ (.int .i64 u.2.2)) b u := by
  obtain ⟨h0, h1, h2, f0, f1, f2⟩ := h
  unfold Holds3
  simp (maxDischargeDepth := 9) [go_sem, h0, h1, h2, f0, f1, f2]
theorem Holds3.other {w : World} {b c : Nat} {v : T3} (h : Holds3 w c v) (hne : b ≠ c) (x y z : Value) :
    Holds3 (((w.setCell ⟨b, 0, none⟩ x).setCell ⟨b, 1, none⟩ y).setCell ⟨b, 2, none⟩ z) c v := by
  obtain ⟨h0, h1, h2, f0, f1, f2⟩ := h
  unfold Holds3
  simp (maxDischargeDepth := 9) [go_sem, h0, h1, h2, f0, f1, f2, hne, Ne.symm hne]

/-- Cells of a row of vectors. -/
def CellsV (w : World) (b off : Nat) (l : List T3) : Prop := ∀ i (h : i < l.length),
  w.cell? ⟨b, off + i * 3, none⟩ = some (.int .i64 l[i].1) ∧ w.cell? ⟨b, off + i * 3 + 1, none⟩ = some (.int .i64 l[i].2.1) ∧ w.cell? ⟨b, off + i * 3 + 2, none⟩ = some (.int .i64 l[i].2.2)
/-- A slice of vectors that reads as a list. -/
def RdV (w : World) (A : Option Addr) (n : Nat) (l : List T3) : Prop := n = l.length ∧ (l = [] ∨ ∃ b off, A = some ⟨b, off, none⟩ ∧ CellsV w b off l)
theorem CellsV.lt {w : World} {b off : Nat} {l : List T3} (h : CellsV w b off l) (h0 : l ≠ []) : b < w.heap.size :=
  World.block_lt_of_cell? w _ (h 0 (List.length_pos_iff.2 h0)).1
theorem CellsV.call {w w1 : World} {b off : Nat} {l : List T3} (h : CellsV w b off l) (hb : Below w.heap.size w w1) : CellsV w1 b off l := by
  intro i hi
  obtain ⟨h0, h1, h2⟩ := h i hi
  have hl := World.block_lt_of_cell? w _ h0
  obtain ⟨kc, -, -⟩ := bcell hb
  exact ⟨(kc b _ hl).trans h0, (kc b _ hl).trans h1, (kc b _ hl).trans h2⟩
theorem RdV.call {w w1 : World} {A : Option Addr} {n : Nat} {l : List T3} (h : RdV w A n l) (hb : Below w.heap.size w w1) : RdV w1 A n l := by
  obtain ⟨rfl, h⟩ := h
  refine ⟨rfl, ?_⟩
  rcases h with h | ⟨b, off, rfl, hc⟩
  · exact .inl h
  · exact .inr ⟨b, off, rfl, hc.call hb⟩
theorem RdV.cut {w : World} {A : Option Addr} {n : Nat} {l : List T3} (h : RdV w A n l) (m : Nat) (hm : m ≤ n) : RdV w A m (l.take m) := by
  obtain ⟨rfl, h⟩ := h
  refine ⟨by simp; omega, ?_⟩
  rcases h with rfl | ⟨b, off, rfl, hc⟩
  · left; simp
  · right
    refine ⟨b, off, rfl, fun i hi => ?_⟩
    rw [List.length_take] at hi
    rw [List.getElem_take]
    exact hc i (by omega)

end Go.Proofs.Ytognbeejobfpfaa
