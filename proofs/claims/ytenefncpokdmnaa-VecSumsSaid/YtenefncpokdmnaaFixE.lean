/- fix.Add, fix.Mul of two and three; Lerp; the chapter's example. -/
import Derived.Test.YtenefncpokdmnaaFixB
import Derived.Test.YtenefncpokdmnaaFixC
import Derived.Test.YtenefncpokdmnaaFixD
import Derived.Test.YtenefncpokdmnaaQuiet
namespace Go.Proofs.Ytenefncpokdmnaa
open Go.RowKit Go.Sort
set_option linter.unusedVariables false
set_option linter.unusedSimpArgs false

theorem cells2 {w : World} {B : Nat} {a b : Int} (h0 : w.cell? ⟨B, 0, none⟩ = some (.int .i64 a)) (h1 : w.cell? ⟨B, 1, none⟩ = some (.int .i64 b)) : CellsI w B 0 [a, b] := by
  intro i h
  match i, h with
  | 0, _ => exact h0
  | 1, _ => exact h1
theorem cells3 {w : World} {B : Nat} {a b c : Int} (h0 : w.cell? ⟨B, 0, none⟩ = some (.int .i64 a)) (h1 : w.cell? ⟨B, 1, none⟩ = some (.int .i64 b)) (h2 : w.cell? ⟨B, 2, none⟩ = some (.int .i64 c)) : CellsI w B 0 [a, b, c] := by
  intro i h
  match i, h with
  | 0, _ => exact h0
  | 1, _ => exact h1
  | 2, _ => exact h2

theorem fAdd2 (a b : Int) (ha : InI a) (hb : InI b) (w : World) (B cap : Nat) (h0 : w.cell? ⟨B, 0, none⟩ = some (.int .i64 a)) (h1 : w.cell? ⟨B, 1, none⟩ = some (.int .i64 b)) :
    Calls Try.prog 27 #[.slice (some ⟨B, 0, none⟩) 2 cap] w (Same (.int .i64 (satAdd a b)) w) := by
  have := fAdd_ne B 0 2 cap [a, b] rfl (by simp) (by simp; exact ⟨ha, hb⟩) w (cells2 h0 h1)
  have e : sumF [a, b] = satAdd a b := by show satAdd (satAdd 0 a) b = _; rw [satAdd_zero ha]
  rw [e] at this
  exact this
theorem fAdd3 (a b c : Int) (ha : InI a) (hb : InI b) (hc : InI c) (w : World) (B cap : Nat) (h0 : w.cell? ⟨B, 0, none⟩ = some (.int .i64 a)) (h1 : w.cell? ⟨B, 1, none⟩ = some (.int .i64 b)) (h2 : w.cell? ⟨B, 2, none⟩ = some (.int .i64 c)) :
    Calls Try.prog 27 #[.slice (some ⟨B, 0, none⟩) 3 cap] w (Same (.int .i64 (satAdd (satAdd a b) c)) w) := by
  have := fAdd_ne B 0 3 cap [a, b, c] rfl (by simp) (by simp; exact ⟨ha, hb, hc⟩) w (cells3 h0 h1 h2)
  have e : sumF [a, b, c] = satAdd (satAdd a b) c := by show satAdd (satAdd (satAdd 0 a) b) c = _; rw [satAdd_zero ha]
  rw [e] at this
  exact this
theorem fMul2 (a b : Int) (ha : InI a) (hb : InI b) (w : World) (B cap : Nat) (h0 : w.cell? ⟨B, 0, none⟩ = some (.int .i64 a)) (h1 : w.cell? ⟨B, 1, none⟩ = some (.int .i64 b)) :
    Calls Try.prog 20 #[.slice (some ⟨B, 0, none⟩) 2 cap] w (Ret (.int .i64 (fmul a b)) w) :=
  fMul_ne B 0 2 cap [a, b] rfl (by simp) (by simp; exact ⟨ha, hb⟩) w (World.block_lt_of_cell? w _ h0) (cells2 h0 h1)

theorem fLerp (a b t : Int) (ha : InI a) (hb : InI b) (ht : InI t) (w : World) : Calls Try.prog 50 #[.int .i64 a, .int .i64 b, .int .i64 t] w (Ret (.int .i64 (flerp a b t)) w) := by
  go_enter Try.func50, Try.ntmps50
  go_wp2_with fail
  refine (fSub b a hb ha _).mono ?_; rintro e w1 ⟨rfl, rfl⟩
  go_wp2_with fail
  refine (fMul2 _ t (satSub_I b a) ht _ _ _ (by simp) (by simp)).mono ?_; rintro e w2 ⟨rfl, hb2⟩
  obtain ⟨hB2, hS2⟩ : Below w.heap.size w w2 ∧ w.heap.size ≤ w2.heap.size := Below.step (by go_grown) hb2
  go_wp2_with fail
  refine (fAdd2 a (fmul (satSub b a) t) ha (fmul_I _ _) _ _ _ (by simp) (by simp)).mono ?_; rintro e w3 ⟨rfl, rfl⟩
  go_wp2_with fail
  go_ret
  exact ret_of rfl (by go_grown)

end Go.Proofs.Ytenefncpokdmnaa
