/- Plain numbers: fixed point numbers. -/
import Derived.Test.YtognbeejobfpfaaMathA
namespace Go.Proofs.Ytognbeejobfpfaa
open Go.RowKit
set_option linter.unusedVariables false
set_option linter.unusedSimpArgs false

def satAdd (a b : Int) : Int := clampI (a + b)
def satSub (a b : Int) : Int := clampI (a - b)
def fmul (a b : Int) : Int := clampI (a * b / 4294967296)
def fdiv (a b : Int) : Int := if b = 0 then (if 0 < a then 9223372036854775807 else if a < 0 then -9223372036854775808 else 0) else clampI (fq (a * 4294967296) b)
def fof (n : Int) : Int := clampI (n * 4294967296)
def fsqrt (a : Int) : Int := sqN ((if 0 < a then a else 0) * 4294967296)
def fabs (a : Int) : Int := if a < satSub 0 a then satSub 0 a else a
def fround (x : Int) : Int := x / 4294967296 + x / 2147483648 % 2
def sumF (l : List Int) : Int := l.foldl satAdd 0
def mulF : List Int → Int
  | [] => 4294967296
  | x :: l => l.foldl fmul x
def fclamp (x lo hi : Int) : Int := min (max x lo) hi
def flerp (a b t : Int) : Int := satAdd a (fmul (satSub b a) t)

theorem satAdd_I (a b : Int) : InI (satAdd a b) := clampI_I _
theorem satSub_I (a b : Int) : InI (satSub a b) := clampI_I _
theorem fmul_I (a b : Int) : InI (fmul a b) := clampI_I _
theorem fof_I (a : Int) : InI (fof a) := clampI_I _
theorem fdiv_I (a b : Int) : InI (fdiv a b) := by
  unfold fdiv
  split
  · split
    · unfold InI; omega
    · split <;> unfold InI <;> omega
  · exact clampI_I _
theorem fabs_I {a : Int} (h : InI a) : InI (fabs a) := by
  unfold fabs
  split
  · exact satSub_I _ _
  · exact h
theorem fabs_val {a : Int} (h : InI a) : fabs a = if a < 0 then (if a = -9223372036854775808 then 9223372036854775807 else -a) else a := by
  unfold InI at h
  unfold fabs satSub clampI
  split <;> split <;> (try split) <;> (try split) <;> omega
theorem fabs_nonneg {a : Int} (h : InI a) : 0 ≤ fabs a := by
  rw [fabs_val h]
  unfold InI at h
  split <;> (try split) <;> omega
theorem fold_satAdd_I {l : List Int} : ∀ {s : Int}, InI s → InI (l.foldl satAdd s) := by
  induction l with
  | nil => intro s h; exact h
  | cons x l ih => intro s _; exact ih (satAdd_I _ _)
theorem fold_fmul_I {l : List Int} : ∀ {s : Int}, InI s → InI (l.foldl fmul s) := by
  induction l with
  | nil => intro s h; exact h
  | cons x l ih => intro s _; exact ih (fmul_I _ _)
theorem sumF_I (l : List Int) : InI (sumF l) := fold_satAdd_I (by unfold InI; omega)
theorem mulF_I {l : List Int} (h : ∀ x ∈ l, InI x) : InI (mulF l) := by
  cases l with
  | nil => show InI 4294967296; unfold InI; omega
  | cons x l => exact fold_fmul_I (h x (by simp))
theorem fmul_one {x : Int} (h : InI x) : fmul 4294967296 x = x := by
  unfold fmul
  rw [Int.mul_comm, Int.mul_ediv_cancel _ (by omega), clampI_in h]
theorem fmul_one' {x : Int} (h : InI x) : fmul x 4294967296 = x := by
  unfold fmul
  rw [Int.mul_ediv_cancel _ (by omega), clampI_in h]
theorem fmul_comm (a b : Int) : fmul a b = fmul b a := by unfold fmul; rw [Int.mul_comm]
theorem satAdd_comm (a b : Int) : satAdd a b = satAdd b a := by unfold satAdd; rw [Int.add_comm]
theorem satAdd_zero {x : Int} (h : InI x) : satAdd 0 x = x := by unfold satAdd; rw [Int.zero_add, clampI_in h]
theorem satAdd_zero' {x : Int} (h : InI x) : satAdd x 0 = x := by unfold satAdd; rw [Int.add_zero, clampI_in h]
theorem mulF_fold {l : List Int} (h : ∀ x ∈ l, InI x) : mulF l = l.foldl fmul 4294967296 := by
  cases l with
  | nil => rfl
  | cons x l => rw [List.foldl_cons, fmul_one (h x (by simp))]; rfl

/-- Cells of a row of integers. -/
def CellsI (w : World) (b off : Nat) (l : List Int) : Prop := ∀ i (h : i < l.length), w.cell? ⟨b, off + i, none⟩ = some (.int .i64 l[i])
/-- A slice of integers that reads as a list. -/
def RdI (w : World) (A : Option Addr) (n : Nat) (l : List Int) : Prop := n = l.length ∧ (l = [] ∨ ∃ b off, A = some ⟨b, off, none⟩ ∧ CellsI w b off l)

theorem fold_step {f : Int → Int → Int} {s : Int} {l : List Int} {k : Nat} (hk : k < l.length) : (l.drop k).foldl f s = (l.drop (k + 1)).foldl f (f s l[k]) := by
  rw [List.drop_eq_getElem_cons hk]; rfl

/-- A sum of two, as the machine has it. -/
theorem add_wrap {s x : Int} (hs : InI s) (hx : InI x) :
    (0 < s → 0 < x → wrap64 (s + x) < 0 → satAdd s x = 9223372036854775807) ∧ (s < 0 → x < 0 → 0 ≤ wrap64 (s + x) → satAdd s x = -9223372036854775808) ∧
    (¬ (0 < s ∧ 0 < x ∧ wrap64 (s + x) < 0) → ¬ (s < 0 ∧ x < 0 ∧ 0 ≤ wrap64 (s + x)) → satAdd s x = wrap64 (s + x)) := by
  unfold InI at hs hx
  unfold satAdd clampI wrap64
  refine ⟨fun _ _ _ => ?_, fun _ _ _ => ?_, fun _ _ => ?_⟩ <;> split <;> (try split) <;> omega
theorem sub_wrap {a b : Int} (ha : InI a) (hb : InI b) :
    (0 ≤ a → b < 0 → wrap64 (a - b) < 0 → satSub a b = 9223372036854775807) ∧ (a < 0 → 0 < b → 0 ≤ wrap64 (a - b) → satSub a b = -9223372036854775808) ∧
    (¬ (0 ≤ a ∧ b < 0 ∧ wrap64 (a - b) < 0) → ¬ (a < 0 ∧ 0 < b ∧ 0 ≤ wrap64 (a - b)) → satSub a b = wrap64 (a - b)) := by
  unfold InI at ha hb
  unfold satSub clampI wrap64
  refine ⟨fun _ _ _ => ?_, fun _ _ _ => ?_, fun _ _ => ?_⟩ <;> split <;> (try split) <;> omega

end Go.Proofs.Ytognbeejobfpfaa
