/- wide.Add of none, two, three, four. -/
import Derived.Test.YtognbeejobfpfaaWalkJ
namespace Go.Proofs.Ytognbeejobfpfaa
open Go.RowKit
set_option linter.unusedVariables false
set_option linter.unusedSimpArgs false

theorem wAdd_nil (w : World) : Calls Try.prog 52 #[.slice none 0 0] w (Ret (.tuple #[W 0, .bool true]) w) := by
  go_enter Try.func52, Try.ntmps52
  go_wp2_with fail
  refine wp_loop_rounds 1 ?_
  rw [rounds_succ]
  go_wp2
  refine bodyPost_ret (v := .tuple #[W 0, .bool true]) (by simp (maxDischargeDepth := 9) [results, Try.results52, go_sem, wHi_zero, wLo_zero]) rfl (ret_of rfl (by go_grown))

/-- What a sum of these comes to. -/
def sumV (l : List Int) : Value := .tuple #[W ((addL 0 l).getD 0), .bool (addL 0 l).isSome]

theorem wAdd_new (l : List Int) (hl : l.length ≤ 1000000) (hW : ∀ x ∈ l, InW x) (w : World) (cs : Array Value) (T : TypeId) (fr : Nat × Nat) (n cap : Nat) (hn : n = l.length)
    (hcs : ∀ i (h : i < l.length), cs[i * 2]? = some (.int .i64 (wHi l[i])) ∧ cs[i * 2 + 1]? = some (.int .u64 (wLo l[i]))) :
    Calls Try.prog 52 #[.slice (some ⟨w.heap.size, 0, none⟩) n cap] (w.alloc (.cells cs T fr)) (Ret (sumV l) (w.alloc (.cells cs T fr))) := by
  refine wAdd_ne w.heap.size 0 n cap l hn hl hW _ (by simp) (fun i h => ?_)
  obtain ⟨h1, h2⟩ := hcs i h
  rw [Nat.zero_add]
  exact ⟨by rw [cell_of_row _ _ _ _ _ _ (heap_alloc_new w _)]; exact h1, by rw [cell_of_row _ _ _ _ _ _ (heap_alloc_new w _)]; exact h2⟩

theorem wAdd2 (a b : Int) (ha : InW a) (hb : InW b) (w : World) (T : TypeId) (fr : Nat × Nat) (cap : Nat) :
    Calls Try.prog 52 #[.slice (some ⟨w.heap.size, 0, none⟩) 2 cap] (w.alloc (.cells #[.int .i64 (wHi a), .int .u64 (wLo a), .int .i64 (wHi b), .int .u64 (wLo b)] T fr))
      (Ret (sumV [a, b]) (w.alloc (.cells #[.int .i64 (wHi a), .int .u64 (wLo a), .int .i64 (wHi b), .int .u64 (wLo b)] T fr))) := by
  refine wAdd_new [a, b] (by simp) (by simp; exact ⟨ha, hb⟩) w _ T fr 2 cap rfl (fun i h => ?_)
  match i, h with
  | 0, _ => exact ⟨rfl, rfl⟩
  | 1, _ => exact ⟨rfl, rfl⟩
theorem wAdd3 (a b c : Int) (ha : InW a) (hb : InW b) (hc : InW c) (w : World) (T : TypeId) (fr : Nat × Nat) (cap : Nat) :
    Calls Try.prog 52 #[.slice (some ⟨w.heap.size, 0, none⟩) 3 cap] (w.alloc (.cells #[.int .i64 (wHi a), .int .u64 (wLo a), .int .i64 (wHi b), .int .u64 (wLo b), .int .i64 (wHi c), .int .u64 (wLo c)] T fr))
      (Ret (sumV [a, b, c]) (w.alloc (.cells #[.int .i64 (wHi a), .int .u64 (wLo a), .int .i64 (wHi b), .int .u64 (wLo b), .int .i64 (wHi c), .int .u64 (wLo c)] T fr))) := by
  refine wAdd_new [a, b, c] (by simp) (by simp; exact ⟨ha, hb, hc⟩) w _ T fr 3 cap rfl (fun i h => ?_)
  match i, h with
  | 0, _ => exact ⟨rfl, rfl⟩
  | 1, _ => exact ⟨rfl, rfl⟩
  | 2, _ => exact ⟨rfl, rfl⟩
theorem wAdd4 (a b c d : Int) (ha : InW a) (hb : InW b) (hc : InW c) (hd : InW d) (w : World) (T : TypeId) (fr : Nat × Nat) (cap : Nat) :
    Calls Try.prog 52 #[.slice (some ⟨w.heap.size, 0, none⟩) 4 cap] (w.alloc (.cells #[.int .i64 (wHi a), .int .u64 (wLo a), .int .i64 (wHi b), .int .u64 (wLo b), .int .i64 (wHi c), .int .u64 (wLo c), .int .i64 (wHi d), .int .u64 (wLo d)] T fr))
      (Ret (sumV [a, b, c, d]) (w.alloc (.cells #[.int .i64 (wHi a), .int .u64 (wLo a), .int .i64 (wHi b), .int .u64 (wLo b), .int .i64 (wHi c), .int .u64 (wLo c), .int .i64 (wHi d), .int .u64 (wLo d)] T fr))) := by
  refine wAdd_new [a, b, c, d] (by simp) (by simp; exact ⟨ha, hb, hc, hd⟩) w _ T fr 4 cap rfl (fun i h => ?_)
  match i, h with
  | 0, _ => exact ⟨rfl, rfl⟩
  | 1, _ => exact ⟨rfl, rfl⟩
  | 2, _ => exact ⟨rfl, rfl⟩
  | 3, _ => exact ⟨rfl, rfl⟩

theorem wAdd1c (a : Int) (ha : InW a) (B cap : Nat) (w : World) (c0 : w.cell? ⟨B, 0, none⟩ = some (.int .i64 (wHi a))) (c1 : w.cell? ⟨B, 1, none⟩ = some (.int .u64 (wLo a))) :
    Calls Try.prog 52 #[.slice (some ⟨B, 0, none⟩) 1 cap] w (Ret (sumV [a]) w) := by
  refine wAdd_ne B 0 1 cap [a] rfl (by simp) (by simp; exact ha) w (World.block_lt_of_cell? w _ c0) (fun i h => ?_)
  match i, h with
  | 0, _ => exact ⟨c0, c1⟩
theorem wAdd2c (a b : Int) (ha : InW a) (hb : InW b) (B cap : Nat) (w : World) (c0 : w.cell? ⟨B, 0, none⟩ = some (.int .i64 (wHi a))) (c1 : w.cell? ⟨B, 1, none⟩ = some (.int .u64 (wLo a))) (c2 : w.cell? ⟨B, 2, none⟩ = some (.int .i64 (wHi b))) (c3 : w.cell? ⟨B, 3, none⟩ = some (.int .u64 (wLo b))) :
    Calls Try.prog 52 #[.slice (some ⟨B, 0, none⟩) 2 cap] w (Ret (sumV [a, b]) w) := by
  refine wAdd_ne B 0 2 cap [a, b] rfl (by simp) (by simp; exact ⟨ha, hb⟩) w (World.block_lt_of_cell? w _ c0) (fun i h => ?_)
  match i, h with
  | 0, _ => exact ⟨c0, c1⟩
  | 1, _ => exact ⟨c2, c3⟩
theorem wAdd3c (a b c : Int) (ha : InW a) (hb : InW b) (hc : InW c) (B cap : Nat) (w : World) (c0 : w.cell? ⟨B, 0, none⟩ = some (.int .i64 (wHi a))) (c1 : w.cell? ⟨B, 1, none⟩ = some (.int .u64 (wLo a))) (c2 : w.cell? ⟨B, 2, none⟩ = some (.int .i64 (wHi b))) (c3 : w.cell? ⟨B, 3, none⟩ = some (.int .u64 (wLo b))) (c4 : w.cell? ⟨B, 4, none⟩ = some (.int .i64 (wHi c))) (c5 : w.cell? ⟨B, 5, none⟩ = some (.int .u64 (wLo c))) :
    Calls Try.prog 52 #[.slice (some ⟨B, 0, none⟩) 3 cap] w (Ret (sumV [a, b, c]) w) := by
  refine wAdd_ne B 0 3 cap [a, b, c] rfl (by simp) (by simp; exact ⟨ha, hb, hc⟩) w (World.block_lt_of_cell? w _ c0) (fun i h => ?_)
  match i, h with
  | 0, _ => exact ⟨c0, c1⟩
  | 1, _ => exact ⟨c2, c3⟩
  | 2, _ => exact ⟨c4, c5⟩
theorem wAdd4c (a b c d : Int) (ha : InW a) (hb : InW b) (hc : InW c) (hd : InW d) (B cap : Nat) (w : World) (c0 : w.cell? ⟨B, 0, none⟩ = some (.int .i64 (wHi a))) (c1 : w.cell? ⟨B, 1, none⟩ = some (.int .u64 (wLo a))) (c2 : w.cell? ⟨B, 2, none⟩ = some (.int .i64 (wHi b))) (c3 : w.cell? ⟨B, 3, none⟩ = some (.int .u64 (wLo b))) (c4 : w.cell? ⟨B, 4, none⟩ = some (.int .i64 (wHi c))) (c5 : w.cell? ⟨B, 5, none⟩ = some (.int .u64 (wLo c))) (c6 : w.cell? ⟨B, 6, none⟩ = some (.int .i64 (wHi d))) (c7 : w.cell? ⟨B, 7, none⟩ = some (.int .u64 (wLo d))) :
    Calls Try.prog 52 #[.slice (some ⟨B, 0, none⟩) 4 cap] w (Ret (sumV [a, b, c, d]) w) := by
  refine wAdd_ne B 0 4 cap [a, b, c, d] rfl (by simp) (by simp; exact ⟨ha, hb, hc, hd⟩) w (World.block_lt_of_cell? w _ c0) (fun i h => ?_)
  match i, h with
  | 0, _ => exact ⟨c0, c1⟩
  | 1, _ => exact ⟨c2, c3⟩
  | 2, _ => exact ⟨c4, c5⟩
  | 3, _ => exact ⟨c6, c7⟩

theorem addL_one {s x : Int} {l : List Int} (h : InW (s + x)) : addL s (x :: l) = addL (s + x) l := by
  show (if InWb (s + x) then _ else _) = _
  rw [if_pos (InWb_true h)]
theorem addL_none {s x : Int} {l : List Int} (h : ¬ InW (s + x)) : addL s (x :: l) = none := by
  show (if InWb (s + x) then _ else _) = _
  rw [if_neg (by rw [InWb_false h]; simp)]
theorem sumV_some {l : List Int} {s : Int} (h : addL 0 l = some s) : sumV l = .tuple #[W s, .bool true] := by unfold sumV; rw [h]; rfl
theorem sumV_none {l : List Int} (h : addL 0 l = none) : sumV l = .tuple #[W 0, .bool false] := by unfold sumV; rw [h]; rfl

end Go.Proofs.Ytognbeejobfpfaa
