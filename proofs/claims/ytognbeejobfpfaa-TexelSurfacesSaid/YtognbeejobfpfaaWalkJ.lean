/- Walk: wide.Add. -/
import Derived.Test.YtognbeejobfpfaaWide1
import Derived.Outline
import Derived.Deep.LoopGhost
namespace Go.Proofs.Ytognbeejobfpfaa
open Go.RowKit
set_option linter.unusedVariables false
set_option linter.unusedSimpArgs false

/-- The sum of all, if no sum on the way is too large. -/
def addL : Int → List Int → Option Int
  | s, [] => some s
  | s, x :: l => if InWb (s + x) then addL (s + x) l else none
theorem addL_yes {s : Int} {l : List Int} {k : Nat} (hk : k < l.length) (h : InW (s + l[k])) : addL s (l.drop k) = addL (s + l[k]) (l.drop (k + 1)) := by
  rw [List.drop_eq_getElem_cons hk]
  show (if InWb (s + l[k]) then _ else _) = _
  rw [if_pos (InWb_true h)]
theorem addL_no {s : Int} {l : List Int} {k : Nat} (hk : k < l.length) (h : ¬ InW (s + l[k])) : addL s (l.drop k) = none := by
  rw [List.drop_eq_getElem_cons hk]
  show (if InWb (s + l[k]) then _ else _) = _
  rw [if_neg (by rw [InWb_false h]; simp)]

/-- A slice of wide numbers that reads as a list. -/
def ReadsW (w : World) (A : Option Addr) (l : List Int) : Prop := l = [] ∨ ∃ b off, A = some ⟨b, off, none⟩ ∧ b < w.heap.size ∧
  ∀ i (h : i < l.length), w.cell? ⟨b, off + i * 2, none⟩ = some (.int .i64 (wHi l[i])) ∧ w.cell? ⟨b, off + i * 2 + 1, none⟩ = some (.int .u64 (wLo l[i]))

/-- The two halves of a sum. -/
theorem add_halves (s x : Int) (hs : InW s) (hx : InW x) : ∃ c H d : Int, 0 ≤ c ∧ c ≤ 1 ∧
    (∀ w, (callFunc 79 #[.int .u64 (wLo s), .int .u64 (wLo x), .int .u64 0]).run Try.prog w = .ok (.value (.tuple #[.int .u64 (wLo (s + x)), .int .u64 c])) w) ∧
    (∀ w, (callFunc 79 #[.int .u64 (IntKind.u64.wrap (wHi s)), .int .u64 (IntKind.u64.wrap (wHi x)), .int .u64 c]).run Try.prog w = .ok (.value (.tuple #[.int .u64 H, .int .u64 d])) w) ∧
    wrap64 H = wHi (wrap128 (s + x)) := by
  have h1 := wLo_U s
  have h2 := wLo_U x
  have k1 : 0 ≤ (wLo s + wLo x + 0) / 18446744073709551616 ∧ (wLo s + wLo x + 0) / 18446744073709551616 ≤ 1 := by unfold InU at h1 h2; omega
  refine ⟨(wLo s + wLo x + 0) / 18446744073709551616, (IntKind.u64.wrap (wHi s) + IntKind.u64.wrap (wHi x) + (wLo s + wLo x + 0) / 18446744073709551616) % 18446744073709551616, (IntKind.u64.wrap (wHi s) + IntKind.u64.wrap (wHi x) + (wLo s + wLo x + 0) / 18446744073709551616) / 18446744073709551616, k1.1, k1.2, fun w => ?_, fun w => ?_, ?_⟩
  · rw [add64 (wLo s) (wLo x) 0 h1.1 h2.1 (by omega) (by omega)]
    have : (wLo s + wLo x + 0) % 18446744073709551616 = wLo (s + x) := by unfold wLo; omega
    rw [this]
  · exact add64 _ _ _ (by rw [IntKind.wrap_u64]; omega) (by rw [IntKind.wrap_u64]; omega) k1.1 k1.2 w
  · simp only [IntKind.wrap_u64]
    unfold wrap64 wHi wLo wrap128
    omega

theorem sum_sign (s x : Int) (hs : InW s) (hx : InW x) :
    (s < 0 → x < 0 → (InW (s + x) → wHi (wrap128 (s + x)) < 0) ∧ (¬ InW (s + x) → ¬ wHi (wrap128 (s + x)) < 0)) ∧
    (¬ s < 0 → ¬ x < 0 → (InW (s + x) → ¬ wHi (wrap128 (s + x)) < 0) ∧ (¬ InW (s + x) → wHi (wrap128 (s + x)) < 0)) ∧
    ((s < 0 ∧ ¬ x < 0) ∨ (¬ s < 0 ∧ x < 0) → InW (s + x)) := by
  unfold InW wHi wrap128 at *
  omega

set_option maxHeartbeats 1600000 in
theorem wAdd_ne (b off n cap : Nat) (l : List Int) (hn : n = l.length) (hl : l.length ≤ 1000000) (hW : ∀ x ∈ l, InW x) (w : World) (hb : b < w.heap.size)
   (hc : ∀ i (h : i < l.length), w.cell? ⟨b, off + i * 2, none⟩ = some (.int .i64 (wHi l[i])) ∧ w.cell? ⟨b, off + i * 2 + 1, none⟩ = some (.int .u64 (wLo l[i]))) :
    Calls Try.prog 52 #[.slice (some ⟨b, off, none⟩) n cap] w (Ret (.tuple #[W ((addL 0 l).getD 0), .bool (addL 0 l).isSome]) w) := by
  obtain rfl := hn
  obtain ⟨N, hN⟩ : ∃ N, N = l.length := ⟨_, rfl⟩
  have HN := Lib.hid hN
  have HC := Lib.hid hc
  have HW := Lib.hid hW
  rw [← hN] at hl ⊢
  clear hN hc hW
  go_enter Try.func52, Try.ntmps52
  go_wp2_with fail
  go_loopw [13] (fun a wr => ∃ (k : Nat) (s : Int), k ≤ N ∧ a = .int .i64 k ∧ InW s ∧ addL s (l.drop k) = addL 0 l ∧ Below w.heap.size w wr ∧ w.heap.size < wr.heap.size ∧
      wr.cell? ⟨w.heap.size, 0, none⟩ = some (.int .i64 (wHi s)) ∧ wr.cell? ⟨w.heap.size, 1, none⟩ = some (.int .u64 (wLo s)) ∧ wr.frozen? ⟨w.heap.size, 0, none⟩ = false ∧ wr.frozen? ⟨w.heap.size, 1, none⟩ = false) (fun a _ => N - (intOf a).toNat)
  case atStart => exact ⟨0, 0, by omega, rfl, by unfold InW; omega, rfl, by go_grown, by simp, by simp [go_sem, wHi_zero], by simp [go_sem, wLo_zero], by simp [go_sem], by simp [go_sem]⟩
  case round =>
    obtain ⟨k, s, hk, rfl, hs, hsum, hB, hS, hc0, hc1, hf0, hf1⟩ := hrel
    have HSum := Lib.hid hsum
    clear hsum
    by_cases hlt : k < N
    · have hkl : k < l.length := by rw [← HN.out]; exact hlt
      obtain ⟨x, hx⟩ : ∃ x, l[k] = x := ⟨_, rfl⟩
      have hxW : InW x := by rw [← hx]; exact HW.out _ (List.getElem_mem hkl)
      obtain ⟨hx0, hx1⟩ := HC.out k hkl
      rw [hx] at hx0 hx1
      have hx0 := (hB.cell (p := ⟨b, off + k * 2, none⟩) hb).trans hx0
      have hx1 := (hB.cell (p := ⟨b, off + k * 2 + 1, none⟩) hb).trans hx1
      have HX := Lib.hid hx
      have HB := Lib.hid hB
      clear hx hB
      obtain ⟨c, H, d, q0, q1, s1, s2, s3⟩ := add_halves s x hs hxW
      have HSg := Lib.hid (sum_sign s x hs hxW)
      have hne : b ≠ w.heap.size := by omega
      by_cases h1 : s < 0 <;> by_cases h2 : x < 0
      · by_cases hin : InW (s + x)
        · have hs' : wHi s < 0 := by unfold wHi; omega
          have hx' : wHi x < 0 := by unfold wHi; omega
          have hsb : decide (wHi s < 0) = true := by simpa using hs'
          have hxb : decide (wHi x < 0) = true := by simpa using hx'
          have hg := (HSg.out.1 h1 h2).1 hin
          have HY := Lib.hid (addL_yes (s := s) hkl (by rw [HX.out]; exact hin))
          rw [HX.out, HSum.out] at HY
          rw [wrap128_in hin] at s3 hg
          clear h1 h2 hxW
          go_wp2_with fail
          go_roundw
          case rel => exact ⟨k + 1, s + x, by omega, by go_num, hin, HY.out.symm, by have := HB.out; go_grown, by simp; omega, by simp (maxDischargeDepth := 9) [go_sem, hc0, hc1, hS], by simp (maxDischargeDepth := 9) [go_sem, hc0, hc1, hS], by simp (maxDischargeDepth := 9) [go_sem, hf0, hf1, hS], by simp (maxDischargeDepth := 9) [go_sem, hf0, hf1, hS]⟩
          case measure => simp [intOf]; omega
        · have hs' : wHi s < 0 := by unfold wHi; omega
          have hx' : wHi x < 0 := by unfold wHi; omega
          have hsb : decide (wHi s < 0) = true := by simpa using hs'
          have hxb : decide (wHi x < 0) = true := by simpa using hx'
          have hg := (HSg.out.1 h1 h2).2 hin
          have HY := Lib.hid (addL_no (s := s) hkl (by rw [HX.out]; exact hin))
          rw [HSum.out] at HY
          clear h1 h2 hxW
          go_wp2_with fail
          refine bodyPost_ret (v := .tuple #[W 0, .bool false]) (by simp (maxDischargeDepth := 9) [results, Try.results52, go_sem, hc0, hc1, hS, wHi_zero, wLo_zero]) rfl (ret_of (by rw [HY.out]; rfl) (by have := HB.out; go_grown))
      · have hin := HSg.out.2.2 (.inl ⟨h1, h2⟩)
        have hs' : wHi s < 0 := by unfold wHi; omega
        have hx' : ¬ wHi x < 0 := by unfold wHi; omega
        have hsb : decide (wHi s < 0) = true := by simpa using hs'
        have hxb : decide (wHi x < 0) = false := by simpa using hx'
        have HY := Lib.hid (addL_yes (s := s) hkl (by rw [HX.out]; exact hin))
        rw [HX.out, HSum.out] at HY
        rw [wrap128_in hin] at s3
        clear h1 h2 hxW
        go_wp2_with fail
        go_roundw
        case rel => exact ⟨k + 1, s + x, by omega, by go_num, hin, HY.out.symm, by have := HB.out; go_grown, by simp; omega, by simp (maxDischargeDepth := 9) [go_sem, hc0, hc1, hS], by simp (maxDischargeDepth := 9) [go_sem, hc0, hc1, hS], by simp (maxDischargeDepth := 9) [go_sem, hf0, hf1, hS], by simp (maxDischargeDepth := 9) [go_sem, hf0, hf1, hS]⟩
        case measure => simp [intOf]; omega
      · have hin := HSg.out.2.2 (.inr ⟨h1, h2⟩)
        have hs' : ¬ wHi s < 0 := by unfold wHi; omega
        have hx' : wHi x < 0 := by unfold wHi; omega
        have hsb : decide (wHi s < 0) = false := by simpa using hs'
        have hxb : decide (wHi x < 0) = true := by simpa using hx'
        have HY := Lib.hid (addL_yes (s := s) hkl (by rw [HX.out]; exact hin))
        rw [HX.out, HSum.out] at HY
        rw [wrap128_in hin] at s3
        clear h1 h2 hxW
        go_wp2_with fail
        go_roundw
        case rel => exact ⟨k + 1, s + x, by omega, by go_num, hin, HY.out.symm, by have := HB.out; go_grown, by simp; omega, by simp (maxDischargeDepth := 9) [go_sem, hc0, hc1, hS], by simp (maxDischargeDepth := 9) [go_sem, hc0, hc1, hS], by simp (maxDischargeDepth := 9) [go_sem, hf0, hf1, hS], by simp (maxDischargeDepth := 9) [go_sem, hf0, hf1, hS]⟩
        case measure => simp [intOf]; omega
      · by_cases hin : InW (s + x)
        · have hs' : ¬ wHi s < 0 := by unfold wHi; omega
          have hx' : ¬ wHi x < 0 := by unfold wHi; omega
          have hsb : decide (wHi s < 0) = false := by simpa using hs'
          have hxb : decide (wHi x < 0) = false := by simpa using hx'
          have hg := (HSg.out.2.1 h1 h2).1 hin
          have HY := Lib.hid (addL_yes (s := s) hkl (by rw [HX.out]; exact hin))
          rw [HX.out, HSum.out] at HY
          rw [wrap128_in hin] at s3 hg
          clear h1 h2 hxW
          go_wp2_with fail
          go_roundw
          case rel => exact ⟨k + 1, s + x, by omega, by go_num, hin, HY.out.symm, by have := HB.out; go_grown, by simp; omega, by simp (maxDischargeDepth := 9) [go_sem, hc0, hc1, hS], by simp (maxDischargeDepth := 9) [go_sem, hc0, hc1, hS], by simp (maxDischargeDepth := 9) [go_sem, hf0, hf1, hS], by simp (maxDischargeDepth := 9) [go_sem, hf0, hf1, hS]⟩
          case measure => simp [intOf]; omega
        · have hs' : ¬ wHi s < 0 := by unfold wHi; omega
          have hx' : ¬ wHi x < 0 := by unfold wHi; omega
          have hsb : decide (wHi s < 0) = false := by simpa using hs'
          have hxb : decide (wHi x < 0) = false := by simpa using hx'
          have hg := (HSg.out.2.1 h1 h2).2 hin
          have HY := Lib.hid (addL_no (s := s) hkl (by rw [HX.out]; exact hin))
          rw [HSum.out] at HY
          clear h1 h2 hxW
          go_wp2_with fail
          refine bodyPost_ret (v := .tuple #[W 0, .bool false]) (by simp (maxDischargeDepth := 9) [results, Try.results52, go_sem, hc0, hc1, hS, wHi_zero, wLo_zero]) rfl (ret_of (by rw [HY.out]; rfl) (by have := HB.out; go_grown))
    · obtain rfl : k = N := by omega
      have HE : Hid (addL 0 l = some s) := Lib.hid (by rw [← HSum.out, HN.out, List.drop_length]; rfl)
      go_wp2_with fail
      refine bodyPost_ret (v := .tuple #[W s, .bool true]) (by simp (maxDischargeDepth := 9) [results, Try.results52, go_sem, hc0, hc1]) rfl (ret_of (by rw [HE.out]; rfl) (by go_grown))

end Go.Proofs.Ytognbeejobfpfaa
