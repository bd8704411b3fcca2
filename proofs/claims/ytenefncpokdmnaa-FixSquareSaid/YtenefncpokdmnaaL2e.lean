/- Walk: the law FixSquare. -/
import Derived.Test.YtenefncpokdmnaaLaw2
import Derived.Test.YtenefncpokdmnaaWalkK
import Derived.Test.YtenefncpokdmnaaFrame
namespace Go.Proofs.Ytenefncpokdmnaa
open Go.RowKit Go.Sort
set_option linter.unusedVariables false
set_option linter.unusedSimpArgs false

theorem sqN_zero : sqN 0 = 0 := by
  obtain ⟨⟨a, b, c⟩, -⟩ := sqN_root (x := 0) (by omega) (by omega)
  rcases ltge (sqN 0) 1 with g | g
  · omega
  · have := sq_mono (a := 1) (by omega) g
    omega

set_option maxHeartbeats 1600000 in
theorem walkFixSquare_no (a : Int) (ha : InI a) (h : a ≤ 0) (w : World) : Calls Try.prog 10 #[.int .i64 a] w (Ret (.bool true) w) := by
  have HK : Hid (fsqrt a = 0) := Lib.hid (by unfold fsqrt; rw [if_neg (by omega), Int.zero_mul, sqN_zero])
  go_enter Try.func10, Try.ntmps10
  go_wp2_with fail
  refine (fSqrt a ha _).mono ?_; rintro e w1 ⟨rfl, hb1⟩
  obtain ⟨hB1, hS1⟩ : Below w.heap.size w w1 ∧ w.heap.size ≤ w1.heap.size := Below.step (by go_grown) hb1
  rw [HK.out]
  go_wp2_with fail
  refine (works2 _).mono ?_; rintro e w9 ⟨rfl, hb9⟩
  obtain ⟨hB9, hS9⟩ : Below w.heap.size w w9 ∧ w.heap.size ≤ w9.heap.size := Below.step (by go_grown) hb9
  go_wp2_with fail
  go_ret
  exact ret_of rfl hB9

set_option maxHeartbeats 1600000 in
theorem walkFixSquare_yes (a s n : Int) (ha : InI a) (h : 0 < a) (HK : Hid (fsqrt a = s)) (HN : Hid (a * 4294967296 = n)) (hn : InW n) (hs0 : 0 < s) (hs1 : s ≤ 1000000000000000000)
    (h1 : InW (s * s)) (h2 : InW ((s + 1) * (s + 1))) (c : Int) (HC1 : Hid (cmpW (s * s) n = c)) (hc : c ≤ 0) (hc' : -1 ≤ c) (HC2 : Hid (cmpW ((s + 1) * (s + 1)) n = 1)) (w : World) :
    Calls Try.prog 10 #[.int .i64 a] w (Ret (.bool true) w) := by
  have hsI : InI s := by unfold InI; omega
  have hsI1 : InI (s + 1) := by unfold InI; omega
  have db : decide (c ≤ 0) = true := by simp; omega
  have ds : decide (0 < s) = true := by simp; omega
  go_enter Try.func10, Try.ntmps10
  go_wp2_with fail
  refine (fSqrt a ha _).mono ?_; rintro e w1 ⟨rfl, hb1⟩
  obtain ⟨hB1, hS1⟩ : Below w.heap.size w w1 ∧ w.heap.size ≤ w1.heap.size := Below.step (by go_grown) hb1
  rw [HK.out]
  go_wp2_with fail
  refine (wMul a 4294967296 ha one_I _).mono ?_; rintro e w2 ⟨rfl, hb2⟩
  obtain ⟨hB2, hS2⟩ : Below w.heap.size w w2 ∧ w.heap.size ≤ w2.heap.size := Below.step (by go_grown) hb2
  rw [HN.out]
  go_wp2_with fail
  have c1 := reg_cell (w := w2.alloc (.cells #[.int .i64 (wHi n), .int .u64 (wLo n)] 47)) (a := ⟨w2.heap.size, 0, none⟩) (v := .int .i64 (wHi n)) (by simp)
  have c2 := reg_cell (w := w2.alloc (.cells #[.int .i64 (wHi n), .int .u64 (wLo n)] 47)) (a := ⟨w2.heap.size, 1, none⟩) (v := .int .u64 (wLo n)) (by simp)
  have eW : IntKind.i64.wrap (s + 1) = s + 1 := IntWalk.i64_in _ (by omega)
  clear hb1 hb2
  refine wp_region_quiet_below (by kernel_rfl) (by kernel_rfl) ?_
  have k1 := fun d os => reg_ret (wMul s s hsI hsI (grow (redrawn (w2.alloc (.cells #[.int .i64 (wHi n), .int .u64 (wLo n)] 47)) d) os))
  have k2 := fun d os => reg_ret (wMul (s + 1) (s + 1) hsI1 hsI1 (grow (redrawn (w2.alloc (.cells #[.int .i64 (wHi n), .int .u64 (wLo n)] 47)) d) os))
  have k3 := fun d os => reg_ret (wCmp (s * s) n h1 hn (grow (redrawn (w2.alloc (.cells #[.int .i64 (wHi n), .int .u64 (wLo n)] 47)) d) os))
  have k4 := fun d os => reg_ret (wCmp ((s + 1) * (s + 1)) n h2 hn (grow (redrawn (w2.alloc (.cells #[.int .i64 (wHi n), .int .u64 (wLo n)] 47)) d) os))
  simp only [HC1.out, HC2.out] at k3 k4
  have K1 := Lib.hid k1
  have K2 := Lib.hid k2
  have K3 := Lib.hid k3
  have K4 := Lib.hid k4
  clear k1 k2 k3 k4
  repeat (quiet_step (first
    | (go_at_call 43; first | (with_reducible exact K1.out _ _) | (with_reducible exact K2.out _ _))
    | (go_at_call 42; first | (with_reducible exact K3.out _ _) | (with_reducible exact K4.out _ _))
    | (go_at_call 26; exact reg_ret (works2 _))))
  refine wpQuiet_nil ?_
  intro w3 hw3
  have hb3 := reg_below hw3
  clear hw3
  obtain ⟨hB3, hS3⟩ : Below w.heap.size w w3 ∧ w.heap.size ≤ w3.heap.size := Below.step (by go_grown) hb3
  go_wp2
  go_ret
  exact ret_of rfl hB3

theorem lawFixSquare (a : Int) (wa : (Lit.int .i64 a).wf = true) (w : World) :
    Calls Try.prog 10 #[.int .i64 a] w (Ret (.bool true) w) := by
  have ha : InI a := bounds_i64 wa
  by_cases h : a ≤ 0
  · exact walkFixSquare_no a ha h w
  · have h' : 0 < a := by omega
    have hn : InW (a * 4294967296) := by unfold InI at ha; unfold InW; omega
    obtain ⟨⟨r0, r1, r2⟩, -⟩ := sqN_root (x := a * 4294967296) (by omega) (by unfold InW at hn; omega)
    have e : fsqrt a = sqN (a * 4294967296) := by unfold fsqrt; rw [if_pos h']
    have hs0 : 0 < sqN (a * 4294967296) := by
      rcases ltge (sqN (a * 4294967296)) 1 with g | g
      · have : sqN (a * 4294967296) = 0 := by omega
        rw [this] at r2; omega
      · omega
    have hs1 : sqN (a * 4294967296) ≤ 1000000000000000000 := by
      rcases ltge 1000000000000000000 (sqN (a * 4294967296)) with g | g
      · have := sq_mono (a := 1000000000000000000) (by omega) (show (1000000000000000000 : Int) ≤ sqN (a * 4294967296) by omega)
        unfold InI at ha; omega
      · exact g
    have i1 := mul_InW (a := sqN (a * 4294967296)) (b := sqN (a * 4294967296)) (by unfold InI; omega) (by unfold InI; omega)
    have i2 := mul_InW (a := sqN (a * 4294967296) + 1) (b := sqN (a * 4294967296) + 1) (by unfold InI; omega) (by unfold InI; omega)
    have hc : cmpW (sqN (a * 4294967296) * sqN (a * 4294967296)) (a * 4294967296) ≤ 0 ∧ -1 ≤ cmpW (sqN (a * 4294967296) * sqN (a * 4294967296)) (a * 4294967296) := by
      unfold cmpW
      split
      · omega
      · rw [if_pos (by omega)]; omega
    exact walkFixSquare_yes a _ _ ha h' e rfl hn hs0 hs1 i1 i2 _ rfl hc.1 hc.2 (cmpW_gt r2) w

end Go.Proofs.Ytenefncpokdmnaa
