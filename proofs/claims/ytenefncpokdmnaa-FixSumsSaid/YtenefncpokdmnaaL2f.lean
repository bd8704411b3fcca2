/- Walk: the law FixSums. -/
import Derived.Test.YtenefncpokdmnaaLaw2
import Derived.Test.YtenefncpokdmnaaRef2E
import Derived.Test.YtenefncpokdmnaaFrameS
namespace Go.Proofs.Ytenefncpokdmnaa
open Go.RowKit Go.Sort
set_option linter.unusedVariables false
set_option linter.unusedSimpArgs false

set_option maxHeartbeats 1600000 in
theorem walkFixSums_neg (w : World) (A : Option Addr) (n cap m : Nat) (l : List Int) (a b : Int) (hcap : n ≤ cap) (hcap2 : cap ≤ 9223372036854775807) (hm : (min (n : Int) 8).toNat = m) (hmn : m ≤ n) (hr : RdI w A m l) (hI : ∀ x ∈ l, InI x) (hl : l.length ≤ 1000000) (ha : InI a) (hb : InI b) (hz : InI 0) (hn : decide (a < 0) = true) (HA : Hid (fabs a = satSub 0 a)) :
    Calls Try.prog 11 #[.slice A n cap, .int .i64 a, .int .i64 b] w (Ret (.bool true) w) := by
  have K1 := fun (w' : World) (hw' : Below w.heap.size w w') => fAdd A m cap l w' (hr.call hw') hl hI
  have K2 := fun (w' : World) (hw' : Below w.heap.size w w') => rAdd A m cap l w' (hr.call hw') hl hI
  have H1 := Lib.hid K1
  have H2 := Lib.hid K2
  clear K1 K2 hr hI hl
  go_enter Try.func11, Try.ntmps11
  go_wp2_with fail
  refine (rSub 0 a hz ha _).mono ?_; rintro e w1 ⟨rfl, rfl⟩
  go_wp2_with fail
  refine (H1.out _ (by go_grown)).mono ?_; rintro e u1 ⟨rfl, rfl⟩
  go_wp2_with fail
  refine (H2.out _ (by go_grown)).mono ?_; rintro e u1 ⟨rfl, rfl⟩
  go_wp2_with fail
  refine (fSub a b ha hb _).mono ?_; rintro e u1 ⟨rfl, rfl⟩
  go_wp2_with fail
  refine (rSub a b ha hb _).mono ?_; rintro e u1 ⟨rfl, rfl⟩
  go_wp2_with fail
  refine (fNeg a ha _).mono ?_; rintro e u1 ⟨rfl, rfl⟩
  go_wp2_with fail
  refine (rSub 0 a hz ha _).mono ?_; rintro e u1 ⟨rfl, rfl⟩
  go_wp2_with fail
  refine (fAbs a ha _).mono ?_; rintro e u1 ⟨rfl, rfl⟩
  rw [HA.out]
  go_wp2_with fail
  refine (works2 _).mono ?_; rintro e w1 ⟨rfl, hb1⟩
  obtain ⟨hB1, hS1⟩ : Below w.heap.size w w1 ∧ w.heap.size ≤ w1.heap.size := Below.step (by go_grown) hb1
  go_wp2_with fail
  go_ret
  exact ret_of rfl hB1

set_option maxHeartbeats 1600000 in
theorem walkFixSums_pos (w : World) (A : Option Addr) (n cap m : Nat) (l : List Int) (a b : Int) (hcap : n ≤ cap) (hcap2 : cap ≤ 9223372036854775807) (hm : (min (n : Int) 8).toNat = m) (hmn : m ≤ n) (hr : RdI w A m l) (hI : ∀ x ∈ l, InI x) (hl : l.length ≤ 1000000) (ha : InI a) (hb : InI b) (hz : InI 0) (hn : decide (a < 0) = false) (HA : Hid (fabs a = a)) :
    Calls Try.prog 11 #[.slice A n cap, .int .i64 a, .int .i64 b] w (Ret (.bool true) w) := by
  have K1 := fun (w' : World) (hw' : Below w.heap.size w w') => fAdd A m cap l w' (hr.call hw') hl hI
  have K2 := fun (w' : World) (hw' : Below w.heap.size w w') => rAdd A m cap l w' (hr.call hw') hl hI
  have H1 := Lib.hid K1
  have H2 := Lib.hid K2
  clear K1 K2 hr hI hl
  go_enter Try.func11, Try.ntmps11
  go_wp2_with fail
  refine (H1.out _ (by go_grown)).mono ?_; rintro e u1 ⟨rfl, rfl⟩
  go_wp2_with fail
  refine (H2.out _ (by go_grown)).mono ?_; rintro e u1 ⟨rfl, rfl⟩
  go_wp2_with fail
  refine (fSub a b ha hb _).mono ?_; rintro e u1 ⟨rfl, rfl⟩
  go_wp2_with fail
  refine (rSub a b ha hb _).mono ?_; rintro e u1 ⟨rfl, rfl⟩
  go_wp2_with fail
  refine (fNeg a ha _).mono ?_; rintro e u1 ⟨rfl, rfl⟩
  go_wp2_with fail
  refine (rSub 0 a hz ha _).mono ?_; rintro e u1 ⟨rfl, rfl⟩
  go_wp2_with fail
  refine (fAbs a ha _).mono ?_; rintro e u1 ⟨rfl, rfl⟩
  rw [HA.out]
  go_wp2_with fail
  refine (works2 _).mono ?_; rintro e w1 ⟨rfl, hb1⟩
  obtain ⟨hB1, hS1⟩ : Below w.heap.size w w1 ∧ w.heap.size ≤ w1.heap.size := Below.step (by go_grown) hb1
  go_wp2_with fail
  go_ret
  exact ret_of rfl hB1

theorem lawFixSums (w : World) (A : Option Addr) (n cap : Nat) (l : List Int) (hn : n ≤ cap) (hcap : cap ≤ maxLen) (hr : RdI w A n l) (hI : ∀ x ∈ l, InI x) (a : Int) (wa : (Lit.int .i64 a).wf = true) (b : Int) (wb : (Lit.int .i64 b).wf = true) :
    Calls Try.prog 11 #[.slice A n cap, .int .i64 a, .int .i64 b] w (Ret (.bool true) w) := by
  have ha : InI a := bounds_i64 wa
  have hb : InI b := bounds_i64 wb
  unfold maxLen at hcap
  have hm : (min (n : Int) 8).toNat = min n 8 := by omega
  have hc := hr.cut (min n 8) (by omega)
  have hl : (l.take (min n 8)).length ≤ 1000000 := by rw [List.length_take]; omega
  have hI' : ∀ x ∈ l.take (min n 8), InI x := fun x hx => hI x (List.mem_of_mem_take hx)
  have hz : InI 0 := by unfold InI; omega
  by_cases h : a < 0
  · exact walkFixSums_neg w A n cap _ _ a b hn (by omega) hm (by omega) hc hI' hl ha hb hz (by simp [h]) (by
      have e : a < satSub 0 a := by unfold satSub clampI; unfold InI at ha; split <;> (try split) <;> omega
      exact Lib.hid (by unfold fabs; rw [if_pos e]))
  · exact walkFixSums_pos w A n cap _ _ a b hn (by omega) hm (by omega) hc hI' hl ha hb hz (by simp [h]) (by
      have e : ¬ a < satSub 0 a := by unfold satSub clampI; unfold InI at ha; split <;> (try split) <;> omega
      exact Lib.hid (by unfold fabs; rw [if_neg e]))

end Go.Proofs.Ytenefncpokdmnaa
