/- Walk: the law FixProducts. -/
import Derived.Test.YtenefncpokdmnaaLaw2
import Derived.Test.YtenefncpokdmnaaRef2E
import Derived.Test.YtenefncpokdmnaaRef2F
import Derived.Test.YtenefncpokdmnaaRef2G
import Derived.Test.YtenefncpokdmnaaFrameS
namespace Go.Proofs.Ytenefncpokdmnaa
open Go.RowKit Go.Sort
set_option linter.unusedVariables false
set_option linter.unusedSimpArgs false

set_option maxHeartbeats 1600000 in
theorem walkFixProducts (w : World) (A : Option Addr) (n cap m : Nat) (l : List Int) (a b : Int) (hcap : n ≤ cap) (hcap2 : cap ≤ 9223372036854775807) (hm : (min (n : Int) 6).toNat = m) (hmn : m ≤ n) (hr : RdI w A m l) (hI : ∀ x ∈ l, InI x) (hl : l.length ≤ 1000000) (ha : InI a) (hb : InI b) :
    Calls Try.prog 4 #[.slice A n cap, .int .i64 a, .int .i64 b] w (Ret (.bool true) w) := by
  have K1 := fun (w' : World) (hw' : Below w.heap.size w w') => fMul A m cap l w' (hr.call hw') hl hI
  have K2 := fun (w' : World) (hw' : Below w.heap.size w w') => rMul A m cap l w' (hr.call hw') hl hI
  have H1 := Lib.hid K1
  have H2 := Lib.hid K2
  clear K1 K2 hr hI hl
  go_enter Try.func4, Try.ntmps4
  go_wp2_with fail
  refine (H1.out _ (by go_grown)).mono ?_; rintro e w1 ⟨rfl, hb1⟩
  obtain ⟨hB1, hS1⟩ : Below w.heap.size w w1 ∧ w.heap.size ≤ w1.heap.size := Below.step (by go_grown) hb1
  go_wp2_with fail
  refine (H2.out _ (by go_grown)).mono ?_; rintro e u1 ⟨rfl, rfl⟩
  go_wp2_with fail
  refine (fDiv a b ha hb _).mono ?_; rintro e w2 ⟨rfl, hb2⟩
  obtain ⟨hB2, hS2⟩ : Below w.heap.size w w2 ∧ w.heap.size ≤ w2.heap.size := Below.step (by go_grown) hb2
  go_wp2_with fail
  refine (rDiv a b ha hb _).mono ?_; rintro e w3 ⟨rfl, hb3⟩
  obtain ⟨hB3, hS3⟩ : Below w.heap.size w w3 ∧ w.heap.size ≤ w3.heap.size := Below.step (by go_grown) hb3
  go_wp2_with fail
  refine (fSqrt a ha _).mono ?_; rintro e w4 ⟨rfl, hb4⟩
  obtain ⟨hB4, hS4⟩ : Below w.heap.size w w4 ∧ w.heap.size ≤ w4.heap.size := Below.step (by go_grown) hb4
  go_wp2_with fail
  refine (rSqrt a ha _).mono ?_; rintro e u1 ⟨rfl, rfl⟩
  go_wp2_with fail
  refine (works2 _).mono ?_; rintro e w5 ⟨rfl, hb5⟩
  obtain ⟨hB5, hS5⟩ : Below w.heap.size w w5 ∧ w.heap.size ≤ w5.heap.size := Below.step (by go_grown) hb5
  go_wp2_with fail
  go_ret
  exact ret_of rfl hB5

theorem lawFixProducts (w : World) (A : Option Addr) (n cap : Nat) (l : List Int) (hn : n ≤ cap) (hcap : cap ≤ maxLen) (hr : RdI w A n l) (hI : ∀ x ∈ l, InI x) (a : Int) (wa : (Lit.int .i64 a).wf = true) (b : Int) (wb : (Lit.int .i64 b).wf = true) :
    Calls Try.prog 4 #[.slice A n cap, .int .i64 a, .int .i64 b] w (Ret (.bool true) w) := by
  have ha : InI a := bounds_i64 wa
  have hb : InI b := bounds_i64 wb
  unfold maxLen at hcap
  have hm : (min (n : Int) 6).toNat = min n 6 := by omega
  have hc := hr.cut (min n 6) (by omega)
  have hl : (l.take (min n 6)).length ≤ 1000000 := by rw [List.length_take]; omega
  have hI' : ∀ x ∈ l.take (min n 6), InI x := fun x hx => hI x (List.mem_of_mem_take hx)
  exact walkFixProducts w A n cap _ _ a b hn (by omega) hm (by omega) hc hI' hl ha hb

end Go.Proofs.Ytenefncpokdmnaa
