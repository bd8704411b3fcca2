/- What tri.Hit and umbraref20.Hit compute is one thing. -/
import Derived.Test.YtbfgmedjogjkeaaG3b
import Derived.Test.YtbfgmedjogjkeaaTriL
namespace Go.Proofs.Ytbfgmedjogjkeaa
open Go.RowKit Go.Sort
set_option linter.unusedVariables false
set_option linter.unusedSimpArgs false

theorem wdot_eq' (a b c d e f : Int) : wrap64 (wrap64 (wrap64 (a * b) + wrap64 (c * d)) + wrap64 (e * f)) = wrap64 (a * b + c * d + e * f) := by
  generalize a * b = x
  generalize c * d = y
  generalize e * f = z
  unfold wrap64
  omega
theorem sSub_eq (a b : T3) : s_tri_Sub a b = tsub a b := by simp only [s_tri_Sub, lt, wrI, tsub]
theorem sSub2_eq (a b : T3) : s_umbraref20_Sub a b = tsub a b := by simp only [s_umbraref20_Sub, lt, wrI, tsub]
theorem sCross_eq (a b : T3) : s_tri_Cross a b = tcross a b := by simp only [s_tri_Cross, lt, wrI, tcross, wsub_eq]
theorem sCross2_eq (a b : T3) : s_umbraref20_Cross a b = tcross a b := by simp only [s_umbraref20_Cross, lt, wrI, tcross, wsub_eq]
theorem sDot_eq (a b : T3) : s_tri_Dot a b = wdot a b := by simp only [s_tri_Dot, lt, wrI, wdot, wdot_eq']
theorem sDot2_eq (a b : T3) : s_umbraref20_Dot a b = wdot a b := by simp only [s_umbraref20_Dot, lt, wrI, wdot, wdot_eq']
theorem sWithin_eq (p : T3) (m : Int) (h : 0 ≤ m ∧ m ≤ 1048576) : s_tri_within p m = inB p m := by
  have e : wrap64 (0 - m) = -m := by unfold wrap64; omega
  simp only [s_tri_within, lt, wrI, e, gmax_eq, gmin_eq, inB]
  rw [Bool.eq_iff_iff]
  simp only [decide_eq_true_eq]
  split
  · split <;> simp <;> omega
  · simp; omega
theorem sFar_eq (p : T3) (m : Int) (h : 0 ≤ m ∧ m ≤ 1048576) : s_umbraref20_far p m = !inB p m := by
  have e : wrap64 (0 - m) = -m := by unfold wrap64; omega
  simp only [s_umbraref20_far, lt, wrI, e, inB]
  rw [Bool.eq_iff_iff]
  simp only [Bool.not_eq_true', decide_eq_false_iff_not]
  by_cases c1 : p.1 > m <;> by_cases c2 : p.1 < -m <;> by_cases c3 : p.2.1 > m <;> by_cases c4 : p.2.1 < -m <;> by_cases c5 : p.2.2 > m <;> by_cases c6 : p.2.2 < -m <;> simp [c1, c2, c3, c4, c5, c6] <;> omega

theorem sMay_eq (o d : T3) : s_tri_May o d = mayRay o d := by
  unfold s_tri_May mayRay lt
  rw [sWithin_eq o _ (by omega), sWithin_eq d _ (by omega)]
  cases inB o 65536 <;> cases inB d 131072 <;> simp [Prod.ext_iff]
theorem sMay2_eq (o d : T3) : s_umbraref20_May o d = mayRay o d := by
  unfold s_umbraref20_May mayRay lt
  rw [sFar_eq o _ (by omega), sFar_eq d _ (by omega)]
  cases inB o 65536 <;> cases inB d 131072 <;> simp
theorem sFar1_eq (p : T3) : s_tri_Hit_1 p = !inB p 65536 := by
  unfold s_tri_Hit_1 lt
  rw [sWithin_eq p _ (by omega)]
  cases inB p 65536 <;> simp
theorem sCon_eq (p q r : T3) : s_slices_ContainsFunc_g (p, q, r) = !(inB p 65536 && (inB q 65536 && inB r 65536)) := by
  unfold s_slices_ContainsFunc_g s_slices_IndexFunc_g lt
  simp only [sFar1_eq]
  cases inB p 65536 <;> cases inB q 65536 <;> cases inB r 65536 <;> simp
/-- The end of both. -/
def hitEnd (n D u v : Int) : M4 × Bool := if hitNo (n, D, u, v) then ((0, 0, 0, 0), false) else ((n, D, u, v), true)
theorem hitM_B (o d p q r : T3) : (hitM o d p q r, hitB o d p q r) = (if mayRay o d && (inB p 65536 && (inB q 65536 && inB r 65536)) then hitEnd (hitSgn (hitRaw o d p q r)).1 (hitSgn (hitRaw o d p q r)).2.1 (hitSgn (hitRaw o d p q r)).2.2.1 (hitSgn (hitRaw o d p q r)).2.2.2 else ((0, 0, 0, 0), false)) := by
  unfold hitM hitB hitEnd
  cases mayRay o d && (inB p 65536 && (inB q 65536 && inB r 65536))
  · simp
  · by_cases k : hitNo (hitSgn (hitRaw o d p q r)) <;> simp [k]
theorem end1 (n D u v : Int) : (if D = 0 then ((0, 0, 0, 0), false) else if u < 0 then ((0, 0, 0, 0), false) else if v < 0 then ((0, 0, 0, 0), false) else if wrap64 (u + v) > D then ((0, 0, 0, 0), false) else if n ≤ 0 then ((0, 0, 0, 0), false) else ((n, D, u, v), true) : M4 × Bool) = hitEnd n D u v := by
  unfold hitEnd hitNo
  simp only
  by_cases h1 : D = 0 <;> by_cases h2 : u < 0 <;> by_cases h3 : v < 0 <;> by_cases h4 : wrap64 (u + v) > D <;> by_cases h5 : n ≤ 0 <;> simp [h1, h2, h3, h4, h5] <;> omega
theorem sHit_eq (o d p q r : T3) : s_tri_Hit o d (p, q, r) = (hitM o d p q r, hitB o d p q r) := by
  rw [hitM_B]
  unfold s_tri_Hit lt
  simp only [sMay_eq, sCon_eq, sSub_eq, sCross_eq, sDot_eq, wrI, Int.zero_sub, end1]
  cases mayRay o d
  · rfl
  · cases inB p 65536 && (inB q 65536 && inB r 65536)
    · rfl
    · simp only [Bool.not_true, Bool.false_eq_true, if_false, if_true, Bool.and_self]
      unfold hitSgn hitRaw wneg
      simp only
      split <;> rfl
theorem sHit2_eq (o d p q r : T3) : s_umbraref20_Hit o d (p, q, r) = (hitM o d p q r, hitB o d p q r) := by
  rw [hitM_B]
  unfold s_umbraref20_Hit lt
  simp only [sMay2_eq, sFar_eq _ _ (show (0 : Int) ≤ 65536 ∧ (65536 : Int) ≤ 1048576 by omega), sSub2_eq, sCross2_eq, sDot2_eq, wrI, Int.zero_sub, end1]
  cases mayRay o d
  · rfl
  · cases inB p 65536
    · rfl
    · cases inB q 65536
      · rfl
      · cases inB r 65536
        · rfl
        · simp only [Bool.not_true, Bool.false_eq_true, if_false, if_true, Bool.and_self]
          unfold hitSgn hitRaw wneg
          simp only
          split <;> rfl

theorem hitM_I (o d p q r : T3) : InM (hitM o d p q r) := by
  have z : InM (0, 0, 0, 0) := by unfold InM InI; simp only; omega
  have h : InM (hitRaw o d p q r) := ⟨wdot_I _ _, wdot_I _ _, wdot_I _ _, wdot_I _ _⟩
  unfold hitM
  split
  · unfold hitSgn
    split
    · exact ⟨wrap64_I _, wrap64_I _, wrap64_I _, wrap64_I _⟩
    · exact h
  · exact z
/-- Hit, of the three corners as one. -/
def hitT (o d : T3) (p : T3 × T3 × T3) : M4 × Bool := (hitM o d p.1 p.2.1 p.2.2, hitB o d p.1 p.2.1 p.2.2)
theorem hitT_I (o d : T3) (p : T3 × T3 × T3) : InM (hitT o d p).1 ∧ True := ⟨hitM_I _ _ _ _ _, trivial⟩
theorem tHit (o d : T3) (p : T3 × T3 × T3) (w : World) : Calls Try.prog 32 #[.agg #[.int .i64 o.1, .int .i64 o.2.1, .int .i64 o.2.2], .agg #[.int .i64 d.1, .int .i64 d.2.1, .int .i64 d.2.2], .agg #[.int .i64 p.1.1, .int .i64 p.1.2.1, .int .i64 p.1.2.2, .int .i64 p.2.1.1, .int .i64 p.2.1.2.1, .int .i64 p.2.1.2.2, .int .i64 p.2.2.1, .int .i64 p.2.2.2.1, .int .i64 p.2.2.2.2]] w (Ret (e_tri_Hit (hitT o d p)) w) := by
  have := w_tri_Hit o d p w
  rw [show s_tri_Hit o d p = hitT o d p from sHit_eq o d p.1 p.2.1 p.2.2] at this
  exact this
theorem r20Hit (o d : T3) (p : T3 × T3 × T3) (w : World) : Calls Try.prog 33 #[.agg #[.int .i64 o.1, .int .i64 o.2.1, .int .i64 o.2.2], .agg #[.int .i64 d.1, .int .i64 d.2.1, .int .i64 d.2.2], .agg #[.int .i64 p.1.1, .int .i64 p.1.2.1, .int .i64 p.1.2.2, .int .i64 p.2.1.1, .int .i64 p.2.1.2.1, .int .i64 p.2.1.2.2, .int .i64 p.2.2.1, .int .i64 p.2.2.2.1, .int .i64 p.2.2.2.2]] w (Ret (e_umbraref20_Hit (hitT o d p)) w) := by
  have := w_umbraref20_Hit o d p w
  rw [show s_umbraref20_Hit o d p = hitT o d p from sHit2_eq o d p.1 p.2.1 p.2.2] at this
  exact this

end Go.Proofs.Ytbfgmedjogjkeaa
