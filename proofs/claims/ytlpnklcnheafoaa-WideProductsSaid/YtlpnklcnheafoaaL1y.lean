/- Layer 1, in plain Lean: what the laws compute is true. -/
import Derived.Test.YtlpnklcnheafoaaL1x
namespace Go.Proofs.Ytlpnklcnheafoaa
open Go.RowKit Go.Sort
set_option linter.unusedVariables false
set_option linter.unusedSimpArgs false

theorem toW_in {x : Int} (h : InW x) : toW x = (x, true) := by unfold InW at h; unfold toW; rw [if_pos h]
theorem InI_W {x : Int} (h : InI x) : InW x := by unfold InI InW at *; omega
theorem wint_toI (x : Int) : wint x = toI x := by
  unfold wint toI intN fits
  by_cases h : -9223372036854775808 ≤ x ∧ x ≤ 9223372036854775807
  · have h2 : -9223372036854775808 ≤ x ∧ x < 9223372036854775808 := by omega
    rw [if_pos h2, decide_eq_true h, if_pos rfl]
  · have h2 : ¬ (-9223372036854775808 ≤ x ∧ x < 9223372036854775808) := by omega
    rw [if_neg h2, decide_eq_false h, if_neg Bool.false_ne_true]
theorem cmp_sg (x y : Int) : cmpW x y = sg (x - y) := by
  unfold cmpW sg
  (repeat' split) <;> omega
theorem neg_toW {x : Int} (h : InW x) : wneg2 x = toW (-x) := by
  unfold wneg2 toW negN negOk InW at *
  by_cases e : x = -170141183460469231731687303715884105728
  · subst e; simp
  · rw [decide_eq_true e, if_pos rfl, if_pos (by omega)]
theorem WideRoots_true (a : Int) (ha : InW a) : s_umbralaw01_WideRoots a = true := by
  unfold s_umbralaw01_WideRoots
  simp only [lt, works01, if_true]
  have hb := root_rb (x := a) (by unfold InW at ha; omega)
  have e : toW (rootI a) = (rootI a, true) := toW_in (by unfold InW; omega)
  have e2 : sqN a = rootI a := by
    unfold rootI
    split
    · exact sqN_neg (by assumption)
    · rfl
  have e3 : wLo (rootI a) = rootI a := by unfold wLo; omega
  rw [e2]
  generalize toW (rootI a) = t at *
  subst e
  simp only [e3, if_true]
theorem WideMakes_true (n a : Int) (hn : InI n) (ha : InW a) : s_umbralaw01_WideMakes n a = true := by
  unfold s_umbralaw01_WideMakes
  simp only [lt, works01, if_true, wof]
  have e1 := toW_in (InI_W hn)
  have e2 := wint_toI a
  generalize wint a = u at *
  subst e2
  generalize toW n = t at *
  subst e1
  generalize toI a = u
  obtain ⟨u1, u2⟩ := u
  cases u2 <;> simp
theorem WideOrders_true (a b : Int) (ha : InW a) (hb : InW b) : s_umbralaw01_WideOrders a b = true := by
  unfold s_umbralaw01_WideOrders
  simp only [lt, works01, if_true]
  rw [cmp_sg, cmp_sg]
  simp
theorem WideProducts_true (a b c : Int) (ha : InI a) (hb : InI b) (hc : InI c) : s_umbralaw01_WideProducts a b c = true := by
  unfold s_umbralaw01_WideProducts
  simp only [lt, works01, if_true]
  have e1 := toW_in (mul_InW ha hb)
  generalize toW (a * b) = t at *
  subst e1
  simp
theorem WideSums_true (l : List Int) (A : Option Addr) (cap : Nat) (a : Int) (ha : InW a) : s_umbralaw01_WideSums l A cap a = true := by
  unfold s_umbralaw01_WideSums
  simp only [lt, works01, if_true]
  have e2 := neg_toW ha
  generalize wneg2 a = u at *
  subst e2
  generalize toW (-a) = t
  obtain ⟨t1, t2⟩ := t
  generalize addW (List.take (Int.toNat (gmin (List.length l : Int) 8)) l) = u
  obtain ⟨u1, u2⟩ := u
  cases u2 <;> cases t2 <;> simp
theorem shr_far {a n : Int} (ha : InW a) (hn : 200 ≤ n) : a / 2 ^ Int.toNat n = a / 2 ^ 200 := by
  have key : ∀ m : Nat, 200 ≤ m → a / 2 ^ m = if a < 0 then -1 else 0 := by
    intro m hm
    have h1 : (170141183460469231731687303715884105728 : Int) ≤ 2 ^ m := by
      have e : (170141183460469231731687303715884105728 : Int) = 2 ^ 127 := by decide +kernel
      rw [e]
      have : (2 : Nat) ^ 127 ≤ 2 ^ m := Nat.pow_le_pow_right (by decide) (by omega)
      have := Int.ofNat_le.2 this
      rw [Int.natCast_pow, Int.natCast_pow] at this
      exact this
    generalize (2 : Int) ^ m = P at *
    unfold InW at ha
    split
    · have h2 := Int.emod_add_mul_ediv a P
      have h3 := Int.emod_nonneg a (show P ≠ 0 by omega)
      have h4 := Int.emod_lt_of_pos a (show 0 < P by omega)
      have h5 : a / P < 0 := Int.ediv_neg_of_neg_of_pos (by omega) (by omega)
      have h6 : -1 ≤ a / P := by
        rw [Int.le_ediv_iff_mul_le (by omega)]; omega
      omega
    · exact Int.ediv_eq_zero_of_lt (by omega) (by omega)
  rw [key _ (by omega), key 200 (by omega)]
theorem shr_by {a n : Int} (ha : InW a) (hn : InI n) : shrN a n = fq a (2 ^ Int.toNat (gmin (gmax n 0) 200)) := by
  rw [fq_pos (p2pos _), gmin_eq, gmax_eq]
  unfold shrN
  by_cases h : n ≤ 200
  · rw [show Int.toNat (min (max n 0) 200) = Int.toNat n by omega]
  · rw [show Int.toNat (min (max n 0) 200) = 200 by omega, shr_far ha (by omega)]
theorem WideDivides_true (a d n : Int) (ha : InW a) (hd : InI d) (hn : InI n) : s_umbralaw01_WideDivides a d n = true := by
  unfold s_umbralaw01_WideDivides
  simp only [lt, works01, if_true]
  have e1 := shr_by ha hn
  have hW := shrN_W ha hn
  rw [e1] at hW
  have e2 := toW_in hW
  generalize shrN a n = s at *
  subst e1
  generalize toW (fq a (2 ^ Int.toNat (gmin (gmax n 0) 200))) = t at *
  subst e2
  generalize wdivT a d = u
  obtain ⟨u1, u2, u3⟩ := u
  cases u3 <;> simp
end Go.Proofs.Ytlpnklcnheafoaa
