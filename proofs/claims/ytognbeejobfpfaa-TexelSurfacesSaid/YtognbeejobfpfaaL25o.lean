/- Layer 25: TexelBary, in plain Lean. -/
import Derived.Test.YtognbeejobfpfaaL25n
namespace Go.Proofs.Ytognbeejobfpfaa
open Go.RowKit Go.Sort
set_option linter.unusedVariables false
set_option linter.unusedSimpArgs false

def partG (d u v a b c : Int) : Int :=
  lt (IntKind.i64.wrap (d - u)) fun x1 =>
  lt (IntKind.i64.wrap (x1 - v)) fun x3 =>
  lt (x3 * a) fun r8 =>
  lt (u * b) fun r10 =>
  lt (v * c) fun r12 =>
  lt (addW [r8, r10, r12]) fun r18 =>
  if r18.2 = true then
    lt (wdivT r18.1 d) fun r39 =>
    if r39.2.2 = true then
      lt (wint r39.1) fun r70 =>
      if r70.2 = true then
        lt (gmax r70.1 (-2147483648)) fun x78 =>
        lt (gmin x78 2147483647) fun x80 =>
        x80
      else
        if wHi r39.1 < 0 then
          (-2147483648)
        else
          2147483647
    else
      lt (wint r39.1) fun r52 =>
      if r52.2 = true then
        lt (gmax r52.1 (-2147483648)) fun x60 =>
        lt (gmin x60 2147483647) fun x62 =>
        x62
      else
        if wHi r39.1 < 0 then
          (-2147483648)
        else
          2147483647
  else
    0
theorem k0_eqo (n d u v : Int) (uv : (Int × Int) × (Int × Int) × (Int × Int)) : s_texel_Bary_1_k0 (n, d, u, v) uv = partG d u v uv.1.1 uv.2.1.1 uv.2.2.1 := rfl
theorem k1_eqo (n d u v : Int) (uv : (Int × Int) × (Int × Int) × (Int × Int)) : s_texel_Bary_1_k1 (n, d, u, v) uv = partG d u v uv.1.2 uv.2.1.2 uv.2.2.2 := rfl
theorem works25o : s_umbralaw25_works = true := by kernel_rfl
theorem addW3o {p q r : Int} (h1 : InW p) (h2 : InW (p + q)) (h3 : InW (p + q + r)) : addW [p, q, r] = (p + q + r, true) := by
  have e1 : InWb p = true := decide_eq_true h1
  have e2 : InWb (p + q) = true := decide_eq_true h2
  have e3 : InWb (p + q + r) = true := decide_eq_true h3
  unfold addW addL addL addL addL
  simp [e1, e2, e3]
theorem part_bV {d u v a b c : Int} (hd : 1 ≤ d ∧ d ≤ 1152921504606846976) (hu : -1152921504606846976 ≤ u ∧ u ≤ 1152921504606846976) (hv : -1152921504606846976 ≤ v ∧ v ≤ 1152921504606846976) (ha : InI a) (hb : InI b) (hc : InI c) : partG d u v a b c = bV d u v a b c := by
  unfold InI at ha hb hc
  unfold partG
  simp only [lt]
  have w1 : IntKind.i64.wrap (d - u) = d - u := by rw [wrI, w64' (by omega)]
  have w2 : IntKind.i64.wrap (d - u - v) = d - u - v := by rw [wrI, w64' (by omega)]
  rw [w1, w2]
  have m1 := bt_bd (x := d - u - v) (y := a) (by omega) (by omega) rfl
  have m2 := bt_bd (x := u) (y := b) (by omega) (by omega) rfl
  have m3 := bt_bd (x := v) (y := c) (by omega) (by omega) rfl
  have e1 := addW3o (p := (d - u - v) * a) (q := u * b) (r := v * c) (by unfold InW; omega) (by unfold InW; omega) (by unfold InW; omega)
  have e0 : (d - u - v) * a + u * b + v * c = bS d u v a b c := rfl
  rw [e0] at e1
  have hS : -170141183460469231731687303715884105728 ≤ bS d u v a b c ∧ bS d u v a b c < 170141183460469231731687303715884105728 := by rw [← e0]; omega
  generalize addW [(d - u - v) * a, u * b, v * c] = t at *
  subst e1
  unfold bV
  generalize bS d u v a b c = S at *
  have hf := fq_abs S d
  rw [absI_eq] at hf
  have hW : InW (fq S d) := by
    rw [fq_pos (by omega)]
    unfold InW
    have h1 := Int.mul_ediv_add_emod S d
    have h2 := Int.emod_nonneg S (show d ≠ 0 by omega)
    have h3 := Int.emod_lt_of_pos S (show 0 < d by omega)
    rw [fq_pos (by omega)] at hf
    omega
  have ho : divOk S d = true := by unfold divOk; rw [InWb_true hW, decide_eq_true (show d ≠ 0 by omega)]; rfl
  have e2 : wdivT S d = (fq S d, fr S d, true) := by unfold wdivT divQ divR; rw [ho, if_pos rfl, if_pos rfl]
  simp only [if_true]
  generalize wdivT S d = t2 at *
  subst e2
  simp only [if_true]
  generalize fq S d = q at *
  have e3 : wint q = if -9223372036854775808 ≤ q ∧ q ≤ 9223372036854775807 then (q, true) else (0, false) := by
    unfold wint intN fits
    by_cases h : -9223372036854775808 ≤ q ∧ q ≤ 9223372036854775807
    · rw [decide_eq_true h, if_pos rfl, if_pos h]
    · rw [decide_eq_false h, if_neg Bool.false_ne_true, if_neg h]
  generalize wint q = t3 at *
  subst e3
  have e4 : wHi q < 0 ↔ q < 0 := wHi_neg
  by_cases h : -9223372036854775808 ≤ q ∧ q ≤ 9223372036854775807
  · simp only [if_pos h, if_true, gmax_eq, gmin_eq]
  · simp only [if_neg h, Bool.false_eq_true, if_false]
    split <;> omega
theorem bary_eq (m : Int × Int × Int × Int) (uv : (Int × Int) × (Int × Int) × (Int × Int)) (hm : InM m) (huv : ((InI uv.1.1 ∧ InI uv.1.2) ∧ (InI uv.2.1.1 ∧ InI uv.2.1.2) ∧ (InI uv.2.2.1 ∧ InI uv.2.2.2))) : s_texel_Bary m uv = baryV m uv := by
  obtain ⟨n, d, u, v⟩ := m
  unfold s_texel_Bary baryV
  simp only [lt, gmax_eq, gmin_eq]
  by_cases h : bOk (n, d, u, v)
  · rw [if_pos h]
    unfold bOk at h
    simp only at h
    rw [if_neg (by omega), if_neg (by omega), if_neg (by omega), k0_eqo, k1_eqo, part_bV (by omega) (by omega) (by omega) huv.1.1 huv.2.1.1 huv.2.2.1, part_bV (by omega) (by omega) (by omega) huv.1.2 huv.2.1.2 huv.2.2.2]
  · rw [if_neg h]
    unfold bOk at h
    simp only at h
    split
    · rfl
    · split
      · rfl
      · split
        · rfl
        · exfalso; omega
end Go.Proofs.Ytognbeejobfpfaa
