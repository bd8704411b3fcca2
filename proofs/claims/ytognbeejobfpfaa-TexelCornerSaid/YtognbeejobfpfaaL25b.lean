/- Layer 25: TexelCorner holds. -/
import Derived.Test.YtognbeejobfpfaaL25
namespace Go.Proofs.Ytognbeejobfpfaa
open Go.RowKit Go.Sort
set_option linter.unusedVariables false
set_option linter.unusedSimpArgs false

def partF (d u v a b c : Int) : Int :=
  lt (IntKind.i64.wrap (d - u)) fun x1 =>
  lt (IntKind.i64.wrap (x1 - v)) fun x3 =>
  lt (x3 * a) fun r8 =>
  lt (u * b) fun r10 =>
  lt (v * c) fun r12 =>
  lt (addW [r8, r10, r12]) fun r18 =>
  if r18.2 = true then
    lt (wdivT r18.1 d) fun r39 =>
    if r39.2.2 = true then
      lt (wint r39.1) fun r70 =>
      if r70.2 = true then
        lt (gmax r70.1 (-2147483648)) fun x78 =>
        lt (gmin x78 2147483647) fun x80 =>
        x80
      else
        if wHi r39.1 < 0 then
          (-2147483648)
        else
          2147483647
    else
      lt (wint r39.1) fun r52 =>
      if r52.2 = true then
        lt (gmax r52.1 (-2147483648)) fun x60 =>
        lt (gmin x60 2147483647) fun x62 =>
        x62
      else
        if wHi r39.1 < 0 then
          (-2147483648)
        else
          2147483647
  else
    0

theorem k0_eq (n d u v : Int) (uv : (Int × Int) × (Int × Int) × (Int × Int)) : s_texel_Bary_1_k0 (n, d, u, v) uv = partF d u v uv.1.1 uv.2.1.1 uv.2.2.1 := rfl
theorem k1_eq (n d u v : Int) (uv : (Int × Int) × (Int × Int) × (Int × Int)) : s_texel_Bary_1_k1 (n, d, u, v) uv = partF d u v uv.1.2 uv.2.1.2 uv.2.2.2 := rfl
theorem works25 : s_umbralaw25_works = true := by kernel_rfl
theorem addW3 {p q r : Int} (h1 : InW p) (h2 : InW (p + q)) (h3 : InW (p + q + r)) : addW [p, q, r] = (p + q + r, true) := by
  have e1 : InWb p = true := decide_eq_true h1
  have e2 : InWb (p + q) = true := decide_eq_true h2
  have e3 : InWb (p + q + r) = true := decide_eq_true h3
  unfold addW addL addL addL addL
  simp [e1, e2, e3]
theorem part_v {d u v a b c : Int} (hd : 0 < d ∧ d ≤ 196605) (hu : 0 ≤ u) (hv : 0 ≤ v) (huv : u + v ≤ d) (ha : 0 ≤ a ∧ a ≤ 65535) (hb : 0 ≤ b ∧ b ≤ 65535) (hc : 0 ≤ c ∧ c ≤ 65535) :
    partF d u v a b c = ((d - u - v) * a + u * b + v * c) / d ∧ min (min a b) c ≤ ((d - u - v) * a + u * b + v * c) / d ∧ ((d - u - v) * a + u * b + v * c) / d ≤ max (max a b) c := by
  have hw : 0 ≤ d - u - v := by omega
  have hsum : d - u - v + u + v = d := by omega
  obtain ⟨w, hw'⟩ : ∃ w, w = d - u - v := ⟨_, rfl⟩
  rw [← hw'] at hw hsum ⊢
  have lo : min (min a b) c * d ≤ w * a + u * b + v * c := by
    have l1 := Int.mul_le_mul_of_nonneg_left (show min (min a b) c ≤ a by omega) hw
    have l2 := Int.mul_le_mul_of_nonneg_left (show min (min a b) c ≤ b by omega) hu
    have l3 := Int.mul_le_mul_of_nonneg_left (show min (min a b) c ≤ c by omega) hv
    have e : min (min a b) c * d = w * min (min a b) c + u * min (min a b) c + v * min (min a b) c := by
      rw [← hsum]
      generalize min (min a b) c = m
      grind
    omega
  have hi : w * a + u * b + v * c ≤ max (max a b) c * d := by
    have l1 := Int.mul_le_mul_of_nonneg_left (show a ≤ max (max a b) c by omega) hw
    have l2 := Int.mul_le_mul_of_nonneg_left (show b ≤ max (max a b) c by omega) hu
    have l3 := Int.mul_le_mul_of_nonneg_left (show c ≤ max (max a b) c by omega) hv
    have e : max (max a b) c * d = w * max (max a b) c + u * max (max a b) c + v * max (max a b) c := by
      rw [← hsum]
      generalize max (max a b) c = m
      grind
    omega
  have b1 : 0 ≤ w * a ∧ w * a ≤ 196605 * 65535 := ⟨Int.mul_nonneg hw ha.1, Int.mul_le_mul (by omega) ha.2 ha.1 (by omega)⟩
  have b2 : 0 ≤ u * b ∧ u * b ≤ 196605 * 65535 := ⟨Int.mul_nonneg hu hb.1, Int.mul_le_mul (by omega) hb.2 hb.1 (by omega)⟩
  have b3 : 0 ≤ v * c ∧ v * c ≤ 196605 * 65535 := ⟨Int.mul_nonneg hv hc.1, Int.mul_le_mul (by omega) hc.2 hc.1 (by omega)⟩
  have q1 : min (min a b) c ≤ (w * a + u * b + v * c) / d := by rw [Int.le_ediv_iff_mul_le hd.1]; exact lo
  have q2 : (w * a + u * b + v * c) / d ≤ max (max a b) c := by
    have : (w * a + u * b + v * c) / d < max (max a b) c + 1 := by
      rw [Int.ediv_lt_iff_lt_mul hd.1, Int.add_mul]
      omega
    omega
  refine ⟨?_, q1, q2⟩
  unfold partF
  simp only [lt]
  rw [wr_id (n := d - u) (by unfold InI; omega), wr_id (n := d - u - v) (by unfold InI; omega), ← hw', addW3 (by unfold InW; omega) (by unfold InW; omega) (by unfold InW; omega)]
  simp only
  obtain ⟨S, hS⟩ : ∃ S, S = w * a + u * b + v * c := ⟨_, rfl⟩
  rw [← hS] at q1 q2 ⊢
  have hf : fq S d = S / d := by unfold fq; rw [if_pos hd.1]
  have hok : divOk S d = true := by
    unfold divOk
    rw [hf, decide_eq_true (show d ≠ 0 by omega)]
    exact decide_eq_true (by omega)
  have hq : wdivT S d = (S / d, divR S d, true) := by
    unfold wdivT divQ
    rw [hok, if_pos rfl, hf]
  generalize wdivT S d = R at *
  subst hq
  simp only
  have hn : wint (S / d) = (S / d, true) := by
    have : fits (S / d) = true := decide_eq_true (by omega)
    unfold wint intN
    rw [this, if_pos rfl]
  rw [if_pos trivial, if_pos trivial]
  generalize wint (S / d) = R2 at *
  subst hn
  simp only
  rw [if_pos trivial, gmax_eq, gmin_eq]
  omega
theorem bary_v {d u v : Int} {uv : (Int × Int) × (Int × Int) × (Int × Int)} (hd : 0 < d ∧ d ≤ 196605) (hu : 0 ≤ u) (hv : 0 ≤ v) (huv : u + v ≤ d) : s_texel_Bary (1, d, u, v) uv = (partF d u v uv.1.1 uv.2.1.1 uv.2.2.1, partF d u v uv.1.2 uv.2.1.2 uv.2.2.2) := by
  unfold s_texel_Bary
  simp only [lt]
  rw [if_neg (by omega), gmax_eq, gmax_eq, gmax_eq, if_neg (by omega), gmin_eq, gmin_eq, if_neg (by omega), k0_eq, k1_eq]
theorem corner_v {d a b c : Int} (hd : 0 < d ∧ d ≤ 196605) (ha : 0 ≤ a ∧ a ≤ 65535) (hb : 0 ≤ b ∧ b ≤ 65535) (hc : 0 ≤ c ∧ c ≤ 65535) : partF d 0 0 a b c = a ∧ partF d d 0 a b c = b ∧ partF d 0 d a b c = c := by
  refine ⟨?_, ?_, ?_⟩
  · rw [(part_v hd (by omega) (by omega) (by omega) ha hb hc).1, show (d - 0 - 0) * a + 0 * b + 0 * c = a * d by grind, Int.mul_ediv_cancel _ (by omega)]
  · rw [(part_v hd (by omega) (by omega) (by omega) ha hb hc).1, show (d - d - 0) * a + d * b + 0 * c = b * d by grind, Int.mul_ediv_cancel _ (by omega)]
  · rw [(part_v hd (by omega) (by omega) (by omega) ha hb hc).1, show (d - 0 - d) * a + 0 * b + d * c = c * d by grind, Int.mul_ediv_cancel _ (by omega)]
theorem TexelCorner_true (uv : (Int × Int) × (Int × Int) × (Int × Int)) (p : Int × Int × Int) (h : ((0 ≤ uv.1.1 ∧ uv.1.1 ≤ 65535) ∧ (0 ≤ uv.1.2 ∧ uv.1.2 ≤ 65535)) ∧ ((0 ≤ uv.2.1.1 ∧ uv.2.1.1 ≤ 65535) ∧ (0 ≤ uv.2.1.2 ∧ uv.2.1.2 ≤ 65535)) ∧ ((0 ≤ uv.2.2.1 ∧ uv.2.2.1 ≤ 65535) ∧ (0 ≤ uv.2.2.2 ∧ uv.2.2.2 ≤ 65535)))
    (hp : (0 ≤ p.1 ∧ p.1 ≤ 65535) ∧ (0 ≤ p.2.1 ∧ p.2.1 ≤ 65535) ∧ (0 ≤ p.2.2 ∧ p.2.2 ≤ 65535)) : s_umbralaw25_TexelCorner uv p = true := by
  unfold s_umbralaw25_TexelCorner
  simp only [lt, works25, if_true]
  obtain ⟨⟨a1, a2⟩, ⟨b1, b2⟩, c1, c2⟩ := h
  obtain ⟨p1, p2, p3⟩ := hp
  have id : ∀ x : Int, 0 ≤ x ∧ x ≤ 65535 → IntKind.i64.wrap x = x := fun x hx => wr_id (by unfold InI; omega)
  rw [id _ a1, id _ a2, id _ b1, id _ b2, id _ c1, id _ c2, id _ p1, id _ p2, id _ p3, wr_id (n := p.1 + p.2.1) (by unfold InI; omega), wr_id (n := p.1 + p.2.1 + p.2.2) (by unfold InI; omega)]
  obtain ⟨d, hd⟩ : ∃ d, d = p.1 + p.2.1 + p.2.2 := ⟨_, rfl⟩
  rw [← hd]
  by_cases h0 : d = 0
  · rw [if_pos h0]
  · rw [if_neg h0]
    have hdd : 0 < d ∧ d ≤ 196605 := by omega
    obtain ⟨e1, l1, u1⟩ := part_v (d := d) (u := p.2.1) (v := p.2.2) hdd p2.1 p3.1 (by omega) a1 b1 c1
    obtain ⟨e2, l2, u2⟩ := part_v (d := d) (u := p.2.1) (v := p.2.2) hdd p2.1 p3.1 (by omega) a2 b2 c2
    obtain ⟨x1, x2, x3⟩ := corner_v hdd a1 b1 c1
    obtain ⟨y1, y2, y3⟩ := corner_v hdd a2 b2 c2
    have B1 := bary_v (uv := ((uv.1.1, uv.1.2), (uv.2.1.1, uv.2.1.2), (uv.2.2.1, uv.2.2.2))) hdd p2.1 p3.1 (show p.2.1 + p.2.2 ≤ d by omega)
    have B2 := bary_v (uv := ((uv.1.1, uv.1.2), (uv.2.1.1, uv.2.1.2), (uv.2.2.1, uv.2.2.2))) (u := 0) (v := 0) hdd (by omega) (by omega) (by omega)
    have B3 := bary_v (uv := ((uv.1.1, uv.1.2), (uv.2.1.1, uv.2.1.2), (uv.2.2.1, uv.2.2.2))) (u := d) (v := 0) hdd (by omega) (by omega) (by omega)
    have B4 := bary_v (uv := ((uv.1.1, uv.1.2), (uv.2.1.1, uv.2.1.2), (uv.2.2.1, uv.2.2.2))) (u := 0) (v := d) hdd (by omega) (by omega) (by omega)
    simp only at B1 B2 B3 B4
    rw [x1, y1] at B2
    rw [x2, y2] at B3
    rw [x3, y3] at B4
    generalize s_texel_Bary (1, d, p.2.1, p.2.2) ((uv.1.1, uv.1.2), (uv.2.1.1, uv.2.1.2), (uv.2.2.1, uv.2.2.2)) = r1 at *
    generalize s_texel_Bary (1, d, 0, 0) ((uv.1.1, uv.1.2), (uv.2.1.1, uv.2.1.2), (uv.2.2.1, uv.2.2.2)) = r2 at *
    generalize s_texel_Bary (1, d, d, 0) ((uv.1.1, uv.1.2), (uv.2.1.1, uv.2.1.2), (uv.2.2.1, uv.2.2.2)) = r3 at *
    generalize s_texel_Bary (1, d, 0, d) ((uv.1.1, uv.1.2), (uv.2.1.1, uv.2.1.2), (uv.2.2.1, uv.2.2.2)) = r4 at *
    rw [← e1] at l1 u1
    rw [← e2] at l2 u2
    generalize partF d p.2.1 p.2.2 uv.1.1 uv.2.1.1 uv.2.2.1 = P at *
    generalize partF d p.2.1 p.2.2 uv.1.2 uv.2.1.2 uv.2.2.2 = Q at *
    subst B1 B2 B3 B4
    simp only [gmin_eq, gmax_eq]
    rw [if_neg (by omega), if_neg (by omega), if_neg (by omega), if_neg (by omega)]
    simp
end Go.Proofs.Ytognbeejobfpfaa
