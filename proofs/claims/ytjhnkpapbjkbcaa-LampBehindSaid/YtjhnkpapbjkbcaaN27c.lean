/- Layer 27: LampBehind holds. Layer 27: LampSamples holds. Layer 27: LampSamples, LampBehind as their frames ask for them. -/
import Derived.Test.YtjhnkpapbjkbcaaN27
import Derived.Test.YtjhnkpapbjkbcaaGoF
namespace Go.Proofs.Ytjhnkpapbjkbcaa
open Go.RowKit Go.Sort
set_option linter.unusedVariables false
set_option linter.unusedSimpArgs false

theorem fmul_nn {a b : Int} (ha : 0 ≤ a) (hb : 0 ≤ b) : 0 ≤ fmul a b := by
  have := Int.mul_nonneg ha hb
  unfold fmul clampI
  repeat' split
  all_goals omega
theorem color_nn {c : Int} (h : 0 ≤ c ∧ c ≤ 1048576) : 0 ≤ s_texel_Color_1 65536 c := by
  unfold s_texel_Color_1
  simp only [lt]
  have e : fof 65536 = 281474976710656 := by decide
  rw [e]
  unfold fof
  rw [clampI_v (by omega)]
  unfold fdiv fq
  rw [if_neg (by omega), if_pos (by omega)]
  unfold clampI
  repeat' split
  all_goals omega
theorem bright_nn {l : Lt} (h : (0 ≤ l.2.1.1 ∧ l.2.1.1 ≤ 1048576) ∧ (0 ≤ l.2.1.2.1 ∧ l.2.1.2.1 ≤ 1048576) ∧ (0 ≤ l.2.1.2.2 ∧ l.2.1.2.2 ≤ 1048576)) {k : Int} (hk : 0 ≤ k) : 0 ≤ (vscale (s_lamp_Bright l) k).1 ∧ 0 ≤ (vscale (s_lamp_Bright l) k).2.1 ∧ 0 ≤ (vscale (s_lamp_Bright l) k).2.2 := by
  have c1 := color_nn h.1
  have c2 := color_nn h.2.1
  have c3 := color_nn h.2.2
  exact ⟨fmul_nn c1 hk, fmul_nn c2 hk, fmul_nn c3 hk⟩
theorem point_bd (l : Lt) (draw : Int × Int) (h : ¬ Far3 l.2.2.1 4096 ∧ ¬ Far3 l.2.2.2.1 4096 ∧ ¬ Far3 l.2.2.2.2 4096) (h1 : InU32 draw.1) (h2 : InU32 draw.2) : ¬ Far3 (s_lamp_Point l draw) 12288 := by
  obtain ⟨n1, n2, n3⟩ := h
  unfold s_lamp_Point
  simp only [lt]
  obtain ⟨a1, a2, a3⟩ := near3 n1
  obtain ⟨b1, b2, b3⟩ := near3 n2
  obtain ⟨c1, c2, c3⟩ := near3 n3
  by_cases h : l.1 = 1
  · rw [if_pos h]
    obtain ⟨p1, p2, p3⟩ := point1 (draw := draw) a1 b1 c1 h1 h2
    obtain ⟨q1, q2, q3⟩ := point1 (draw := draw) a2 b2 c2 h1 h2
    obtain ⟨r1, r2, r3⟩ := point1 (draw := draw) a3 b3 c3 h1 h2
    unfold Far3
    rw [p1, q1, r1]
    simp only
    omega
  · rw [if_neg h]
    unfold Far3
    omega
theorem sub_v {p q : T3} (hp : ¬ Far3 p 12288) (hq : ¬ Far3 q 65536) : s_tri_Sub p q = (p.1 - q.1, p.2.1 - q.2.1, p.2.2 - q.2.2) ∧ ¬ Far3 (s_tri_Sub p q) 131072 := by
  have e : s_tri_Sub p q = (p.1 - q.1, p.2.1 - q.2.1, p.2.2 - q.2.2) := by
    unfold Far3 at *
    unfold s_tri_Sub
    simp only [lt]
    rw [wr_id (n := p.1 - q.1) (by unfold InI; omega), wr_id (n := p.2.1 - q.2.1) (by unfold InI; omega), wr_id (n := p.2.2 - q.2.2) (by unfold InI; omega)]
  refine ⟨e, ?_⟩
  rw [e]
  unfold Far3 at *
  simp only
  omega
theorem dot_v {p : T3} (h : ¬ Far3 p 131072) : s_tri_Dot p p = p.1 * p.1 + p.2.1 * p.2.1 + p.2.2 * p.2.2 ∧ 0 ≤ s_tri_Dot p p ∧ s_tri_Dot p p ≤ 51539607552 ∧ (s_tri_Dot p p = 0 → p = (0, 0, 0)) := by
  have sq : ∀ x : Int, -131072 ≤ x ∧ x ≤ 131072 → 0 ≤ x * x ∧ x * x ≤ 17179869184 ∧ (x * x = 0 → x = 0) := by
    intro x hx
    refine ⟨?_, ?_, fun e => ?_⟩
    · rcases Int.le_total 0 x with g | g
      · exact Int.mul_nonneg g g
      · exact Int.mul_nonneg_of_nonpos_of_nonpos g g
    · rcases Int.le_total 0 x with g | g
      · have := Int.mul_le_mul hx.2 hx.2 g (by omega); omega
      · have := Int.mul_le_mul (show -x ≤ 131072 by omega) (show -x ≤ 131072 by omega) (show 0 ≤ -x by omega) (by omega)
        rw [Int.neg_mul_neg] at this
        omega
    · rcases Int.mul_eq_zero.1 e with e | e <;> exact e
  obtain ⟨x1, x2, x3⟩ := near3 h
  have a1 := sq _ x1
  have a2 := sq _ x2
  have a3 := sq _ x3
  have e : s_tri_Dot p p = p.1 * p.1 + p.2.1 * p.2.1 + p.2.2 * p.2.2 := by
    unfold s_tri_Dot
    simp only [lt]
    rw [wr_id (n := p.1 * p.1) (by unfold InI; omega), wr_id (n := p.2.1 * p.2.1) (by unfold InI; omega), wr_id (n := p.2.2 * p.2.2) (by unfold InI; omega), wr_id (n := p.1 * p.1 + p.2.1 * p.2.1) (by unfold InI; omega), wr_id (by unfold InI; omega)]
  refine ⟨e, ?_, ?_, ?_⟩
  · omega
  · omega
  · rw [e]
    intro h0
    obtain ⟨p1, p2, p3⟩ := p
    simp only at *
    rw [a1.2.2 (by omega), a2.2.2 (by omega), a3.2.2 (by omega)]
theorem far_v (r n a : T3) (hm : mayB r = true) : (s__umbra_lamp_far__comes r a (vtow n) = (neg3 r, satAdd (fneg (vdot (vtow n) (vtow r))) (fneg (vdot (vtow n) (vtow r)))) ∧ vdot (vtow n) (vtow r) < 0) ∨ (s__umbra_lamp_far__comes r a (vtow n) = (r, satAdd (vdot (vtow n) (vtow r)) (vdot (vtow n) (vtow r))) ∧ 0 ≤ vdot (vtow n) (vtow r)) := by
  have hb := may_I hm
  unfold s__umbra_lamp_far__comes
  simp only [lt]
  have hI := vdot_I (vtow n) (vtow r)
  generalize vdot (vtow n) (vtow r) = c at *
  by_cases h : c < 0
  · left
    rw [if_pos h, wr_id (n := 0 - r.1) (by unfold InI; omega), wr_id (n := 0 - r.2.1) (by unfold InI; omega), wr_id (n := 0 - r.2.2) (by unfold InI; omega), sumF2 (fneg_I c)]
    unfold neg3
    simp only [Int.zero_sub]
    exact ⟨by first | trivial | rfl, h⟩
  · right
    rw [if_neg h, sumF2 hI]
    exact ⟨rfl, by omega⟩
theorem may_neg {r : T3} (hm : mayB r = true) : mayB (neg3 r) = true := by
  unfold mayB neg3 at *
  simp only [Bool.and_eq_true, decide_eq_true_eq] at *
  omega
theorem may_far {r : T3} (hm : mayB r = true) : ¬ Far3 r 131072 ∧ r ≠ (0, 0, 0) := by
  have hb := may_I hm
  refine ⟨by unfold Far3; omega, fun e => ?_⟩
  subst e
  revert hm
  decide
theorem satAdd_nn {a b : Int} (ha : 0 ≤ a) (hb : 0 ≤ b) : 0 ≤ satAdd a b := by unfold satAdd clampI; repeat' split; all_goals omega
theorem md_nn {a b c : Int} (ha : 0 ≤ a) (hb : 0 ≤ b) (hc : 0 ≤ c) : 0 ≤ mdN a b c := by
  unfold mdN
  split
  · omega
  · unfold fq
    rw [if_pos (by omega)]
    have := Int.ediv_nonneg (Int.mul_nonneg ha hb) hc
    unfold clampI
    repeat' split
    all_goals omega
theorem near_val (p a n : T3) : s__umbra_lamp_near__comes p a n = (if s_tri_Sub p a = (0, 0, 0) then ((0, 0, 0), 0) else if vdot n (vtow (s_tri_Sub p a)) ≤ 0 then ((0, 0, 0), 0) else (s_tri_Sub p a, mdN (vdot n (vtow (s_tri_Sub p a))) 1048576 (s_tri_Dot (s_tri_Sub p a) (s_tri_Sub p a)))) := rfl
theorem far_val (r a n : T3) : s__umbra_lamp_far__comes r a n = (if vdot n (vtow r) < 0 then ((IntKind.i64.wrap (0 - r.1), IntKind.i64.wrap (0 - r.2.1), IntKind.i64.wrap (0 - r.2.2)), sumF [fneg (vdot n (vtow r)), fneg (vdot n (vtow r))]) else (r, sumF [vdot n (vtow r), vdot n (vtow r)])) := by
  unfold s__umbra_lamp_far__comes
  simp only [lt]
/-- What comes: nothing, or of a way that looks at the surface. -/
theorem sample_v (l : Lt) (a n : T3) (draw : Int × Int) (h1 : InU32 draw.1) (h2 : InU32 draw.2) : s_lamp_Sample l a (vtow n) draw = ((0, 0, 0), false, true, (0, 0, 0)) ∨
    ∃ w g, s_lamp_Sample l a (vtow n) draw = (w, decide (l.1 = 2), false, g) ∧ s_asset_Light l = 0 ∧ s_tri_May a w = true ∧ vdot (vtow n) (vtow w) ≥ -16 ∧ 0 ≤ g.1 ∧ 0 ≤ g.2.1 ∧ 0 ≤ g.2.2 := by
  unfold s_lamp_Sample
  simp only [lt]
  by_cases hl : s_asset_Light l = 0
  · rw [if_pos hl]
    obtain ⟨-, hc, hn⟩ := light_ok hl
    by_cases hm : s_tri_May a (1, 0, 0) = true
    · rw [if_pos hm]
      have ha : ¬ Far3 a 65536 := by
        rw [may_v, decide_eq_true_eq] at hm
        exact hm.1
      by_cases h0 : l.1 = 2
      · rw [if_pos h0]
        have hp := pdir_may h1
        generalize pdir draw.1 = r at *
        have hk : (s__umbra_lamp_far__comes r a (vtow n)).2 ≥ 0 ∧ mayB (s__umbra_lamp_far__comes r a (vtow n)).1 = true ∧ vdot (vtow n) (vtow (s__umbra_lamp_far__comes r a (vtow n)).1) ≥ -16 := by
          rcases far_v r n a hp with ⟨e, hd⟩ | ⟨e, hd⟩
          · rw [e]
            have : 0 ≤ fneg (vdot (vtow n) (vtow r)) := by
              unfold fneg satSub clampI
              repeat' split
              all_goals omega
            exact ⟨satAdd_nn this this, may_neg hp, turn_dot n r (may_I hp) hd⟩
          · rw [e]
            exact ⟨satAdd_nn hd hd, hp, by simp only; omega⟩
        generalize s__umbra_lamp_far__comes r a (vtow n) = c at *
        by_cases hz : c.2 = 0
        · rw [if_pos hz]; exact .inl rfl
        · rw [if_neg hz]
          right
          have hf := may_far hk.2.1
          refine ⟨_, _, by rw [decide_eq_true h0], hl, ?_, hk.2.2, bright_nn hc hk.1⟩
          rw [may_v, decide_eq_true_eq]
          exact ⟨ha, hf⟩
      · rw [if_neg h0]
        have hp := point_bd l draw hn h1 h2
        generalize s_lamp_Point l draw = p at *
        have hv := near_val p a (vtow n)
        obtain ⟨-, hs⟩ := sub_v hp ha
        have hd := dot_v hs
        generalize s__umbra_lamp_near__comes p a (vtow n) = c at *
        generalize s_tri_Sub p a = w at *
        by_cases hw : w = (0, 0, 0)
        · left
          rw [if_pos hw] at hv
          subst hv
          rw [if_pos rfl]
        · by_cases hcc : vdot (vtow n) (vtow w) ≤ 0
          · left
            rw [if_neg hw, if_pos hcc] at hv
            subst hv
            rw [if_pos rfl]
          · right
            rw [if_neg hw, if_neg hcc] at hv
            subst hv
            rw [if_neg hw]
            refine ⟨_, _, by rw [decide_eq_false h0], hl, ?_, (show vdot (vtow n) (vtow w) ≥ -16 by omega), bright_nn hc (md_nn (by omega) (by omega) hd.2.1)⟩
            rw [may_v, decide_eq_true_eq]
            exact ⟨ha, hs, hw⟩
    · rw [if_neg hm]; exact .inl rfl
  · rw [if_neg hl]; exact .inl rfl
theorem LampBehind_true (l : Lt) (a : T3 × T3 × (Int × Int)) (n : T3) (h1 : InU32 a.2.2.1) (h2 : InU32 a.2.2.2) : s_umbralaw27_LampBehind l a n = true := by
  unfold s_umbralaw27_LampBehind
  simp only [lt, works27, if_true]
  have hs := sample_v l a.1 n a.2.2 h1 h2
  generalize s_lamp_Sample l a.1 (vtow n) a.2.2 = r at *
  rcases hs with e | ⟨w, g, e, hl, hm, hd, g1, g2, g3⟩
  · subst e
    simp
  · have hmin : gmin (gmin g.1 g.2.1) g.2.2 ≥ 0 := by rw [gmin_eq, gmin_eq]; omega
    by_cases h0 : l.1 = 2
    · rw [decide_eq_true h0] at e
      subst e
      simp only
      rw [if_pos trivial, if_neg (by simp), if_pos hl, if_pos hm, if_pos h0, if_pos hd, if_pos hmin]
    · rw [decide_eq_false h0] at e
      subst e
      simp only
      rw [if_neg (by simp), if_neg (by simp), if_pos hl, if_pos hm, if_neg h0, if_pos hd, if_pos hmin]
end Go.Proofs.Ytjhnkpapbjkbcaa

namespace Go.Proofs.Ytjhnkpapbjkbcaa
open Go.RowKit Go.Sort
set_option linter.unusedVariables false
set_option linter.unusedSimpArgs false

theorem light_eq (l : Lt) : s_asset_Light l = s_umbraref15_Light l := by
  unfold s_asset_Light s_umbraref15_Light
  simp only [lt, outn1, outn3, light1, off_v _ 4096 (by omega), decide_eq_true_eq]
  by_cases k0 : l.1 < 0
  · simp [k0]
  by_cases k1 : l.1 > 2
  · simp [k0, k1]
  by_cases c1 : l.2.1.1 < 0
  · simp [k0, k1, c1]
  by_cases c2 : l.2.1.1 > 1048576
  · simp [k0, k1, c1, c2]
  by_cases c3 : l.2.1.2.1 < 0
  · simp [k0, k1, c1, c2, c3]
  by_cases c4 : l.2.1.2.1 > 1048576
  · simp [k0, k1, c1, c2, c3, c4]
  by_cases c5 : l.2.1.2.2 < 0
  · simp [k0, k1, c1, c2, c3, c4, c5]
  by_cases c6 : l.2.1.2.2 > 1048576
  · simp [k0, k1, c1, c2, c3, c4, c5, c6]
  rw [if_neg (show ¬(l.1 < 0 ∨ l.1 > 2) by omega), if_neg (show ¬((l.2.1.1 < 0 ∨ l.2.1.1 > 1048576) ∨ (l.2.1.2.1 < 0 ∨ l.2.1.2.1 > 1048576) ∨ (l.2.1.2.2 < 0 ∨ l.2.1.2.2 > 1048576)) by omega),
    if_neg k0, if_neg k1, if_neg c1, if_neg c2, if_neg c3, if_neg c4, if_neg c5, if_neg c6]
  by_cases f1 : Far3 l.2.2.1 4096
  · rw [if_pos f1, if_pos f1]
  rw [if_neg f1, if_neg f1]
  by_cases f2 : Far3 l.2.2.2.1 4096
  · rw [if_pos f2, if_pos f2]
  rw [if_neg f2, if_neg f2]
  by_cases f3 : Far3 l.2.2.2.2 4096
  · rw [if_pos f3, if_pos f3]
  rw [if_neg f3, if_neg f3]
  by_cases e2 : l.1 = 2
  · rw [if_pos e2, if_pos e2, if_neg (show ¬ l.1 = 1 by omega)]
  · rw [if_neg e2, if_neg e2]
    by_cases e1 : l.1 = 1
    · rw [if_pos e1, if_neg (show ¬ l.1 = 0 by omega)]
    · rw [if_neg e1, if_pos (show l.1 = 0 by omega)]
theorem of_v {u x : Int} (hu : -4096 ≤ u ∧ u ≤ 4096) (hx : InU32 x) : s_umbraref27_of u x = u * x / 4294967296 := by
  unfold InU32 at hx
  obtain ⟨P, hP⟩ : ∃ P, P = absU u * x := ⟨_, rfl⟩
  have hb : 0 ≤ P ∧ P ≤ 17592186044416 := by
    have ha : 0 ≤ absU u ∧ absU u ≤ 4096 := by unfold absU; split <;> omega
    have h1 := Int.mul_nonneg ha.1 hx.1
    have h2 := Int.mul_le_mul ha.2 hx.2 hx.1 (by omega)
    omega
  unfold s_umbraref27_of m64
  simp only [lt]
  rw [wr_idU (n := x) (by unfold InU; omega), ← hP]
  have e1 : wHi P = 0 := by unfold wHi; omega
  have e2 : wLo P = P := by unfold wLo; omega
  rw [e1, e2]
  have e3 : IntKind.u64.wrap (0 * 2 ^ 32) = 0 := by decide
  have e4 : Int.fdiv P (2 ^ 32) = P / 4294967296 := Int.fdiv_eq_ediv_of_nonneg _ (by decide)
  have e5 : bits .or .u64 0 (P / 4294967296) = P / 4294967296 := by
    rw [u64_or _ _ (by omega) (by omega) (by omega) (by omega)]
    simp only [Int.toNat_zero, Nat.zero_or]
    omega
  rw [e3, e4, e5, and_low (by omega) (by omega), wr_id (n := P / 4294967296) (by unfold InI; omega), wr_id (n := 0 - P / 4294967296) (by unfold InI; omega), wr_id (n := 0 - P / 4294967296 - 1) (by unfold InI; omega)]
  unfold absU at hP
  by_cases h : u < 0
  · rw [if_pos h] at hP ⊢
    rw [Int.neg_mul] at hP
    split <;> omega
  · rw [if_neg h] at hP ⊢
    rw [hP]
theorem point_eq (l : Lt) (draw : Int × Int) (h : ¬ Far3 l.2.2.1 4096 ∧ ¬ Far3 l.2.2.2.1 4096 ∧ ¬ Far3 l.2.2.2.2 4096) (h1 : InU32 draw.1) (h2 : InU32 draw.2) : s_lamp_Point l draw = s_umbraref27_Point l draw := by
  obtain ⟨n1, n2, n3⟩ := h
  obtain ⟨a1, a2, a3⟩ := near3 n1
  obtain ⟨b1, b2, b3⟩ := near3 n2
  obtain ⟨c1, c2, c3⟩ := near3 n3
  have step : ∀ t u v : Int, (-4096 ≤ t ∧ t ≤ 4096) → (-4096 ≤ u ∧ u ≤ 4096) → (-4096 ≤ v ∧ v ≤ 4096) → s_lamp_Point_1 draw t u v = IntKind.i64.wrap (IntKind.i64.wrap (t + s_umbraref27_of u draw.1) + s_umbraref27_of v draw.2) := by
    intro t u v ht hu hv
    rw [(point1 (draw := draw) ht hu hv h1 h2).1, of_v hu h1, of_v hv h2]
    have m1 := md_v hu h1
    have m2 := md_v hv h2
    generalize u * draw.1 / 4294967296 = A at *
    generalize v * draw.2 / 4294967296 = B at *
    rw [wr_id (n := t + A) (by unfold InI; omega), wr_id (n := t + A + B) (by unfold InI; omega)]
  unfold s_lamp_Point s_umbraref27_Point
  simp only [lt]
  by_cases h0 : l.1 = 1
  · rw [if_pos h0, if_pos h0, step _ _ _ a1 b1 c1, step _ _ _ a2 b2 c2, step _ _ _ a3 b3 c3]
  · rw [if_neg h0, if_neg h0]
theorem bright_eq (l : Lt) : s_lamp_Bright l = s_umbraref27_Bright l := by
  unfold s_lamp_Bright s_umbraref27_Bright s_texel_Color s_umbraref25_Color s_texel_Color_1
  simp only [lt]
theorem much_eq {c s : Int} (hc : 0 < c) (hi : InI c) (hs : 0 < s ∧ s ≤ 51539607552) : (if (m64 (IntKind.u64.wrap c) 1048576).1 < IntKind.u64.wrap s then nearV (dvh (m64 (IntKind.u64.wrap c) 1048576).1 (m64 (IntKind.u64.wrap c) 1048576).2 (IntKind.u64.wrap s)).1 false false else nearV 0 false true) = mdN c 1048576 s := by
  unfold InI at hi
  rw [wr_idU (n := c) (by unfold InU; omega), wr_idU (n := s) (by unfold InU; omega)]
  unfold m64 dvh
  simp only
  obtain ⟨P, hP⟩ : ∃ P, P = c * 1048576 := ⟨_, rfl⟩
  rw [← hP]
  have e : wHi P * 18446744073709551616 + wLo P = P := by unfold wHi wLo; omega
  rw [e]
  have em : mdN c 1048576 s = clampI (P / s) := by
    unfold mdN fq
    rw [if_neg (by omega), if_pos (by omega), hP]
  rw [em]
  have q0 := Int.ediv_nonneg (show 0 ≤ P by omega) (show 0 ≤ s by omega)
  by_cases h : wHi P < s
  · rw [if_pos h]
    generalize P / s = Q at *
    unfold nearV clampI
    simp only [Bool.false_or, decide_eq_true_eq]
    repeat' split
    all_goals first | omega | (simp at * <;> omega)
  · rw [if_neg h]
    have hq : 18446744073709551616 ≤ P / s := by
      rw [Int.le_ediv_iff_mul_le (by omega)]
      unfold wHi at h
      omega
    generalize P / s = Q at *
    have en : nearV 0 false true = 9223372036854775807 := by decide
    rw [en]
    unfold clampI
    repeat' split
    all_goals omega
theorem sample_eq (l : Lt) (a n : T3) (draw : Int × Int) (h1 : InU32 draw.1) (h2 : InU32 draw.2) : s_lamp_Sample l a n draw = s_umbraref27_Sample l a n draw := by
  unfold s_lamp_Sample s_umbraref27_Sample
  simp only [lt]
  rw [light_eq l]
  by_cases hl : s_umbraref15_Light l = 0
  · rw [if_pos hl, if_pos hl]
    obtain ⟨-, hc, hn⟩ := light_ok ((light_eq l).trans hl)
    by_cases hf : Far3 a 65536
    · rw [if_neg (show ¬ s_tri_May a (1, 0, 0) = true by rw [may_v, decide_eq_true_eq]; exact fun h => h.1 hf), if_pos (show s_umbraref13_Off a 65536 = true by rw [off_v _ 65536 (by omega), decide_eq_true_eq]; exact hf)]
    · rw [if_pos (show s_tri_May a (1, 0, 0) = true by rw [may_v, decide_eq_true_eq]; exact ⟨hf, by decide, by simp⟩), if_neg (show ¬ s_umbraref13_Off a 65536 = true by rw [off_v _ 65536 (by omega), decide_eq_true_eq]; exact hf)]
      by_cases h0 : l.1 = 2
      · rw [if_pos h0, if_pos h0]
        have hv := far_val (pdir draw.1) a n
        generalize s__umbra_lamp_far__comes (pdir draw.1) a n = q at *
        have hI := vdot_I n (vtow (pdir draw.1))
        generalize vdot n (vtow (pdir draw.1)) = c at *
        have hI' := hI
        unfold InI at hI
        have hb := bright_eq l
        generalize s_lamp_Bright l = B at *
        subst hb
        by_cases hz : c = 0
        · have hs0 : sumF [c, c] = 0 := by subst hz; decide
          rw [if_neg (by omega), hs0] at hv
          subst hv
          rw [if_pos hz, if_pos rfl]
        · rw [if_neg hz]
          by_cases hm : c < 0
          · have hfn : fneg c = satSub 0 c := rfl
            have hpos : 0 < satSub 0 c := by
              unfold satSub clampI
              repeat' split
              all_goals omega
            have hs : ¬ satAdd (satSub 0 c) (satSub 0 c) = 0 := by
              generalize satSub 0 c = k at *
              unfold satAdd clampI
              repeat' split
              all_goals omega
            rw [if_pos hm, hfn, sumF2 (satSub_I 0 c)] at hv
            subst hv
            rw [if_pos hm, if_neg hs]
          · have hs : ¬ satAdd c c = 0 := by
              unfold satAdd clampI
              repeat' split
              all_goals omega
            rw [if_neg hm, sumF2 hI'] at hv
            subst hv
            rw [if_neg hm, if_neg hs]
      · rw [if_neg h0, if_neg h0]
        rw [← point_eq l draw hn h1 h2]
        have hp := point_bd l draw hn h1 h2
        generalize s_lamp_Point l draw = p at *
        have es : s_umbraref20_Sub p a = s_tri_Sub p a := rfl
        have ed : ∀ w, s_umbraref20_Dot w w = s_tri_Dot w w := fun _ => rfl
        simp only [es]
        generalize hdd : s_umbraref20_Dot (s_tri_Sub p a) (s_tri_Sub p a) = D
        rw [ed] at hdd
        have hv := near_val p a n
        obtain ⟨-, hs⟩ := sub_v hp hf
        have hd := dot_v hs
        generalize s__umbra_lamp_near__comes p a n = q at *
        generalize s_tri_Sub p a = w at *
        have hb := bright_eq l
        generalize s_lamp_Bright l = B at *
        subst hb
        rw [hdd] at hv hd
        have hcI := vdot_I n (vtow w)
        generalize vdot n (vtow w) = c at *
        by_cases hw : w = (0, 0, 0)
        · have : D = 0 := by
            rw [← hdd, hw]
            decide
          rw [if_pos hw] at hv
          subst hv
          rw [if_pos rfl, if_pos this]
        · have hd0 : ¬ D = 0 := fun e => hw (hd.2.2.2 e)
          rw [if_neg hd0]
          by_cases hcc : c ≤ 0
          · rw [if_neg hw, if_pos hcc] at hv
            subst hv
            rw [if_pos rfl, if_pos hcc]
          · rw [if_neg hw, if_neg hcc] at hv
            subst hv
            have hmu := much_eq (c := c) (s := D) (by omega) hcI ⟨by omega, hd.2.2.1⟩
            rw [if_neg hw, if_neg hcc]
            simp only
            rw [← hmu]
            split <;> rfl
  · rw [if_neg hl, if_neg hl]
theorem LampSamples_true (l : Lt) (a : T3 × T3 × (Int × Int)) (h1 : InU32 a.2.2.1) (h2 : InU32 a.2.2.2) : s_umbralaw27_LampSamples l a = true := by
  unfold s_umbralaw27_LampSamples
  simp only [lt, works27, if_true, sample_eq l a.1 a.2.1 a.2.2 h1 h2]
  generalize s_umbraref27_Sample l a.1 a.2.1 a.2.2 = r
  obtain ⟨w, b1, b2, g⟩ := r
  cases b1 <;> cases b2 <;> simp
end Go.Proofs.Ytjhnkpapbjkbcaa

namespace Go.Proofs.Ytjhnkpapbjkbcaa
open Go.RowKit Go.Sort
set_option linter.unusedVariables false
set_option linter.unusedSimpArgs false

theorem LampSamples_law (l : Int × (Int × Int × Int) × (Int × Int × Int) × (Int × Int × Int) × (Int × Int × Int)) (a : (Int × Int × Int) × (Int × Int × Int) × (Int × Int)) (h_l : (InI l.1 ∧ InV l.2.1 ∧ InV l.2.2.1 ∧ InV l.2.2.2.1 ∧ InV l.2.2.2.2)) (h_a : (InV a.1 ∧ InV a.2.1 ∧ (InU32 a.2.2.1 ∧ InU32 a.2.2.2))) : s_umbralaw27_LampSamples l a = true := LampSamples_true l a h_a.2.2.1 h_a.2.2.2

theorem lawLampSamples (ns0 : List Int) (h0 : Al2 Fits [.i64, .i64, .i64, .i64, .i64, .i64, .i64, .i64, .i64, .i64, .i64, .i64, .i64] ns0) (ns1 : List Int) (h1 : Al2 Fits [.i64, .i64, .i64, .i64, .i64, .i64, .u32, .u32] ns1) (w : World) : Calls Try.prog 9 #[.agg (vals [.i64, .i64, .i64, .i64, .i64, .i64, .i64, .i64, .i64, .i64, .i64, .i64, .i64] ns0).toArray, .agg (vals [.i64, .i64, .i64, .i64, .i64, .i64, .u32, .u32] ns1).toArray] w (Ret (.bool true) w) := by
  obtain ⟨b0_0, l0_0, rfl, f0_0, h0⟩ := al2_cons h0
  obtain ⟨b0_1, l0_1, rfl, f0_1, h0⟩ := al2_cons h0
  obtain ⟨b0_2, l0_2, rfl, f0_2, h0⟩ := al2_cons h0
  obtain ⟨b0_3, l0_3, rfl, f0_3, h0⟩ := al2_cons h0
  obtain ⟨b0_4, l0_4, rfl, f0_4, h0⟩ := al2_cons h0
  obtain ⟨b0_5, l0_5, rfl, f0_5, h0⟩ := al2_cons h0
  obtain ⟨b0_6, l0_6, rfl, f0_6, h0⟩ := al2_cons h0
  obtain ⟨b0_7, l0_7, rfl, f0_7, h0⟩ := al2_cons h0
  obtain ⟨b0_8, l0_8, rfl, f0_8, h0⟩ := al2_cons h0
  obtain ⟨b0_9, l0_9, rfl, f0_9, h0⟩ := al2_cons h0
  obtain ⟨b0_10, l0_10, rfl, f0_10, h0⟩ := al2_cons h0
  obtain ⟨b0_11, l0_11, rfl, f0_11, h0⟩ := al2_cons h0
  obtain ⟨b0_12, l0_12, rfl, f0_12, h0⟩ := al2_cons h0
  obtain rfl := al2_nil h0
  obtain ⟨b1_0, l1_0, rfl, f1_0, h1⟩ := al2_cons h1
  obtain ⟨b1_1, l1_1, rfl, f1_1, h1⟩ := al2_cons h1
  obtain ⟨b1_2, l1_2, rfl, f1_2, h1⟩ := al2_cons h1
  obtain ⟨b1_3, l1_3, rfl, f1_3, h1⟩ := al2_cons h1
  obtain ⟨b1_4, l1_4, rfl, f1_4, h1⟩ := al2_cons h1
  obtain ⟨b1_5, l1_5, rfl, f1_5, h1⟩ := al2_cons h1
  obtain ⟨b1_6, l1_6, rfl, f1_6, h1⟩ := al2_cons h1
  obtain ⟨b1_7, l1_7, rfl, f1_7, h1⟩ := al2_cons h1
  obtain rfl := al2_nil h1
  have hw := w_umbralaw27_LampSamples (b0_0, (b0_1, b0_2, b0_3), (b0_4, b0_5, b0_6), (b0_7, b0_8, b0_9), (b0_10, b0_11, b0_12)) ((b1_0, b1_1, b1_2), (b1_3, b1_4, b1_5), (b1_6, b1_7)) ⟨fit_i64 f0_0, ⟨fit_i64 f0_1, fit_i64 f0_2, fit_i64 f0_3⟩, ⟨fit_i64 f0_4, fit_i64 f0_5, fit_i64 f0_6⟩, ⟨fit_i64 f0_7, fit_i64 f0_8, fit_i64 f0_9⟩, ⟨fit_i64 f0_10, fit_i64 f0_11, fit_i64 f0_12⟩⟩ ⟨⟨fit_i64 f1_0, fit_i64 f1_1, fit_i64 f1_2⟩, ⟨fit_i64 f1_3, fit_i64 f1_4, fit_i64 f1_5⟩, ⟨fit_u32 f1_6, fit_u32 f1_7⟩⟩ w
  rw [LampSamples_law (b0_0, (b0_1, b0_2, b0_3), (b0_4, b0_5, b0_6), (b0_7, b0_8, b0_9), (b0_10, b0_11, b0_12)) ((b1_0, b1_1, b1_2), (b1_3, b1_4, b1_5), (b1_6, b1_7)) ⟨fit_i64 f0_0, ⟨fit_i64 f0_1, fit_i64 f0_2, fit_i64 f0_3⟩, ⟨fit_i64 f0_4, fit_i64 f0_5, fit_i64 f0_6⟩, ⟨fit_i64 f0_7, fit_i64 f0_8, fit_i64 f0_9⟩, ⟨fit_i64 f0_10, fit_i64 f0_11, fit_i64 f0_12⟩⟩ ⟨⟨fit_i64 f1_0, fit_i64 f1_1, fit_i64 f1_2⟩, ⟨fit_i64 f1_3, fit_i64 f1_4, fit_i64 f1_5⟩, ⟨fit_u32 f1_6, fit_u32 f1_7⟩⟩] at hw
  exact hw

theorem LampBehind_law (l : Int × (Int × Int × Int) × (Int × Int × Int) × (Int × Int × Int) × (Int × Int × Int)) (a : (Int × Int × Int) × (Int × Int × Int) × (Int × Int)) (n : Int × Int × Int) (h_l : (InI l.1 ∧ InV l.2.1 ∧ InV l.2.2.1 ∧ InV l.2.2.2.1 ∧ InV l.2.2.2.2)) (h_a : (InV a.1 ∧ InV a.2.1 ∧ (InU32 a.2.2.1 ∧ InU32 a.2.2.2))) (h_n : InV n) : s_umbralaw27_LampBehind l a n = true := LampBehind_true l a n h_a.2.2.1 h_a.2.2.2

theorem lawLampBehind (ns0 : List Int) (h0 : Al2 Fits [.i64, .i64, .i64, .i64, .i64, .i64, .i64, .i64, .i64, .i64, .i64, .i64, .i64] ns0) (ns1 : List Int) (h1 : Al2 Fits [.i64, .i64, .i64, .i64, .i64, .i64, .u32, .u32] ns1) (ns2 : List Int) (h2 : Al2 Fits [.i64, .i64, .i64] ns2) (w : World) : Calls Try.prog 10 #[.agg (vals [.i64, .i64, .i64, .i64, .i64, .i64, .i64, .i64, .i64, .i64, .i64, .i64, .i64] ns0).toArray, .agg (vals [.i64, .i64, .i64, .i64, .i64, .i64, .u32, .u32] ns1).toArray, .agg (vals [.i64, .i64, .i64] ns2).toArray] w (Ret (.bool true) w) := by
  obtain ⟨b0_0, l0_0, rfl, f0_0, h0⟩ := al2_cons h0
  obtain ⟨b0_1, l0_1, rfl, f0_1, h0⟩ := al2_cons h0
  obtain ⟨b0_2, l0_2, rfl, f0_2, h0⟩ := al2_cons h0
  obtain ⟨b0_3, l0_3, rfl, f0_3, h0⟩ := al2_cons h0
  obtain ⟨b0_4, l0_4, rfl, f0_4, h0⟩ := al2_cons h0
  obtain ⟨b0_5, l0_5, rfl, f0_5, h0⟩ := al2_cons h0
  obtain ⟨b0_6, l0_6, rfl, f0_6, h0⟩ := al2_cons h0
  obtain ⟨b0_7, l0_7, rfl, f0_7, h0⟩ := al2_cons h0
  obtain ⟨b0_8, l0_8, rfl, f0_8, h0⟩ := al2_cons h0
  obtain ⟨b0_9, l0_9, rfl, f0_9, h0⟩ := al2_cons h0
  obtain ⟨b0_10, l0_10, rfl, f0_10, h0⟩ := al2_cons h0
  obtain ⟨b0_11, l0_11, rfl, f0_11, h0⟩ := al2_cons h0
  obtain ⟨b0_12, l0_12, rfl, f0_12, h0⟩ := al2_cons h0
  obtain rfl := al2_nil h0
  obtain ⟨b1_0, l1_0, rfl, f1_0, h1⟩ := al2_cons h1
  obtain ⟨b1_1, l1_1, rfl, f1_1, h1⟩ := al2_cons h1
  obtain ⟨b1_2, l1_2, rfl, f1_2, h1⟩ := al2_cons h1
  obtain ⟨b1_3, l1_3, rfl, f1_3, h1⟩ := al2_cons h1
  obtain ⟨b1_4, l1_4, rfl, f1_4, h1⟩ := al2_cons h1
  obtain ⟨b1_5, l1_5, rfl, f1_5, h1⟩ := al2_cons h1
  obtain ⟨b1_6, l1_6, rfl, f1_6, h1⟩ := al2_cons h1
  obtain ⟨b1_7, l1_7, rfl, f1_7, h1⟩ := al2_cons h1
  obtain rfl := al2_nil h1
  obtain ⟨b2_0, l2_0, rfl, f2_0, h2⟩ := al2_cons h2
  obtain ⟨b2_1, l2_1, rfl, f2_1, h2⟩ := al2_cons h2
  obtain ⟨b2_2, l2_2, rfl, f2_2, h2⟩ := al2_cons h2
  obtain rfl := al2_nil h2
  have hw := w_umbralaw27_LampBehind (b0_0, (b0_1, b0_2, b0_3), (b0_4, b0_5, b0_6), (b0_7, b0_8, b0_9), (b0_10, b0_11, b0_12)) ((b1_0, b1_1, b1_2), (b1_3, b1_4, b1_5), (b1_6, b1_7)) (b2_0, b2_1, b2_2) ⟨fit_i64 f0_0, ⟨fit_i64 f0_1, fit_i64 f0_2, fit_i64 f0_3⟩, ⟨fit_i64 f0_4, fit_i64 f0_5, fit_i64 f0_6⟩, ⟨fit_i64 f0_7, fit_i64 f0_8, fit_i64 f0_9⟩, ⟨fit_i64 f0_10, fit_i64 f0_11, fit_i64 f0_12⟩⟩ ⟨⟨fit_i64 f1_0, fit_i64 f1_1, fit_i64 f1_2⟩, ⟨fit_i64 f1_3, fit_i64 f1_4, fit_i64 f1_5⟩, ⟨fit_u32 f1_6, fit_u32 f1_7⟩⟩ ⟨fit_i64 f2_0, fit_i64 f2_1, fit_i64 f2_2⟩ w
  rw [LampBehind_law (b0_0, (b0_1, b0_2, b0_3), (b0_4, b0_5, b0_6), (b0_7, b0_8, b0_9), (b0_10, b0_11, b0_12)) ((b1_0, b1_1, b1_2), (b1_3, b1_4, b1_5), (b1_6, b1_7)) (b2_0, b2_1, b2_2) ⟨fit_i64 f0_0, ⟨fit_i64 f0_1, fit_i64 f0_2, fit_i64 f0_3⟩, ⟨fit_i64 f0_4, fit_i64 f0_5, fit_i64 f0_6⟩, ⟨fit_i64 f0_7, fit_i64 f0_8, fit_i64 f0_9⟩, ⟨fit_i64 f0_10, fit_i64 f0_11, fit_i64 f0_12⟩⟩ ⟨⟨fit_i64 f1_0, fit_i64 f1_1, fit_i64 f1_2⟩, ⟨fit_i64 f1_3, fit_i64 f1_4, fit_i64 f1_5⟩, ⟨fit_u32 f1_6, fit_u32 f1_7⟩⟩ ⟨fit_i64 f2_0, fit_i64 f2_1, fit_i64 f2_2⟩] at hw
  exact hw

end Go.Proofs.Ytjhnkpapbjkbcaa
