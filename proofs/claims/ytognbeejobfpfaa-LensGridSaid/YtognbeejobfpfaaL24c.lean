/- Layer 24: LensLeft and LensGrid hold. -/
import Derived.Test.YtognbeejobfpfaaL24b
namespace Go.Proofs.Ytognbeejobfpfaa
open Go.RowKit Go.Sort
set_option linter.unusedVariables false
set_option linter.unusedSimpArgs false

theorem clampI_mono {x y : Int} (h : x ≤ y) : clampI x ≤ clampI y := by unfold clampI; repeat' split <;> omega
theorem fof_0 : fof 0 = 0 := by decide
theorem fmul_top (a : Int) : fmul (fof 16384) a = clampI (16384 * a) := by
  unfold fmul
  have : fof 16384 = 70368744177664 := by decide
  rw [this]
  congr 1
  omega
theorem plain_v (a b : Int) : (sumT [vof (0, 0, 16384), vscale (vof (16384, 0, 0)) a, vscale (vof (0, 16384, 0)) b]).1 = clampI (16384 * a) ∧ (sumT [vof (0, 0, 16384), vscale (vof (16384, 0, 0)) a, vscale (vof (0, 16384, 0)) b]).2.1 = clampI (16384 * b) := by
  rw [sumT3 (vof_I _)]
  unfold vadd vscale vmul vof
  simp only [fof_0, zero_fmul, fmul_top]
  rw [z_satAdd (clampI_I _), satAdd_z (clampI_I _), z_satAdd (a := 0) (by unfold InI; omega), z_satAdd (clampI_I _)]
  exact ⟨rfl, rfl⟩
theorem fdiv_mono {x y B : Int} (hB : 0 < B) (h : x ≤ y) : fdiv x B ≤ fdiv y B := by
  have hB0 : ¬ B = 0 := by omega
  unfold fdiv fq
  rw [if_neg hB0, if_neg hB0, if_pos hB, if_pos hB]
  exact clampI_mono (Int.ediv_le_ediv hB (by omega))
theorem plain_eq : s_umbralaw24_plain = ((0, 0, 0), (16384, 0, 0), (0, 16384, 0), (0, 0, 16384), 0, 1) := by kernel_rfl
theorem LensLeft_true (l : Int × Int × Int × Int × (Int × Int × Int × Int)) (x y : Int) (hl : InI l.1 ∧ InI l.2.1 ∧ InI l.2.2.1 ∧ InI l.2.2.2.1 ∧ (InU32 l.2.2.2.2.1 ∧ InU32 l.2.2.2.2.2.1 ∧ InU32 l.2.2.2.2.2.2.1 ∧ InU32 l.2.2.2.2.2.2.2)) (hx : InI x) (hy : InI y) : s_umbralaw24_LensLeft l x y = true := by
  obtain ⟨W, H, X, Y, d0, d1, d2, d3⟩ := l
  obtain ⟨-, -, -, -, u0, u1, u2, u3⟩ := hl
  simp only at u0 u1 u2 u3
  unfold s_umbralaw24_LensLeft
  simp only [lt, works24_true, if_true, plain_eq]
  by_cases h1 : (s_lens_Toward ((0, 0, 0), (16384, 0, 0), (0, 16384, 0), (0, 0, 16384), 0, 1) W H X Y (d0, d1)).2 = 0
  · rw [if_pos h1]
    by_cases h2 : (s_lens_Toward ((0, 0, 0), (16384, 0, 0), (0, 16384, 0), (0, 0, 16384), 0, 1) W H x y (d2, d3)).2 = 0
    · rw [if_pos h2]
      obtain ⟨a1, a2, a3⟩ := toward_no h1
      obtain ⟨b1, b2, b3⟩ := toward_no h2
      obtain ⟨-, -, hc⟩ := camE_ok a1
      unfold camOk at hc
      rw [toward_ok a1 a2 a3 ⟨u0, u1⟩, toward_ok b1 b2 b3 ⟨u2, u3⟩]
      simp only
      rw [(plain_v _ _).1, (plain_v _ _).2, (plain_v _ _).1, (plain_v _ _).2]
      unfold InU32 at u0 u1 u2 u3
      have kx : ¬ X ≥ x → clampI (16384 * fdiv ((2 * X - W) * 4294967296 + 2 * d0) (W * 4294967296)) ≤ clampI (16384 * fdiv ((2 * x - W) * 4294967296 + 2 * d2) (W * 4294967296)) := by
        intro h
        refine clampI_mono ?_
        have := fdiv_mono (B := W * 4294967296) (x := (2 * X - W) * 4294967296 + 2 * d0) (y := (2 * x - W) * 4294967296 + 2 * d2) (by omega) (by omega)
        omega
      have ky : ¬ Y ≥ y → clampI (16384 * fdiv ((H - 2 * Y) * 4294967296 - 2 * d1) (H * 4294967296)) ≥ clampI (16384 * fdiv ((H - 2 * y) * 4294967296 - 2 * d3) (H * 4294967296)) := by
        intro h
        refine clampI_mono ?_
        have := fdiv_mono (B := H * 4294967296) (x := (H - 2 * y) * 4294967296 - 2 * d3) (y := (H - 2 * Y) * 4294967296 - 2 * d1) (by omega) (by omega)
        omega
      by_cases c1 : X ≥ x
      · rw [if_pos c1]
        by_cases c2 : Y ≥ y
        · rw [if_pos c2]
        · rw [if_neg c2, if_pos (ky c2)]
      · rw [if_neg c1, if_pos (kx c1)]
        by_cases c2 : Y ≥ y
        · rw [if_pos c2]
        · rw [if_neg c2, if_pos (ky c2)]
    · rw [if_neg h2]
  · rw [if_neg h1]
theorem sQuant_eq {v : T3} (hv : InV v) : s_octa_Quant v = (P.quant v, P.quantE v) := by
  unfold s_octa_Quant s_octa_Quant_1 P.quant P.quantE
  simp only [lt, gmax_eq]
  by_cases h : vmost v = 0
  · rw [if_pos h, if_pos h, if_pos h]; rfl
  · rw [if_neg h, if_neg h, if_neg h]
    have hb := P.vmost_bd hv
    rw [(P.qmd hv.1 (show 1 ≤ vmost v by omega) hb.2.2.1).1, (P.qmd hv.2.1 (show 1 ≤ vmost v by omega) hb.2.2.2.1).1, (P.qmd hv.2.2 (show 1 ≤ vmost v by omega) hb.2.2.2.2).1]
theorem mulBd' {x y A B : Int} (hx : -A ≤ x ∧ x ≤ A) (hy : -B ≤ y ∧ y ≤ B) : -(A * B) ≤ x * y ∧ x * y ≤ A * B := by
  have h1 : x.natAbs ≤ A.toNat := by omega
  have h2 : y.natAbs ≤ B.toNat := by omega
  have h3 := Nat.mul_le_mul h1 h2
  rw [← Int.natAbs_mul] at h3
  have h4 : ((A.toNat * B.toNat : Nat) : Int) = A * B := by
    rw [Int.natCast_mul, Int.toNat_of_nonneg (by omega), Int.toNat_of_nonneg (by omega)]
  omega
theorem below_bd {x n : Int} (hx : InU32 x) (hn : 1 ≤ n ∧ n ≤ 1000000) : 0 ≤ s_stream_Below x n ∧ s_stream_Below x n < n := by
  unfold InU32 at hx
  unfold s_stream_Below
  simp only [lt, gmax_eq, gmin_eq]
  rw [show min (max n 0) 2147483648 = n by omega, wr_idU (n := x) (by unfold InU; omega), wr_idU (n := n) (by unfold InU; omega)]
  have h1 := mulBd' (x := x) (y := n) (A := 4294967295) (B := 1000000) (by omega) (by omega)
  have h0 : 0 ≤ x * n := Int.mul_nonneg hx.1 (by omega)
  rw [wr_idU (n := x * n) (by unfold InU; omega), Int.fdiv_eq_ediv_of_nonneg _ (by omega)]
  have h2 : 0 ≤ x * n / 2 ^ 32 := Int.ediv_nonneg h0 (by omega)
  have h3 : x * n / 2 ^ 32 < n := by
    rw [Int.ediv_lt_iff_lt_mul (by omega)]
    have : x * n < 2 ^ 32 * n := Int.mul_lt_mul_of_pos_right (by omega) (by omega)
    have e : n * 2 ^ 32 = 2 ^ 32 * n := Int.mul_comm _ _
    omega
  rw [wr_id (by unfold InI; omega)]
  exact ⟨h2, h3⟩
theorem shift1_eq {c : Cam} {d : Int} (hL : 0 ≤ c.2.2.2.2.1 ∧ c.2.2.2.2.1 ≤ 1024) (hd : InU32 d) : ∃ k : Int, s_lens_shift_1 c d = k * 262144 ∧ -c.2.2.2.2.1 ≤ k ∧ k ≤ c.2.2.2.2.1 := by
  unfold s_lens_shift_1
  simp only [lt]
  generalize c.2.2.2.2.1 = L at *
  rw [wr_id (n := 2 * L) (by unfold InI; omega), wr_id (n := 2 * L + 1) (by unfold InI; omega)]
  obtain ⟨b1, b2⟩ := below_bd (n := 2 * L + 1) hd (by omega)
  generalize s_stream_Below d (2 * L + 1) = B at *
  rw [wr_id (n := B - L) (by unfold InI; omega)]
  refine ⟨B - L, ?_, by omega, by omega⟩
  rw [fof_small (by omega)]
  have : fof 16384 = 70368744177664 := by decide
  rw [this]
  unfold fdiv fq
  rw [if_neg (by omega), if_pos (by omega), clampI_in (by unfold InI; omega)]
  omega
theorem scale_eq {r k L : Int} (hr : -16384 ≤ r ∧ r ≤ 16384) (hk : -L ≤ k ∧ k ≤ L) (hL : 0 ≤ L ∧ L ≤ 1024) : fmul (fof r) (k * 262144) = r * k * 262144 ∧ (-(16384 * L) ≤ r * k ∧ r * k ≤ 16384 * L) := by
  have h := mulBd' (x := r) (y := k) (A := 16384) (B := L) hr hk
  refine ⟨?_, h⟩
  rw [fof_small (by omega)]
  unfold fmul
  have e : r * 4294967296 * (k * 262144) = r * k * 262144 * 4294967296 := by grind
  rw [e, Int.mul_ediv_cancel _ (by omega), clampI_in (by unfold InI; omega)]
theorem round_bd {x M : Int} (h : -(M * 4294967296) ≤ x ∧ x ≤ M * 4294967296) : -M ≤ fround x ∧ fround x ≤ M := by unfold fround; omega
theorem mayB_iff {p : T3} : mayB p = true ↔ ¬ (p.1 = 0 ∧ p.2.1 = 0 ∧ p.2.2 = 0) ∧ ((-16384 ≤ p.1 ∧ p.1 ≤ 16384) ∧ (-16384 ≤ p.2.1 ∧ p.2.1 ≤ 16384) ∧ (-16384 ≤ p.2.2 ∧ p.2.2 ≤ 16384)) := by unfold mayB; simp only [Bool.and_eq_true, decide_eq_true_eq]
theorem shift_one {r u k1 k2 L : Int} (hr : -16384 ≤ r ∧ r ≤ 16384) (hu : -16384 ≤ u ∧ u ≤ 16384) (h1 : -L ≤ k1 ∧ k1 ≤ L) (h2 : -L ≤ k2 ∧ k2 ≤ L) (hL : 0 ≤ L ∧ L ≤ 1024) : -(2 * L) ≤ fround (satAdd (fmul (fof r) (k1 * 262144)) (fmul (fof u) (k2 * 262144))) ∧ fround (satAdd (fmul (fof r) (k1 * 262144)) (fmul (fof u) (k2 * 262144))) ≤ 2 * L := by
  obtain ⟨e1, b1⟩ := scale_eq hr h1 hL
  obtain ⟨e2, b2⟩ := scale_eq hu h2 hL
  rw [e1, e2]
  generalize r * k1 = p at *
  generalize u * k2 = q at *
  unfold satAdd
  rw [clampI_in (by unfold InI; omega)]
  exact round_bd (M := 2 * L) (by omega)
theorem shift_bd {c : Cam} {d : Int × Int × Int × Int} (hL : 0 ≤ c.2.2.2.2.1 ∧ c.2.2.2.2.1 ≤ 1024) (hr : mayB c.2.1 = true) (hu : mayB c.2.2.1 = true) (hd : InU32 d.2.2.1 ∧ InU32 d.2.2.2) :
    (-(2 * c.2.2.2.2.1) ≤ (s_lens_shift c d).1 ∧ (s_lens_shift c d).1 ≤ 2 * c.2.2.2.2.1) ∧ (-(2 * c.2.2.2.2.1) ≤ (s_lens_shift c d).2.1 ∧ (s_lens_shift c d).2.1 ≤ 2 * c.2.2.2.2.1) ∧ (-(2 * c.2.2.2.2.1) ≤ (s_lens_shift c d).2.2 ∧ (s_lens_shift c d).2.2 ≤ 2 * c.2.2.2.2.1) := by
  obtain ⟨k1, e1, a1⟩ := shift1_eq hL hd.1
  obtain ⟨k2, e2, a2⟩ := shift1_eq hL hd.2
  obtain ⟨-, r1, r2, r3⟩ := mayB_iff.1 hr
  obtain ⟨-, u1, u2, u3⟩ := mayB_iff.1 hu
  unfold s_lens_shift
  simp only [lt, e1, e2]
  rw [sumT2 (vscale_I _ _)]
  unfold vadd vscale vmul vof
  simp only
  exact ⟨shift_one r1 u1 a1 a2 hL, shift_one r2 u2 a1 a2 hL, shift_one r3 u3 a1 a2 hL⟩
theorem sWithin_eq' (p : T3) (m : Int) (h : 0 ≤ m ∧ m ≤ 1048576) : s_tri_within p m = decide ((-m ≤ p.1 ∧ p.1 ≤ m) ∧ (-m ≤ p.2.1 ∧ p.2.1 ≤ m) ∧ (-m ≤ p.2.2 ∧ p.2.2 ≤ m)) := by
  have e : wrap64 (0 - m) = -m := by unfold wrap64; omega
  simp only [s_tri_within, lt, wrI, e, gmax_eq, gmin_eq]
  rw [Bool.eq_iff_iff]
  simp only [decide_eq_true_eq]
  split
  · split <;> simp <;> omega
  · simp; omega
theorem may_ok {o d : T3} (ho : (-65536 ≤ o.1 ∧ o.1 ≤ 65536) ∧ (-65536 ≤ o.2.1 ∧ o.2.1 ≤ 65536) ∧ (-65536 ≤ o.2.2 ∧ o.2.2 ≤ 65536)) (hd : mayB d = true) : s_tri_May o d = true := by
  obtain ⟨z, d1, d2, d3⟩ := mayB_iff.1 hd
  unfold s_tri_May
  simp only [lt]
  rw [sWithin_eq' o _ (by omega), sWithin_eq' d _ (by omega), decide_eq_true ho, decide_eq_true (show _ from by omega)]
  simp [Prod.ext_iff]
  omega
/-- What a ray is: none, or one that begins near the eye. -/
theorem ray_cases (c : Cam) (W H X Y : Int) (dr : Int × Int × Int × Int) (hc : InV c.1 ∧ InV c.2.1 ∧ InV c.2.2.1 ∧ InV c.2.2.2.1 ∧ InI c.2.2.2.2.1 ∧ InI c.2.2.2.2.2) (hd : InU32 dr.1 ∧ InU32 dr.2.1 ∧ InU32 dr.2.2.1 ∧ InU32 dr.2.2.2) :
    (∃ e, e ≠ 0 ∧ s_lens_Ray c W H X Y dr = ((0, 0, 0), (0, 0, 0), e)) ∨
    (∃ s d : T3, mayB d = true ∧ (0 ≤ c.2.2.2.2.1 ∧ c.2.2.2.2.1 ≤ 1024) ∧ ((-32768 ≤ c.1.1 ∧ c.1.1 ≤ 32768) ∧ (-32768 ≤ c.1.2.1 ∧ c.1.2.1 ≤ 32768) ∧ (-32768 ≤ c.1.2.2 ∧ c.1.2.2 ≤ 32768)) ∧
      ((-(2 * c.2.2.2.2.1) ≤ s.1 ∧ s.1 ≤ 2 * c.2.2.2.2.1) ∧ (-(2 * c.2.2.2.2.1) ≤ s.2.1 ∧ s.2.1 ≤ 2 * c.2.2.2.2.1) ∧ (-(2 * c.2.2.2.2.1) ≤ s.2.2 ∧ s.2.2 ≤ 2 * c.2.2.2.2.1)) ∧
      s_lens_Ray c W H X Y dr = ((c.1.1 + s.1, c.1.2.1 + s.2.1, c.1.2.2 + s.2.2), d, 0)) := by
  unfold s_lens_Ray
  simp only [lt]
  by_cases h1 : (s_lens_Toward c W H X Y (dr.1, dr.2.1)).2 = 0
  · rw [if_pos h1]
    obtain ⟨a1, a2, a3⟩ := toward_no h1
    obtain ⟨he, ⟨m1, m2, m3⟩, hk⟩ := camE_ok a1
    unfold camOk at hk
    have hL := hk.1
    have hv : InV (s_lens_Toward c W H X Y (dr.1, dr.2.1)).1 := by
      rw [toward_ok a1 a2 a3 ⟨hd.1, hd.2.1⟩]
      exact sumT_I _
    by_cases hp : c.2.2.2.2.1 > 0
    · rw [if_pos hp]
      have hsb := shift_bd (c := c) (d := dr) hL m1 m2 ⟨hd.2.2.1, hd.2.2.2⟩
      generalize s_lens_shift c dr = s at *
      rw [sQuant_eq (vsub_I _ _)]
      have hvv : InV (vsub (vscale (s_lens_Toward c W H X Y (dr.1, dr.2.1)).1 (fdiv (fof c.2.2.2.2.2) (fof 16384))) (vof s)) := vsub_I _ _
      generalize vsub (vscale (s_lens_Toward c W H X Y (dr.1, dr.2.1)).1 (fdiv (fof c.2.2.2.2.2) (fof 16384))) (vof s) = v at *
      by_cases hq : vmost v = 0
      · left
        refine ⟨2, by omega, ?_⟩
        unfold P.quantE
        rw [if_pos hq]
        simp
      · right
        refine ⟨s, P.quant v, P.quant_may hvv hq, hL, he, hsb, ?_⟩
        unfold P.quantE
        rw [if_neg hq]
        simp only [if_true]
        rw [wr_id (by unfold InI; omega), wr_id (by unfold InI; omega), wr_id (by unfold InI; omega)]
    · rw [if_neg hp, sQuant_eq hv]
      by_cases hq : vmost (s_lens_Toward c W H X Y (dr.1, dr.2.1)).1 = 0
      · left
        refine ⟨2, by omega, ?_⟩
        unfold P.quantE
        rw [if_pos hq]
        simp
      · right
        refine ⟨(0, 0, 0), P.quant (s_lens_Toward c W H X Y (dr.1, dr.2.1)).1, P.quant_may hv hq, hL, he, by simp only; omega, ?_⟩
        unfold P.quantE
        rw [if_neg hq]
        simp only [if_true, Int.add_zero]
  · rw [if_neg h1]
    exact .inl ⟨_, h1, rfl⟩
theorem LensGrid_true (c : Cam) (l : Int × Int × Int × Int × (Int × Int × Int × Int)) (hc : InV c.1 ∧ InV c.2.1 ∧ InV c.2.2.1 ∧ InV c.2.2.2.1 ∧ InI c.2.2.2.2.1 ∧ InI c.2.2.2.2.2) (hl : InI l.1 ∧ InI l.2.1 ∧ InI l.2.2.1 ∧ InI l.2.2.2.1 ∧ (InU32 l.2.2.2.2.1 ∧ InU32 l.2.2.2.2.2.1 ∧ InU32 l.2.2.2.2.2.2.1 ∧ InU32 l.2.2.2.2.2.2.2)) : s_umbralaw24_LensGrid c l = true := by
  unfold s_umbralaw24_LensGrid
  simp only [lt, works24_true, if_true, sOMay_eq]
  have hr := ray_cases c l.1 l.2.1 l.2.2.1 l.2.2.2.1 l.2.2.2.2 hc hl.2.2.2.2
  generalize s_lens_Ray c l.1 l.2.1 l.2.2.1 l.2.2.2.1 l.2.2.2.2 = ray at *
  rcases hr with ⟨e, he, rfl⟩ | ⟨s, d, hd, hL, he, hs, rfl⟩
  · simp only
    rw [if_neg he]
    simp
  · simp only [if_true]
    have eL1 : IntKind.i64.wrap (2 * c.2.2.2.2.1) = 2 * c.2.2.2.2.1 := wr_id (by unfold InI; omega)
    have eL2 : IntKind.i64.wrap (2 * c.2.2.2.2.1 + 1) = 2 * c.2.2.2.2.1 + 1 := wr_id (by unfold InI; omega)
    rw [eL1, eL2]
    have es : s_tri_Sub (c.1.1 + s.1, c.1.2.1 + s.2.1, c.1.2.2 + s.2.2) c.1 = s := by
      unfold s_tri_Sub
      simp only [lt]
      rw [wr_id (by unfold InI; omega), wr_id (by unfold InI; omega), wr_id (by unfold InI; omega)]
      ext <;> simp only <;> omega
    rw [es, may_ok (o := (c.1.1 + s.1, c.1.2.1 + s.2.1, c.1.2.2 + s.2.2)) (by simp only; omega) hd, hd]
    have em : ¬ gmax (gmax (gmax (gmax (gmax s.1 s.2.1) s.2.2) (IntKind.i64.wrap (0 - s.1))) (IntKind.i64.wrap (0 - s.2.1))) (IntKind.i64.wrap (0 - s.2.2)) > 2 * c.2.2.2.2.1 + 1 := by
      rw [wr_id (by unfold InI; omega), wr_id (by unfold InI; omega), wr_id (by unfold InI; omega)]
      simp only [gmax_eq]
      omega
    rw [if_neg em]
    simp only [if_true]
    by_cases h0 : c.2.2.2.2.1 = 0
    · have : s = (0, 0, 0) := by ext <;> simp only <;> omega
      rw [if_pos h0, if_pos this]
    · rw [if_neg h0]

end Go.Proofs.Ytognbeejobfpfaa
