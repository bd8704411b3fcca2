/- Layer 24: the laws hold. -/
import Derived.Test.YtognbeejobfpfaaL24
import Derived.Test.YtognbeejobfpfaaOctaP
namespace Go.Proofs.Ytognbeejobfpfaa
open Go.RowKit Go.Sort
set_option linter.unusedVariables false
set_option linter.unusedSimpArgs false

abbrev Cam : Type := T3 × T3 × T3 × T3 × Int × Int
theorem works24_true : s_umbralaw24_works = true := by kernel_rfl
theorem sOMay_eq (p : T3) : s_octa_May p = mayB p := by
  rw [Bool.eq_iff_iff]
  unfold s_octa_May mayB
  simp only [lt, gmax_eq, gmin_eq, Bool.and_eq_true, decide_eq_true_eq]
  by_cases h : (p : Int × Int × Int) = (0, 0, 0)
  · rw [if_pos h]
    simp [Prod.ext_iff] at h
    simp [h]
  · rw [if_neg h]
    have h' : ¬ (p.1 = 0 ∧ p.2.1 = 0 ∧ p.2.2 = 0) := fun ⟨h1, h2, h3⟩ => h (by ext <;> assumption)
    simp only [h', not_false_eq_true, true_and]
    split
    · split
      · simp only [true_iff]; omega
      · simp only [Bool.false_eq_true, false_iff]; omega
    · simp only [Bool.false_eq_true, false_iff]; omega
theorem sRMay_eq (p : T3) : s_umbraref05_May p = mayB p := by
  rw [Bool.eq_iff_iff]
  unfold s_umbraref05_May mayB
  simp only [lt, Bool.and_eq_true, decide_eq_true_eq]
  repeat' split
  all_goals first
    | (simp only [true_iff]; omega)
    | (simp only [Bool.false_eq_true, false_iff]; omega)
theorem sOff_eq (p : T3) (m : Int) (h : 0 ≤ m ∧ m ≤ 1048576) : s_umbraref13_Off p m = decide (max (max p.1 p.2.1) p.2.2 > m ∨ min (min p.1 p.2.1) p.2.2 < -m) := by
  have e : wrap64 (0 - m) = -m := by unfold wrap64; omega
  rw [Bool.eq_iff_iff]
  unfold s_umbraref13_Off
  simp only [lt, wrI, e, decide_eq_true_eq]
  repeat' split
  all_goals first
    | (simp only [true_iff]; omega)
    | (simp only [Bool.false_eq_true, false_iff]; omega)
theorem sBetween_eq (n lo hi : Int) : s_lens_Check_1 n lo hi = decide (lo ≤ n ∧ n ≤ hi) := by
  rw [Bool.eq_iff_iff]
  unfold s_lens_Check_1
  simp only [lt, decide_eq_true_eq]
  repeat' split
  all_goals first
    | (simp only [true_iff]; omega)
    | (simp only [Bool.false_eq_true, false_iff]; omega)
/-- A camera that may be, for an image that may be. -/
def camOk (c : Cam) (w h : Int) : Prop := (0 ≤ c.2.2.2.2.1 ∧ c.2.2.2.2.1 ≤ 1024) ∧ (1 ≤ c.2.2.2.2.2 ∧ c.2.2.2.2.2 ≤ 32768) ∧ (1 ≤ w ∧ w ≤ 64) ∧ (1 ≤ h ∧ h ≤ 64)
instance (c : Cam) (w h : Int) : Decidable (camOk c w h) := by unfold camOk; exact inferInstance
def camE (c : Cam) (w h : Int) : Int := if max (max c.1.1 c.1.2.1) c.1.2.2 > 32768 ∨ min (min c.1.1 c.1.2.1) c.1.2.2 < -32768 then 8 else if mayB c.2.1 && mayB c.2.2.1 && mayB c.2.2.2.1 then (if camOk c w h then 0 else 2) else 2
theorem sCheck_eq (c : Cam) (w h : Int) : s_lens_Check c w h = camE c w h := by
  unfold s_lens_Check camE
  simp only [lt, gmax_eq, gmin_eq, sOMay_eq, sBetween_eq]
  generalize max (max c.1.1 c.1.2.1) c.1.2.2 = mx
  generalize min (min c.1.1 c.1.2.1) c.1.2.2 = mn
  by_cases h1 : mx > 32768
  · rw [if_pos h1, if_pos (.inl h1)]
  · by_cases h2 : mn < -32768
    · rw [if_neg h1, if_pos h2, if_pos (.inr h2)]
    · have h3 : ¬ (mx > 32768 ∨ mn < -32768) := by omega
      rw [if_neg h1, if_neg h2, if_neg h3]
      have hk' : camOk c w h ↔ (0 ≤ c.2.2.2.2.1 ∧ c.2.2.2.2.1 ≤ 1024) ∧ (1 ≤ c.2.2.2.2.2 ∧ c.2.2.2.2.2 ≤ 32768) ∧ (1 ≤ w ∧ w ≤ 64) ∧ (1 ≤ h ∧ h ≤ 64) := Iff.rfl
      generalize mayB c.2.1 = b1
      generalize mayB c.2.2.1 = b2
      generalize mayB c.2.2.2.1 = b3
      generalize c.2.2.2.2.1 = L at *
      generalize c.2.2.2.2.2 = F at *
      cases b1 <;> cases b2 <;> cases b3 <;> simp only [Bool.false_eq_true, if_false, if_true, Bool.and_true, Bool.and_false, Bool.and_self, decide_eq_true_eq]
      by_cases hk : camOk c w h
      · rw [if_pos hk]
        rw [hk'] at hk
        rw [if_pos hk.1, if_pos hk.2.1, if_pos hk.2.2.1, if_pos hk.2.2.2]
      · rw [if_neg hk]
        rw [hk'] at hk
        repeat' split
        all_goals first | rfl | (exfalso; omega)
theorem sRCheck_eq (c : Cam) (w h : Int) : s_umbraref24_Check c w h = camE c w h := by
  unfold s_umbraref24_Check camE
  simp only [lt, sRMay_eq, sOff_eq _ _ (show (0 : Int) ≤ 32768 ∧ (32768 : Int) ≤ 1048576 by omega), decide_eq_true_eq]
  generalize max (max c.1.1 c.1.2.1) c.1.2.2 = mx
  generalize min (min c.1.1 c.1.2.1) c.1.2.2 = mn
  by_cases h1 : mx > 32768 ∨ mn < -32768
  · rw [if_pos h1, if_pos h1]
  · rw [if_neg h1, if_neg h1]
    have hk' : camOk c w h ↔ (0 ≤ c.2.2.2.2.1 ∧ c.2.2.2.2.1 ≤ 1024) ∧ (1 ≤ c.2.2.2.2.2 ∧ c.2.2.2.2.2 ≤ 32768) ∧ (1 ≤ w ∧ w ≤ 64) ∧ (1 ≤ h ∧ h ≤ 64) := Iff.rfl
    generalize mayB c.2.1 = b1
    generalize mayB c.2.2.1 = b2
    generalize mayB c.2.2.2.1 = b3
    generalize c.2.2.2.2.1 = L at *
    generalize c.2.2.2.2.2 = F at *
    cases b1 <;> cases b2 <;> cases b3 <;> simp only [Bool.false_eq_true, if_false, if_true, Bool.and_true, Bool.and_false, Bool.and_self]
    by_cases hk : camOk c w h
    · rw [if_pos hk]
      rw [hk'] at hk
      rw [if_neg (by omega), if_neg (by omega), if_neg (by omega), if_neg (by omega), if_neg (by omega), if_neg (by omega), if_neg (by omega), if_neg (by omega)]
    · rw [if_neg hk]
      rw [hk'] at hk
      repeat' split
      all_goals first | rfl | (exfalso; omega)
theorem LensChecks_true (c : Cam) (w h : Int) : s_umbralaw24_LensChecks c w h = true := by
  unfold s_umbralaw24_LensChecks
  simp only [lt, works24_true, sCheck_eq, sRCheck_eq, if_true]
theorem camE_ok {c : Cam} {w h : Int} (he : camE c w h = 0) : ((-32768 ≤ c.1.1 ∧ c.1.1 ≤ 32768) ∧ (-32768 ≤ c.1.2.1 ∧ c.1.2.1 ≤ 32768) ∧ (-32768 ≤ c.1.2.2 ∧ c.1.2.2 ≤ 32768)) ∧ (mayB c.2.1 = true ∧ mayB c.2.2.1 = true ∧ mayB c.2.2.2.1 = true) ∧ camOk c w h := by
  unfold camE at he
  split at he
  · cases he
  · split at he
    · rename_i h1 h2
      simp only [Bool.and_eq_true] at h2
      split at he
      · rename_i h3
        exact ⟨by omega, ⟨h2.1.1, h2.1.2, h2.2⟩, h3⟩
      · cases he
    · cases he
theorem clampI_zero : clampI 0 = 0 := by decide
theorem fmul_zero (a : Int) : fmul a 0 = 0 := by unfold fmul; rw [Int.mul_zero]; decide
theorem zero_fmul (a : Int) : fmul 0 a = 0 := by unfold fmul; rw [Int.zero_mul]; decide
theorem vscale_zero (v : T3) : vscale v 0 = (0, 0, 0) := by unfold vscale vmul; simp only [fmul_zero]
theorem satAdd_z {a : Int} (h : InI a) : satAdd a 0 = a := by unfold satAdd; rw [Int.add_zero, clampI_in h]
theorem z_satAdd {a : Int} (h : InI a) : satAdd 0 a = a := by unfold satAdd; rw [Int.zero_add, clampI_in h]
theorem sumT_first {v : T3} (h : InV v) : sumT [v, (0, 0, 0), (0, 0, 0)] = v := by
  rw [sumT3 h]
  unfold vadd
  simp only
  rw [satAdd_z h.1, satAdd_z h.2.1, satAdd_z h.2.2, satAdd_z h.1, satAdd_z h.2.1, satAdd_z h.2.2]
theorem fof_small {n : Int} (h : -1000000 ≤ n ∧ n ≤ 1000000) : fof n = n * 4294967296 := by unfold fof; rw [clampI_in (by unfold InI; omega)]
theorem fdiv_zero {b : Int} (h : b ≠ 0) : fdiv 0 b = 0 := by unfold fdiv; rw [if_neg h]; unfold fq; simp [clampI_zero]
/-- Where a pixel looks, when it may. -/
theorem toward_ok {c : Cam} {w h x y : Int} {d : Int × Int} (he : camE c w h = 0) (hx : 0 ≤ x ∧ x < w) (hy : 0 ≤ y ∧ y < h) (hd : InU32 d.1 ∧ InU32 d.2) : s_lens_Toward c w h x y d =
    (sumT [vof c.2.2.2.1, vscale (vof c.2.1) (fdiv ((2 * x - w) * 4294967296 + 2 * d.1) (w * 4294967296)), vscale (vof c.2.2.1) (fdiv ((h - 2 * y) * 4294967296 - 2 * d.2) (h * 4294967296))], 0) := by
  obtain ⟨-, -, hc⟩ := camE_ok he
  unfold camOk at hc
  unfold InU32 at hd
  unfold s_lens_Toward s_stream_Unit
  simp only [lt, sCheck_eq, he, if_true]
  rw [if_neg (by omega), if_neg (by omega), if_neg (by omega), if_neg (by omega)]
  rw [wr_id (n := 2 * x) (by unfold InI; omega), wr_id (n := 2 * x - w) (by unfold InI; omega), wr_id (n := d.1) (by unfold InI; omega), wr_id (n := d.2) (by unfold InI; omega), wr_id (n := 2 * d.1) (by unfold InI; omega), wr_id (n := 2 * d.2) (by unfold InI; omega), wr_id (n := 2 * y) (by unfold InI; omega), wr_id (n := h - 2 * y) (by unfold InI; omega)]
  rw [fof_small (n := 2 * x - w) (by omega), fof_small (n := h - 2 * y) (by omega), fof_small (n := w) (by omega), fof_small (n := h) (by omega)]
  have e1 : sumF [(2 * x - w) * 4294967296, 2 * d.1] = (2 * x - w) * 4294967296 + 2 * d.1 := by
    show satAdd (satAdd 0 _) _ = _
    rw [z_satAdd (by unfold InI; omega)]
    unfold satAdd
    rw [clampI_in (by unfold InI; omega)]
  have e2 : satSub ((h - 2 * y) * 4294967296) (2 * d.2) = (h - 2 * y) * 4294967296 - 2 * d.2 := by
    unfold satSub
    rw [clampI_in (by unfold InI; omega)]
  rw [e1, e2]
/-- .. and when it may not. -/
theorem toward_no {c : Cam} {w h x y : Int} {d : Int × Int} (he : (s_lens_Toward c w h x y d).2 = 0) : camE c w h = 0 ∧ (0 ≤ x ∧ x < w) ∧ (0 ≤ y ∧ y < h) := by
  unfold s_lens_Toward at he
  simp only [lt, sCheck_eq] at he
  by_cases h0 : camE c w h = 0
  · rw [if_pos h0] at he
    refine ⟨h0, ?_⟩
    by_cases a1 : x < 0
    · rw [if_pos a1] at he; cases he
    rw [if_neg a1] at he
    by_cases a2 : x ≥ w
    · rw [if_pos a2] at he; cases he
    rw [if_neg a2] at he
    by_cases a3 : y < 0
    · rw [if_pos a3] at he; cases he
    rw [if_neg a3] at he
    by_cases a4 : y ≥ h
    · rw [if_pos a4] at he; cases he
    omega
  · rw [if_neg h0] at he
    exact absurd he h0
theorem tmod_pos {a b : Int} (h : 0 ≤ a) : Int.tmod a b = a % b := Int.tmod_eq_emod_of_nonneg h
theorem tdiv_pos {a b : Int} (h : 0 ≤ a) : Int.tdiv a b = a / b := Int.tdiv_eq_ediv_of_nonneg h
theorem LensMiddle_true (c : Cam) (w h : Int) (hc : InV c.1 ∧ InV c.2.1 ∧ InV c.2.2.1 ∧ InV c.2.2.2.1 ∧ InI c.2.2.2.2.1 ∧ InI c.2.2.2.2.2) (hw : InU8 w) (hh : InU8 h) : s_umbralaw24_LensMiddle c w h = true := by
  unfold InU8 at hw hh
  unfold s_umbralaw24_LensMiddle
  simp only [lt, works24_true, if_true]
  rw [tmod_pos (a := w) (by omega), tmod_pos (a := h) (by omega)]
  rw [wr_id (n := w % 64) (by unfold InI; omega), wr_id (n := h % 64) (by unfold InI; omega), wr_id (n := w % 64 + 1) (by unfold InI; omega), wr_id (n := h % 64 + 1) (by unfold InI; omega)]
  have hN : 1 ≤ w % 64 + 1 ∧ w % 64 + 1 ≤ 64 := by omega
  have hM : 1 ≤ h % 64 + 1 ∧ h % 64 + 1 ≤ 64 := by omega
  generalize w % 64 + 1 = N at *
  generalize h % 64 + 1 = M at *
  rw [tdiv_pos (a := N) (by omega), tdiv_pos (a := M) (by omega), tmod_pos (a := N) (by omega), tmod_pos (a := M) (by omega)]
  rw [wr_id (n := N / 2) (by unfold InI; omega), wr_id (n := M / 2) (by unfold InI; omega), wrU32, wrU32, wrU32, wrU32]
  by_cases he : camE c N M = 0
  · have hx : 0 ≤ N / 2 ∧ N / 2 < N := by omega
    have hy : 0 ≤ M / 2 ∧ M / 2 < M := by omega
    have hd : InU32 (N % 2 % 4294967296 * 2 ^ 31 % 4294967296, M % 2 % 4294967296 * 2 ^ 31 % 4294967296).1 ∧ InU32 (N % 2 % 4294967296 * 2 ^ 31 % 4294967296, M % 2 % 4294967296 * 2 ^ 31 % 4294967296).2 := by unfold InU32; simp only; omega
    rw [toward_ok he hx hy hd]
    simp only [if_true]
    have z1 : (2 * (N / 2) - N) * 4294967296 + 2 * (N % 2 % 4294967296 * 2 ^ 31 % 4294967296) = 0 := by omega
    have z2 : (M - 2 * (M / 2)) * 4294967296 - 2 * (M % 2 % 4294967296 * 2 ^ 31 % 4294967296) = 0 := by omega
    rw [z1, z2, fdiv_zero (by omega), fdiv_zero (by omega), vscale_zero, vscale_zero, sumT_first (vof_I _), if_pos rfl]
  · have e : (s_lens_Toward c N M (N / 2) (M / 2) (N % 2 % 4294967296 * 2 ^ 31 % 4294967296, M % 2 % 4294967296 * 2 ^ 31 % 4294967296)).2 = camE c N M := by
      unfold s_lens_Toward
      simp only [lt, sCheck_eq]
      rw [if_neg he]
    rw [e, if_neg he, sCheck_eq, if_pos rfl]

end Go.Proofs.Ytognbeejobfpfaa
