/- Layer 24: the laws as their frames ask for them. -/
import Derived.Test.YtognbeejobfpfaaL24c
import Derived.Test.YtognbeejobfpfaaGoF
namespace Go.Proofs.Ytognbeejobfpfaa
open Go.RowKit Go.Sort
set_option linter.unusedVariables false
set_option linter.unusedSimpArgs false

theorem lawLensChecks (ns0 : List Int) (h0 : Al2 Fits [.i64, .i64, .i64, .i64, .i64, .i64, .i64, .i64, .i64, .i64, .i64, .i64, .i64, .i64] ns0) (a1 : Int) (h1 : Fits .i64 a1) (a2 : Int) (h2 : Fits .i64 a2) (w : World) : Calls Try.prog 9 #[.agg (vals [.i64, .i64, .i64, .i64, .i64, .i64, .i64, .i64, .i64, .i64, .i64, .i64, .i64, .i64] ns0).toArray, .int .i64 a1, .int .i64 a2] w (Ret (.bool true) w) := by
  obtain ⟨b0_0, l0_0, rfl, f0_0, h0⟩ := al2_cons h0
  obtain ⟨b0_1, l0_1, rfl, f0_1, h0⟩ := al2_cons h0
  obtain ⟨b0_2, l0_2, rfl, f0_2, h0⟩ := al2_cons h0
  obtain ⟨b0_3, l0_3, rfl, f0_3, h0⟩ := al2_cons h0
  obtain ⟨b0_4, l0_4, rfl, f0_4, h0⟩ := al2_cons h0
  obtain ⟨b0_5, l0_5, rfl, f0_5, h0⟩ := al2_cons h0
  obtain ⟨b0_6, l0_6, rfl, f0_6, h0⟩ := al2_cons h0
  obtain ⟨b0_7, l0_7, rfl, f0_7, h0⟩ := al2_cons h0
  obtain ⟨b0_8, l0_8, rfl, f0_8, h0⟩ := al2_cons h0
  obtain ⟨b0_9, l0_9, rfl, f0_9, h0⟩ := al2_cons h0
  obtain ⟨b0_10, l0_10, rfl, f0_10, h0⟩ := al2_cons h0
  obtain ⟨b0_11, l0_11, rfl, f0_11, h0⟩ := al2_cons h0
  obtain ⟨b0_12, l0_12, rfl, f0_12, h0⟩ := al2_cons h0
  obtain ⟨b0_13, l0_13, rfl, f0_13, h0⟩ := al2_cons h0
  obtain rfl := al2_nil h0
  have hw := w_umbralaw24_LensChecks ((b0_0, b0_1, b0_2), (b0_3, b0_4, b0_5), (b0_6, b0_7, b0_8), (b0_9, b0_10, b0_11), b0_12, b0_13) a1 a2 ⟨⟨fit_i64 f0_0, fit_i64 f0_1, fit_i64 f0_2⟩, ⟨fit_i64 f0_3, fit_i64 f0_4, fit_i64 f0_5⟩, ⟨fit_i64 f0_6, fit_i64 f0_7, fit_i64 f0_8⟩, ⟨fit_i64 f0_9, fit_i64 f0_10, fit_i64 f0_11⟩, fit_i64 f0_12, fit_i64 f0_13⟩ (fit_i64 h1) (fit_i64 h2) w
  rw [LensChecks_true ((b0_0, b0_1, b0_2), (b0_3, b0_4, b0_5), (b0_6, b0_7, b0_8), (b0_9, b0_10, b0_11), b0_12, b0_13) a1 a2] at hw
  exact hw

theorem lawLensMiddle (ns0 : List Int) (h0 : Al2 Fits [.i64, .i64, .i64, .i64, .i64, .i64, .i64, .i64, .i64, .i64, .i64, .i64, .i64, .i64] ns0) (a1 : Int) (h1 : Fits .u8 a1) (a2 : Int) (h2 : Fits .u8 a2) (w : World) : Calls Try.prog 10 #[.agg (vals [.i64, .i64, .i64, .i64, .i64, .i64, .i64, .i64, .i64, .i64, .i64, .i64, .i64, .i64] ns0).toArray, .int .u8 a1, .int .u8 a2] w (Ret (.bool true) w) := by
  obtain ⟨b0_0, l0_0, rfl, f0_0, h0⟩ := al2_cons h0
  obtain ⟨b0_1, l0_1, rfl, f0_1, h0⟩ := al2_cons h0
  obtain ⟨b0_2, l0_2, rfl, f0_2, h0⟩ := al2_cons h0
  obtain ⟨b0_3, l0_3, rfl, f0_3, h0⟩ := al2_cons h0
  obtain ⟨b0_4, l0_4, rfl, f0_4, h0⟩ := al2_cons h0
  obtain ⟨b0_5, l0_5, rfl, f0_5, h0⟩ := al2_cons h0
  obtain ⟨b0_6, l0_6, rfl, f0_6, h0⟩ := al2_cons h0
  obtain ⟨b0_7, l0_7, rfl, f0_7, h0⟩ := al2_cons h0
  obtain ⟨b0_8, l0_8, rfl, f0_8, h0⟩ := al2_cons h0
  obtain ⟨b0_9, l0_9, rfl, f0_9, h0⟩ := al2_cons h0
  obtain ⟨b0_10, l0_10, rfl, f0_10, h0⟩ := al2_cons h0
  obtain ⟨b0_11, l0_11, rfl, f0_11, h0⟩ := al2_cons h0
  obtain ⟨b0_12, l0_12, rfl, f0_12, h0⟩ := al2_cons h0
  obtain ⟨b0_13, l0_13, rfl, f0_13, h0⟩ := al2_cons h0
  obtain rfl := al2_nil h0
  have hw := w_umbralaw24_LensMiddle ((b0_0, b0_1, b0_2), (b0_3, b0_4, b0_5), (b0_6, b0_7, b0_8), (b0_9, b0_10, b0_11), b0_12, b0_13) a1 a2 ⟨⟨fit_i64 f0_0, fit_i64 f0_1, fit_i64 f0_2⟩, ⟨fit_i64 f0_3, fit_i64 f0_4, fit_i64 f0_5⟩, ⟨fit_i64 f0_6, fit_i64 f0_7, fit_i64 f0_8⟩, ⟨fit_i64 f0_9, fit_i64 f0_10, fit_i64 f0_11⟩, fit_i64 f0_12, fit_i64 f0_13⟩ (fit_u8 h1) (fit_u8 h2) w
  rw [LensMiddle_true ((b0_0, b0_1, b0_2), (b0_3, b0_4, b0_5), (b0_6, b0_7, b0_8), (b0_9, b0_10, b0_11), b0_12, b0_13) a1 a2 ⟨⟨fit_i64 f0_0, fit_i64 f0_1, fit_i64 f0_2⟩, ⟨fit_i64 f0_3, fit_i64 f0_4, fit_i64 f0_5⟩, ⟨fit_i64 f0_6, fit_i64 f0_7, fit_i64 f0_8⟩, ⟨fit_i64 f0_9, fit_i64 f0_10, fit_i64 f0_11⟩, fit_i64 f0_12, fit_i64 f0_13⟩ (fit_u8 h1) (fit_u8 h2)] at hw
  exact hw

theorem lawLensLeft (ns0 : List Int) (h0 : Al2 Fits [.i64, .i64, .i64, .i64, .u32, .u32, .u32, .u32] ns0) (a1 : Int) (h1 : Fits .i64 a1) (a2 : Int) (h2 : Fits .i64 a2) (w : World) : Calls Try.prog 11 #[.agg (vals [.i64, .i64, .i64, .i64, .u32, .u32, .u32, .u32] ns0).toArray, .int .i64 a1, .int .i64 a2] w (Ret (.bool true) w) := by
  obtain ⟨b0_0, l0_0, rfl, f0_0, h0⟩ := al2_cons h0
  obtain ⟨b0_1, l0_1, rfl, f0_1, h0⟩ := al2_cons h0
  obtain ⟨b0_2, l0_2, rfl, f0_2, h0⟩ := al2_cons h0
  obtain ⟨b0_3, l0_3, rfl, f0_3, h0⟩ := al2_cons h0
  obtain ⟨b0_4, l0_4, rfl, f0_4, h0⟩ := al2_cons h0
  obtain ⟨b0_5, l0_5, rfl, f0_5, h0⟩ := al2_cons h0
  obtain ⟨b0_6, l0_6, rfl, f0_6, h0⟩ := al2_cons h0
  obtain ⟨b0_7, l0_7, rfl, f0_7, h0⟩ := al2_cons h0
  obtain rfl := al2_nil h0
  have hw := w_umbralaw24_LensLeft (b0_0, b0_1, b0_2, b0_3, (b0_4, b0_5, b0_6, b0_7)) a1 a2 ⟨fit_i64 f0_0, fit_i64 f0_1, fit_i64 f0_2, fit_i64 f0_3, ⟨fit_u32 f0_4, fit_u32 f0_5, fit_u32 f0_6, fit_u32 f0_7⟩⟩ (fit_i64 h1) (fit_i64 h2) w
  rw [LensLeft_true (b0_0, b0_1, b0_2, b0_3, (b0_4, b0_5, b0_6, b0_7)) a1 a2 ⟨fit_i64 f0_0, fit_i64 f0_1, fit_i64 f0_2, fit_i64 f0_3, ⟨fit_u32 f0_4, fit_u32 f0_5, fit_u32 f0_6, fit_u32 f0_7⟩⟩ (fit_i64 h1) (fit_i64 h2)] at hw
  exact hw

theorem lawLensGrid (ns0 : List Int) (h0 : Al2 Fits [.i64, .i64, .i64, .i64, .i64, .i64, .i64, .i64, .i64, .i64, .i64, .i64, .i64, .i64] ns0) (ns1 : List Int) (h1 : Al2 Fits [.i64, .i64, .i64, .i64, .u32, .u32, .u32, .u32] ns1) (w : World) : Calls Try.prog 12 #[.agg (vals [.i64, .i64, .i64, .i64, .i64, .i64, .i64, .i64, .i64, .i64, .i64, .i64, .i64, .i64] ns0).toArray, .agg (vals [.i64, .i64, .i64, .i64, .u32, .u32, .u32, .u32] ns1).toArray] w (Ret (.bool true) w) := by
  obtain ⟨b0_0, l0_0, rfl, f0_0, h0⟩ := al2_cons h0
  obtain ⟨b0_1, l0_1, rfl, f0_1, h0⟩ := al2_cons h0
  obtain ⟨b0_2, l0_2, rfl, f0_2, h0⟩ := al2_cons h0
  obtain ⟨b0_3, l0_3, rfl, f0_3, h0⟩ := al2_cons h0
  obtain ⟨b0_4, l0_4, rfl, f0_4, h0⟩ := al2_cons h0
  obtain ⟨b0_5, l0_5, rfl, f0_5, h0⟩ := al2_cons h0
  obtain ⟨b0_6, l0_6, rfl, f0_6, h0⟩ := al2_cons h0
  obtain ⟨b0_7, l0_7, rfl, f0_7, h0⟩ := al2_cons h0
  obtain ⟨b0_8, l0_8, rfl, f0_8, h0⟩ := al2_cons h0
  obtain ⟨b0_9, l0_9, rfl, f0_9, h0⟩ := al2_cons h0
  obtain ⟨b0_10, l0_10, rfl, f0_10, h0⟩ := al2_cons h0
  obtain ⟨b0_11, l0_11, rfl, f0_11, h0⟩ := al2_cons h0
  obtain ⟨b0_12, l0_12, rfl, f0_12, h0⟩ := al2_cons h0
  obtain ⟨b0_13, l0_13, rfl, f0_13, h0⟩ := al2_cons h0
  obtain rfl := al2_nil h0
  obtain ⟨b1_0, l1_0, rfl, f1_0, h1⟩ := al2_cons h1
  obtain ⟨b1_1, l1_1, rfl, f1_1, h1⟩ := al2_cons h1
  obtain ⟨b1_2, l1_2, rfl, f1_2, h1⟩ := al2_cons h1
  obtain ⟨b1_3, l1_3, rfl, f1_3, h1⟩ := al2_cons h1
  obtain ⟨b1_4, l1_4, rfl, f1_4, h1⟩ := al2_cons h1
  obtain ⟨b1_5, l1_5, rfl, f1_5, h1⟩ := al2_cons h1
  obtain ⟨b1_6, l1_6, rfl, f1_6, h1⟩ := al2_cons h1
  obtain ⟨b1_7, l1_7, rfl, f1_7, h1⟩ := al2_cons h1
  obtain rfl := al2_nil h1
  have hw := w_umbralaw24_LensGrid ((b0_0, b0_1, b0_2), (b0_3, b0_4, b0_5), (b0_6, b0_7, b0_8), (b0_9, b0_10, b0_11), b0_12, b0_13) (b1_0, b1_1, b1_2, b1_3, (b1_4, b1_5, b1_6, b1_7)) ⟨⟨fit_i64 f0_0, fit_i64 f0_1, fit_i64 f0_2⟩, ⟨fit_i64 f0_3, fit_i64 f0_4, fit_i64 f0_5⟩, ⟨fit_i64 f0_6, fit_i64 f0_7, fit_i64 f0_8⟩, ⟨fit_i64 f0_9, fit_i64 f0_10, fit_i64 f0_11⟩, fit_i64 f0_12, fit_i64 f0_13⟩ ⟨fit_i64 f1_0, fit_i64 f1_1, fit_i64 f1_2, fit_i64 f1_3, ⟨fit_u32 f1_4, fit_u32 f1_5, fit_u32 f1_6, fit_u32 f1_7⟩⟩ w
  rw [LensGrid_true ((b0_0, b0_1, b0_2), (b0_3, b0_4, b0_5), (b0_6, b0_7, b0_8), (b0_9, b0_10, b0_11), b0_12, b0_13) (b1_0, b1_1, b1_2, b1_3, (b1_4, b1_5, b1_6, b1_7)) ⟨⟨fit_i64 f0_0, fit_i64 f0_1, fit_i64 f0_2⟩, ⟨fit_i64 f0_3, fit_i64 f0_4, fit_i64 f0_5⟩, ⟨fit_i64 f0_6, fit_i64 f0_7, fit_i64 f0_8⟩, ⟨fit_i64 f0_9, fit_i64 f0_10, fit_i64 f0_11⟩, fit_i64 f0_12, fit_i64 f0_13⟩ ⟨fit_i64 f1_0, fit_i64 f1_1, fit_i64 f1_2, fit_i64 f1_3, ⟨fit_u32 f1_4, fit_u32 f1_5, fit_u32 f1_6, fit_u32 f1_7⟩⟩] at hw
  exact hw

end Go.Proofs.Ytognbeejobfpfaa
