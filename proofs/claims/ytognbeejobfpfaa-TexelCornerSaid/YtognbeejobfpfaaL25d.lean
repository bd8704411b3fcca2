/- Layer 25: TexelCorner as its frame asks for it. -/
import Derived.Test.YtognbeejobfpfaaL25b
import Derived.Test.YtognbeejobfpfaaGoF
namespace Go.Proofs.Ytognbeejobfpfaa
open Go.RowKit Go.Sort
set_option linter.unusedVariables false
set_option linter.unusedSimpArgs false

theorem fit_u16 {a : Int} (h : Fits .u16 a) : InU16 a := by have := bounds_u16 h; unfold InU16; omega

theorem TexelCorner_law (uv : (Int × Int) × (Int × Int) × (Int × Int)) (parts : Int × Int × Int) (h_uv : ((InU16 uv.1.1 ∧ InU16 uv.1.2) ∧ (InU16 uv.2.1.1 ∧ InU16 uv.2.1.2) ∧ (InU16 uv.2.2.1 ∧ InU16 uv.2.2.2))) (h_parts : (InU16 parts.1 ∧ InU16 parts.2.1 ∧ InU16 parts.2.2)) : s_umbralaw25_TexelCorner uv parts = true := TexelCorner_true uv parts h_uv h_parts

theorem lawTexelCorner (ns0 : List Int) (h0 : Al2 Fits [.u16, .u16, .u16, .u16, .u16, .u16] ns0) (ns1 : List Int) (h1 : Al2 Fits [.u16, .u16, .u16] ns1) (w : World) : Calls Try.prog 7 #[.agg (vals [.u16, .u16, .u16, .u16, .u16, .u16] ns0).toArray, .agg (vals [.u16, .u16, .u16] ns1).toArray] w (Ret (.bool true) w) := by
  obtain ⟨b0_0, l0_0, rfl, f0_0, h0⟩ := al2_cons h0
  obtain ⟨b0_1, l0_1, rfl, f0_1, h0⟩ := al2_cons h0
  obtain ⟨b0_2, l0_2, rfl, f0_2, h0⟩ := al2_cons h0
  obtain ⟨b0_3, l0_3, rfl, f0_3, h0⟩ := al2_cons h0
  obtain ⟨b0_4, l0_4, rfl, f0_4, h0⟩ := al2_cons h0
  obtain ⟨b0_5, l0_5, rfl, f0_5, h0⟩ := al2_cons h0
  obtain rfl := al2_nil h0
  obtain ⟨b1_0, l1_0, rfl, f1_0, h1⟩ := al2_cons h1
  obtain ⟨b1_1, l1_1, rfl, f1_1, h1⟩ := al2_cons h1
  obtain ⟨b1_2, l1_2, rfl, f1_2, h1⟩ := al2_cons h1
  obtain rfl := al2_nil h1
  have hw := w_umbralaw25_TexelCorner ((b0_0, b0_1), (b0_2, b0_3), (b0_4, b0_5)) (b1_0, b1_1, b1_2) ⟨⟨fit_u16 f0_0, fit_u16 f0_1⟩, ⟨fit_u16 f0_2, fit_u16 f0_3⟩, ⟨fit_u16 f0_4, fit_u16 f0_5⟩⟩ ⟨fit_u16 f1_0, fit_u16 f1_1, fit_u16 f1_2⟩ w
  rw [TexelCorner_law ((b0_0, b0_1), (b0_2, b0_3), (b0_4, b0_5)) (b1_0, b1_1, b1_2) ⟨⟨fit_u16 f0_0, fit_u16 f0_1⟩, ⟨fit_u16 f0_2, fit_u16 f0_3⟩, ⟨fit_u16 f0_4, fit_u16 f0_5⟩⟩ ⟨fit_u16 f1_0, fit_u16 f1_1, fit_u16 f1_2⟩] at hw
  exact hw

end Go.Proofs.Ytognbeejobfpfaa
