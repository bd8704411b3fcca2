/- Layer 20: TriExact as its frame asks for it. -/
import Derived.Test.YtbfgmedjogjkeaaL20f
import Derived.Test.YtbfgmedjogjkeaaGoF
namespace Go.Proofs.Ytbfgmedjogjkeaa
open Go.RowKit Go.Sort
set_option linter.unusedVariables false
set_option linter.unusedSimpArgs false

theorem lawTriExact (ns0 : List Int) (h0 : Al2 Fits [.i64, .i64, .i64] ns0) (ns1 : List Int) (h1 : Al2 Fits [.i64, .i64, .i64] ns1) (ns2 : List Int) (h2 : Al2 Fits [.i64, .i64, .i64, .i64, .i64, .i64, .i64, .i64, .i64] ns2) (w : World) : Calls Try.prog 10 #[.agg (vals [.i64, .i64, .i64] ns0).toArray, .agg (vals [.i64, .i64, .i64] ns1).toArray, .agg (vals [.i64, .i64, .i64, .i64, .i64, .i64, .i64, .i64, .i64] ns2).toArray] w (Ret (.bool true) w) := by
  obtain ⟨b0_0, l0_0, rfl, f0_0, h0⟩ := al2_cons h0
  obtain ⟨b0_1, l0_1, rfl, f0_1, h0⟩ := al2_cons h0
  obtain ⟨b0_2, l0_2, rfl, f0_2, h0⟩ := al2_cons h0
  obtain rfl := al2_nil h0
  obtain ⟨b1_0, l1_0, rfl, f1_0, h1⟩ := al2_cons h1
  obtain ⟨b1_1, l1_1, rfl, f1_1, h1⟩ := al2_cons h1
  obtain ⟨b1_2, l1_2, rfl, f1_2, h1⟩ := al2_cons h1
  obtain rfl := al2_nil h1
  obtain ⟨b2_0, l2_0, rfl, f2_0, h2⟩ := al2_cons h2
  obtain ⟨b2_1, l2_1, rfl, f2_1, h2⟩ := al2_cons h2
  obtain ⟨b2_2, l2_2, rfl, f2_2, h2⟩ := al2_cons h2
  obtain ⟨b2_3, l2_3, rfl, f2_3, h2⟩ := al2_cons h2
  obtain ⟨b2_4, l2_4, rfl, f2_4, h2⟩ := al2_cons h2
  obtain ⟨b2_5, l2_5, rfl, f2_5, h2⟩ := al2_cons h2
  obtain ⟨b2_6, l2_6, rfl, f2_6, h2⟩ := al2_cons h2
  obtain ⟨b2_7, l2_7, rfl, f2_7, h2⟩ := al2_cons h2
  obtain ⟨b2_8, l2_8, rfl, f2_8, h2⟩ := al2_cons h2
  obtain rfl := al2_nil h2
  have hw := w_umbralaw20_TriExact (b0_0, b0_1, b0_2) (b1_0, b1_1, b1_2) ((b2_0, b2_1, b2_2), (b2_3, b2_4, b2_5), (b2_6, b2_7, b2_8)) ⟨fit_i64 f0_0, fit_i64 f0_1, fit_i64 f0_2⟩ ⟨fit_i64 f1_0, fit_i64 f1_1, fit_i64 f1_2⟩ ⟨⟨fit_i64 f2_0, fit_i64 f2_1, fit_i64 f2_2⟩, ⟨fit_i64 f2_3, fit_i64 f2_4, fit_i64 f2_5⟩, ⟨fit_i64 f2_6, fit_i64 f2_7, fit_i64 f2_8⟩⟩ w
  rw [TriExact_true (b0_0, b0_1, b0_2) (b1_0, b1_1, b1_2) ((b2_0, b2_1, b2_2), (b2_3, b2_4, b2_5), (b2_6, b2_7, b2_8)) ⟨fit_i64 f0_0, fit_i64 f0_1, fit_i64 f0_2⟩ ⟨fit_i64 f1_0, fit_i64 f1_1, fit_i64 f1_2⟩ ⟨⟨fit_i64 f2_0, fit_i64 f2_1, fit_i64 f2_2⟩, ⟨fit_i64 f2_3, fit_i64 f2_4, fit_i64 f2_5⟩, ⟨fit_i64 f2_6, fit_i64 f2_7, fit_i64 f2_8⟩⟩] at hw
  exact hw

end Go.Proofs.Ytbfgmedjogjkeaa
