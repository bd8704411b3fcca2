/- Layer 20: TriAimed as its frame asks for it. -/
import Derived.Test.YtbfgmedjogjkeaaL20h
import Derived.Test.YtbfgmedjogjkeaaGoF
namespace Go.Proofs.Ytbfgmedjogjkeaa
open Go.RowKit Go.Sort
set_option linter.unusedVariables false
set_option linter.unusedSimpArgs false

theorem lawTriAimed (ns0 : List Int) (h0 : Al2 Fits [.i64, .i64, .i64] ns0) (ns1 : List Int) (h1 : Al2 Fits [.i64, .i64, .i64, .i64, .i64, .i64, .i64, .i64, .i64] ns1) (w : World) : Calls Try.prog 11 #[.agg (vals [.i64, .i64, .i64] ns0).toArray, .agg (vals [.i64, .i64, .i64, .i64, .i64, .i64, .i64, .i64, .i64] ns1).toArray] w (Ret (.bool true) w) := by
  obtain ⟨b0_0, l0_0, rfl, f0_0, h0⟩ := al2_cons h0
  obtain ⟨b0_1, l0_1, rfl, f0_1, h0⟩ := al2_cons h0
  obtain ⟨b0_2, l0_2, rfl, f0_2, h0⟩ := al2_cons h0
  obtain rfl := al2_nil h0
  obtain ⟨b1_0, l1_0, rfl, f1_0, h1⟩ := al2_cons h1
  obtain ⟨b1_1, l1_1, rfl, f1_1, h1⟩ := al2_cons h1
  obtain ⟨b1_2, l1_2, rfl, f1_2, h1⟩ := al2_cons h1
  obtain ⟨b1_3, l1_3, rfl, f1_3, h1⟩ := al2_cons h1
  obtain ⟨b1_4, l1_4, rfl, f1_4, h1⟩ := al2_cons h1
  obtain ⟨b1_5, l1_5, rfl, f1_5, h1⟩ := al2_cons h1
  obtain ⟨b1_6, l1_6, rfl, f1_6, h1⟩ := al2_cons h1
  obtain ⟨b1_7, l1_7, rfl, f1_7, h1⟩ := al2_cons h1
  obtain ⟨b1_8, l1_8, rfl, f1_8, h1⟩ := al2_cons h1
  obtain rfl := al2_nil h1
  have hw := w_umbralaw20_TriAimed (b0_0, b0_1, b0_2) ((b1_0, b1_1, b1_2), (b1_3, b1_4, b1_5), (b1_6, b1_7, b1_8)) w
  rw [TriAimed_true (b0_0, b0_1, b0_2) ((b1_0, b1_1, b1_2), (b1_3, b1_4, b1_5), (b1_6, b1_7, b1_8))] at hw
  exact hw

end Go.Proofs.Ytbfgmedjogjkeaa
