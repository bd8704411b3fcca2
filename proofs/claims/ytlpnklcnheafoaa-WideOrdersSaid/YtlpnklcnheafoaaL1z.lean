/- Layer 1: WideRoots, WideMakes, WideOrders, WideProducts, WideDivides, WideSums. -/
import Derived.Test.YtlpnklcnheafoaaL1y
namespace Go.Proofs.Ytlpnklcnheafoaa
open Go.RowKit Go.Sort
set_option linter.unusedVariables false
set_option linter.unusedSimpArgs false

theorem lawWideRoots (ns0 : List Int) (h0 : Al2 Fits [.i64, .u64] ns0) (w : World) : Calls Try.prog 3 #[.agg (vals [.i64, .u64] ns0).toArray] w (Ret (.bool true) w) := by
  obtain ⟨b0_0, l0_0, rfl, f0_0, h0⟩ := al2_cons h0
  obtain ⟨b0_1, l0_1, rfl, f0_1, h0⟩ := al2_cons h0
  obtain rfl := al2_nil h0
  obtain ⟨x0, rfl, rfl, k0⟩ := wide_of f0_0 f0_1
  have hw := w_umbralaw01_WideRoots x0 k0 w
  rw [WideRoots_true x0 k0] at hw
  exact hw

theorem lawWideMakes (a0 : Int) (h0 : Fits .i64 a0) (ns1 : List Int) (h1 : Al2 Fits [.i64, .u64] ns1) (w : World) : Calls Try.prog 5 #[.int .i64 a0, .agg (vals [.i64, .u64] ns1).toArray] w (Ret (.bool true) w) := by
  obtain ⟨b1_0, l1_0, rfl, f1_0, h1⟩ := al2_cons h1
  obtain ⟨b1_1, l1_1, rfl, f1_1, h1⟩ := al2_cons h1
  obtain rfl := al2_nil h1
  obtain ⟨x1, rfl, rfl, k1⟩ := wide_of f1_0 f1_1
  have hw := w_umbralaw01_WideMakes a0 x1 (fit_i64 h0) k1 w
  rw [WideMakes_true a0 x1 (fit_i64 h0) k1] at hw
  exact hw

theorem lawWideOrders (ns0 : List Int) (h0 : Al2 Fits [.i64, .u64] ns0) (ns1 : List Int) (h1 : Al2 Fits [.i64, .u64] ns1) (w : World) : Calls Try.prog 6 #[.agg (vals [.i64, .u64] ns0).toArray, .agg (vals [.i64, .u64] ns1).toArray] w (Ret (.bool true) w) := by
  obtain ⟨b0_0, l0_0, rfl, f0_0, h0⟩ := al2_cons h0
  obtain ⟨b0_1, l0_1, rfl, f0_1, h0⟩ := al2_cons h0
  obtain rfl := al2_nil h0
  obtain ⟨x0, rfl, rfl, k0⟩ := wide_of f0_0 f0_1
  obtain ⟨b1_0, l1_0, rfl, f1_0, h1⟩ := al2_cons h1
  obtain ⟨b1_1, l1_1, rfl, f1_1, h1⟩ := al2_cons h1
  obtain rfl := al2_nil h1
  obtain ⟨x1, rfl, rfl, k1⟩ := wide_of f1_0 f1_1
  have hw := w_umbralaw01_WideOrders x0 x1 k0 k1 w
  rw [WideOrders_true x0 x1 k0 k1] at hw
  exact hw

theorem lawWideProducts (a0 : Int) (h0 : Fits .i64 a0) (a1 : Int) (h1 : Fits .i64 a1) (a2 : Int) (h2 : Fits .i64 a2) (w : World) : Calls Try.prog 11 #[.int .i64 a0, .int .i64 a1, .int .i64 a2] w (Ret (.bool true) w) := by
  have hw := w_umbralaw01_WideProducts a0 a1 a2 (fit_i64 h0) (fit_i64 h1) (fit_i64 h2) w
  rw [WideProducts_true a0 a1 a2 (fit_i64 h0) (fit_i64 h1) (fit_i64 h2)] at hw
  exact hw

theorem lawWideDivides (ns0 : List Int) (h0 : Al2 Fits [.i64, .u64] ns0) (a1 : Int) (h1 : Fits .i64 a1) (a2 : Int) (h2 : Fits .i64 a2) (w : World) : Calls Try.prog 7 #[.agg (vals [.i64, .u64] ns0).toArray, .int .i64 a1, .int .i64 a2] w (Ret (.bool true) w) := by
  obtain ⟨b0_0, l0_0, rfl, f0_0, h0⟩ := al2_cons h0
  obtain ⟨b0_1, l0_1, rfl, f0_1, h0⟩ := al2_cons h0
  obtain rfl := al2_nil h0
  obtain ⟨x0, rfl, rfl, k0⟩ := wide_of f0_0 f0_1
  have hw := w_umbralaw01_WideDivides x0 a1 a2 k0 (fit_i64 h1) (fit_i64 h2) w
  rw [WideDivides_true x0 a1 a2 k0 (fit_i64 h1) (fit_i64 h2)] at hw
  exact hw

theorem lawWideSums {w : World} (A : Option Addr) (n c : Nat) (l : List Int) (hn : n ≤ c) (hc : c ≤ maxLen) (hr : n = l.length ∧ Rd wE 2 w A l) (hI : ∀ x ∈ l, InW x) (ns1 : List Int) (h1 : Al2 Fits [.i64, .u64] ns1) : Calls Try.prog 9 #[.slice A n c, .agg (vals [.i64, .u64] ns1).toArray] w (Ret (.bool true) w) := by
  obtain ⟨rfl, hR⟩ := hr
  obtain ⟨b1_0, l1_0, rfl, f1_0, h1⟩ := al2_cons h1
  obtain ⟨b1_1, l1_1, rfl, f1_1, h1⟩ := al2_cons h1
  obtain rfl := al2_nil h1
  obtain ⟨x1, rfl, rfl, k1⟩ := wide_of f1_0 f1_1
  have hw := w_umbralaw01_WideSums l A c x1 k1 w hR hn hI
  rw [WideSums_true l A c x1 k1] at hw
  exact hw

end Go.Proofs.Ytlpnklcnheafoaa
