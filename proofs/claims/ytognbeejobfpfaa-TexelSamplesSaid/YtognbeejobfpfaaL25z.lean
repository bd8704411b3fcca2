/- Layer 25: TexelSamples as its frame asks for it. -/
import Derived.Test.YtognbeejobfpfaaL25y
import Derived.Test.YtognbeejobfpfaaGoF
namespace Go.Proofs.Ytognbeejobfpfaa
open Go.RowKit Go.Sort
set_option linter.unusedVariables false
set_option linter.unusedSimpArgs false

theorem lawTexelSamples {w : World} (s : Int) (hs : InI s) (A : Option Addr) (n cap : Nat) (l : List T3) (hn : n ≤ cap) (hc : cap ≤ maxLen) (hr : RdV w A n l) (hI : ∀ x ∈ l, InV x) (ns1 : List Int) (h1 : Al2 Fits [.i64, .i64] ns1) (ns2 : List Int) (h2 : Al2 Fits [.i64, .i64, .i64, .i64] ns2) :
    Calls Try.prog 4 #[.agg #[.int .i64 s, .slice A n cap], .agg (vals [.i64, .i64] ns1).toArray, .agg (vals [.i64, .i64, .i64, .i64] ns2).toArray] w (Ret (.bool true) w) := by
  obtain ⟨b1_0, l1_0, rfl, f1_0, h1⟩ := al2_cons h1
  obtain ⟨b1_1, l1_1, rfl, f1_1, h1⟩ := al2_cons h1
  obtain rfl := al2_nil h1
  obtain ⟨b2_0, l2_0, rfl, f2_0, h2⟩ := al2_cons h2
  obtain ⟨b2_1, l2_1, rfl, f2_1, h2⟩ := al2_cons h2
  obtain ⟨b2_2, l2_2, rfl, f2_2, h2⟩ := al2_cons h2
  obtain ⟨b2_3, l2_3, rfl, f2_3, h2⟩ := al2_cons h2
  obtain rfl := al2_nil h2
  obtain ⟨rfl, hR⟩ := hr.rd
  have hw := w_umbralaw25_TexelSamples s l (b1_0, b1_1) (b2_0, b2_1, b2_2, b2_3) ⟨fit_i64 f1_0, fit_i64 f1_1⟩ ⟨fit_i64 f2_0, fit_i64 f2_1, fit_i64 f2_2, fit_i64 f2_3⟩ w A cap hR hn hI
  rw [TexelSamples_law] at hw
  exact hw
end Go.Proofs.Ytognbeejobfpfaa
