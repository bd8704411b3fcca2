/- Walks: the document's answer for layer 3: Dot, Cross, Most, Length. -/
import Derived.Test.YtognbeejobfpfaaVecD
import Derived.Test.YtognbeejobfpfaaRef3A
import Derived.Test.YtognbeejobfpfaaRef2G
namespace Go.Proofs.Ytognbeejobfpfaa
open Go.RowKit Go.Sort
set_option linter.unusedVariables false
set_option linter.unusedSimpArgs false

def vcross (a b : T3) : T3 := (satSub (fmul a.2.1 b.2.2) (fmul a.2.2 b.2.1), satSub (fmul a.2.2 b.1) (fmul a.1 b.2.2), satSub (fmul a.1 b.2.1) (fmul a.2.1 b.1))
theorem vcross_I (a b : T3) : InV (vcross a b) := ⟨satSub_I _ _, satSub_I _ _, satSub_I _ _⟩

theorem squares_num (A B C : Int) (hA : InU2 A) (hB : InU2 B) (hC : InU2 C) : ∃ L1 C1 H1 O1 L2 C2 H2 O2 : Int,
    (∀ w, (callFunc 79 #[.int .u64 (wLo A), .int .u64 (wLo B), .int .u64 0]).run Try.prog w = .ok (.value (.tuple #[.int .u64 L1, .int .u64 C1])) w) ∧
    (∀ w, (callFunc 79 #[.int .u64 (wHi A), .int .u64 (wHi B), .int .u64 C1]).run Try.prog w = .ok (.value (.tuple #[.int .u64 H1, .int .u64 O1])) w) ∧
    (∀ w, (callFunc 79 #[.int .u64 L1, .int .u64 (wLo C), .int .u64 0]).run Try.prog w = .ok (.value (.tuple #[.int .u64 L2, .int .u64 C2])) w) ∧
    (∀ w, (callFunc 79 #[.int .u64 H1, .int .u64 (wHi C), .int .u64 C2]).run Try.prog w = .ok (.value (.tuple #[.int .u64 H2, .int .u64 O2])) w) ∧
    0 ≤ O1 ∧ O1 ≤ 1 ∧ 0 ≤ O2 ∧ O2 ≤ 1 ∧ H2 = wHi ((A + B + C) % 340282366920938463463374607431768211456) ∧ L2 = wLo (A + B + C) ∧ (0 < O1 + O2 ↔ 340282366920938463463374607431768211456 ≤ A + B + C) := by
  have a1 := wLo_U A
  have b1 := wLo_U B
  have c1 := wLo_U C
  unfold InU at a1 b1 c1
  unfold InU2 at hA hB hC
  have a2 : 0 ≤ wHi A ∧ wHi A < 18446744073709551616 := by unfold wHi; omega
  have b2 : 0 ≤ wHi B ∧ wHi B < 18446744073709551616 := by unfold wHi; omega
  have c2 : 0 ≤ wHi C ∧ wHi C < 18446744073709551616 := by unfold wHi; omega
  obtain ⟨L1, eL1⟩ : ∃ L1, (wLo A + wLo B + 0) % 18446744073709551616 = L1 := ⟨_, rfl⟩
  obtain ⟨C1, eC1⟩ : ∃ C1, (wLo A + wLo B + 0) / 18446744073709551616 = C1 := ⟨_, rfl⟩
  obtain ⟨H1, eH1⟩ : ∃ H1, (wHi A + wHi B + C1) % 18446744073709551616 = H1 := ⟨_, rfl⟩
  obtain ⟨O1, eO1⟩ : ∃ O1, (wHi A + wHi B + C1) / 18446744073709551616 = O1 := ⟨_, rfl⟩
  obtain ⟨L2, eL2⟩ : ∃ L2, (L1 + wLo C + 0) % 18446744073709551616 = L2 := ⟨_, rfl⟩
  obtain ⟨C2, eC2⟩ : ∃ C2, (L1 + wLo C + 0) / 18446744073709551616 = C2 := ⟨_, rfl⟩
  obtain ⟨H2, eH2⟩ : ∃ H2, (H1 + wHi C + C2) % 18446744073709551616 = H2 := ⟨_, rfl⟩
  obtain ⟨O2, eO2⟩ : ∃ O2, (H1 + wHi C + C2) / 18446744073709551616 = O2 := ⟨_, rfl⟩
  refine ⟨L1, C1, H1, O1, L2, C2, H2, O2, ?_, ?_, ?_, ?_, ?_⟩
  · intro w; rw [add64 _ _ _ a1.1 b1.1 (by omega) (by omega), eL1, eC1]
  · intro w; rw [add64 _ _ _ a2.1 b2.1 (by omega) (by omega), eH1, eO1]
  · intro w; rw [add64 _ _ _ (by omega) c1.1 (by omega) (by omega), eL2, eC2]
  · intro w; rw [add64 _ _ _ (by omega) c2.1 (by omega) (by omega), eH2, eO2]
  · have sA := w_split A
    have sB := w_split B
    have sC := w_split C
    have d1 := Int.mul_ediv_add_emod (wLo A + wLo B + 0) 18446744073709551616
    have d2 := Int.mul_ediv_add_emod (wHi A + wHi B + C1) 18446744073709551616
    have d3 := Int.mul_ediv_add_emod (L1 + wLo C + 0) 18446744073709551616
    have d4 := Int.mul_ediv_add_emod (H1 + wHi C + C2) 18446744073709551616
    rw [eL1, eC1] at d1
    rw [eH1, eO1] at d2
    rw [eL2, eC2] at d3
    rw [eH2, eO2] at d4
    have hT : A + B + C = (O1 + O2) * 340282366920938463463374607431768211456 + H2 * 18446744073709551616 + L2 := by omega
    have l2 : 0 ≤ L2 ∧ L2 < 18446744073709551616 := by omega
    have m2 : 0 ≤ H2 ∧ H2 < 18446744073709551616 := by omega
    have n1 : 0 ≤ O1 ∧ O1 ≤ 1 := by omega
    have n2 : 0 ≤ O2 ∧ O2 ≤ 1 := by omega
    rw [hT]
    clear hT d1 d2 d3 d4 sA sB sC eL1 eC1 eH1 eO1 eL2 eC2 eH2 eO2 a1 b1 c1 a2 b2 c2 hA hB hC
    unfold wHi wLo
    omega

end Go.Proofs.Ytognbeejobfpfaa
