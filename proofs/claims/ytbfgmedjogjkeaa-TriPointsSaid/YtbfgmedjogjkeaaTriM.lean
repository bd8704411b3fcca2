/- Plain numbers: rays and triangles. -/
import Derived.Test.YtbfgmedjogjkeaaOctaM
namespace Go.Proofs.Ytbfgmedjogjkeaa
open Go.RowKit
set_option linter.unusedVariables false
set_option linter.unusedSimpArgs false

/-- A meeting: num, det, u, v. -/
abbrev M4 : Type := Int × Int × Int × Int
def tsub (a b : T3) : T3 := (wrap64 (a.1 - b.1), wrap64 (a.2.1 - b.2.1), wrap64 (a.2.2 - b.2.2))
def tcross (a b : T3) : T3 := (wrap64 (a.2.1 * b.2.2 - a.2.2 * b.2.1), wrap64 (a.2.2 * b.1 - a.1 * b.2.2), wrap64 (a.1 * b.2.1 - a.2.1 * b.1))
theorem wsub_eq (a b c d : Int) : wrap64 (wrap64 (a * b) - wrap64 (c * d)) = wrap64 (a * b - c * d) := by
  generalize a * b = x
  generalize c * d = y
  unfold wrap64
  omega
theorem wrap64_I (n : Int) : InI (wrap64 n) := by unfold InI wrap64; omega
theorem tsub_I (a b : T3) : InV (tsub a b) := ⟨wrap64_I _, wrap64_I _, wrap64_I _⟩
theorem tcross_I (a b : T3) : InV (tcross a b) := ⟨wrap64_I _, wrap64_I _, wrap64_I _⟩
theorem wdot_I (a b : T3) : InI (wdot a b) := wrap64_I _
def inB (p : T3) (m : Int) : Bool := decide ((-m ≤ p.1 ∧ p.1 ≤ m) ∧ (-m ≤ p.2.1 ∧ p.2.1 ≤ m) ∧ (-m ≤ p.2.2 ∧ p.2.2 ≤ m))
def mayRay (o d : T3) : Bool := inB o 65536 && inB d 131072 && decide (¬ (d.1 = 0 ∧ d.2.1 = 0 ∧ d.2.2 = 0))
/-- The meeting as it is reckoned, before its sign is looked at. -/
def hitRaw (o d p q r : T3) : M4 :=
  (wdot (tsub r p) (tcross (tsub o p) (tsub q p)), wdot (tsub q p) (tcross d (tsub r p)), wdot (tsub o p) (tcross d (tsub r p)), wdot d (tcross (tsub o p) (tsub q p)))
def hitSgn (m : M4) : M4 := if m.2.1 < 0 then (wneg m.1, wneg m.2.1, wneg m.2.2.1, wneg m.2.2.2) else m
def hitNo (m : M4) : Prop := m.2.1 = 0 ∨ m.2.2.1 < 0 ∨ m.2.2.2 < 0 ∨ m.2.1 < wrap64 (m.2.2.1 + m.2.2.2) ∨ m.1 ≤ 0
instance (m : M4) : Decidable (hitNo m) := by unfold hitNo; exact inferInstance
def hitB (o d p q r : T3) : Bool := mayRay o d && (inB p 65536 && (inB q 65536 && inB r 65536)) && decide (¬ hitNo (hitSgn (hitRaw o d p q r)))
def hitM (o d p q r : T3) : M4 := if hitB o d p q r then hitSgn (hitRaw o d p q r) else (0, 0, 0, 0)

end Go.Proofs.Ytbfgmedjogjkeaa
