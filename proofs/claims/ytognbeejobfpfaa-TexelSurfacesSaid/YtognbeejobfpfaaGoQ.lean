/- Ways that meet again, ahead of a loop's second round too: what stands behind is walked once. No program is named here. -/
import Derived.Test.YtognbeejobfpfaaGo
namespace Go.Proofs.Ytognbeejobfpfaa
open Go.RowKit Go.Sort
set_option linter.unusedVariables false
set_option linter.unusedSimpArgs false

theorem R_joinS1 {P : Program} {fn : Func} {R : Ending → World → Prop} {k : List Item} {a : Act} {w : World} {c1 c2 : Code} (I : Act → World → Prop) (h2 : ∀ a' w', I a' w' → Run P fn R (.code c2 :: k) a' w')
    (h1 : (∀ a' w', I a' w' → Run P fn R (.code c2 :: k) a' w') → Run P fn R (.code c1 :: .code c2 :: k) a w) : Run P fn R (.code (c1.seq c2) :: k) a w := R_seq (h1 h2)
theorem R_joinS2 {P : Program} {fn : Func} {R : Ending → World → Prop} {k : List Item} {a : Act} {w : World} {c1 c2 c3 : Code} (I : Act → World → Prop) (h2 : ∀ a' w', I a' w' → Run P fn R (.code c3 :: k) a' w')
    (h1 : (∀ a' w', I a' w' → Run P fn R (.code c3 :: k) a' w') → Run P fn R (.code c1 :: .code (c2.seq c3) :: k) a w) : Run P fn R (.code (c1.seq (c2.seq c3)) :: k) a w := R_seq (h1 h2)
theorem R_peelJ {P : Program} {fn : Func} {R : Ending → World → Prop} {k : List Item} {a : Act} {w : World} {c : Code} (I : Act → World → Prop) (h2 : ∀ a' w', I a' w' → Run P fn R (.inLoop c :: k) a' w')
    (h1 : (∀ a' w', I a' w' → Run P fn R (.inLoop c :: k) a' w') → Run P fn R (.code c :: .inLoop c :: k) a w) : Run P fn R (.code (.loop c) :: k) a w := R_loop (h1 h2)
end Go.Proofs.Ytognbeejobfpfaa
