/-
  No cell of these rows narrows 'for every input' (looked for: loops, veiled, ifaces, maps, wideKeys, modest, calm, conditions, laid).
  DERIVED. THE GIVEN ROWS OF THIS SEAT. 14 by the template 'for every input the law returns true; each argument reads behind the call as it read before'; 0 by the template 'total and deterministic' (their statements: YtenefncpokdmnaaTotals.lean).
  GIVEN WITH THE SEED: the statements are not yours to turn. If you find one false, say at which input.
  Laid BY PROGRAM, IN A SANDBOX (cutbox-rows.mjs): the forced cells as the released guide's own fill.sh prints them over the translation bf49110d3545094f… (all of the seat's roots in one cut). By AI agents, Wed Nov 11 2026. No macro, syntax, notation, axiom, sorry.
-/
import Derived.Test.YtenefncpokdmnaaChecked
import GoSem.Claim
import GoSem.ClaimJoined
import GoSem.ClaimMapViews
import Derived.JoinedTies
import Derived.KernelRfl
namespace Go.Proofs.Ytenefncpokdmnaa
/- THE CELL 'sum', in the pinned program and in every row, IS THE sha256 OF THE DUMP (.gsa) THAT YtenefncpokdmnaaProg.lean LOADS. Nothing in Lean hashes anything: it is a label: what it is worth is what the hold of that sum in a sandbox is worth. -/
noncomputable def Try.pinned : Pinned := { name := "ytenefncpokdmnaa", sum := "bf49110d3545094f6ea75e8bbe12a8ed68847da0ee4656929aa49f8e8fb0b3eb", checked := Try.checked }
namespace Rows
def none {H : Type} : Left H := { results := [], args := [] }

/-- 'umbralaw03.VecNear': WHATEVER THE INPUT: true; the input reads as it did. -/
def vecNearSpec : ChangeSpec := { name := "vecNear", fn := fun _ => fun
  | [d] => { results := [.lit (.bool true)], args := [d] }
  | _ => none }
def vecNearRow : OpenClaim := { program := "ytenefncpokdmnaa", sum := "bf49110d3545094f6ea75e8bbe12a8ed68847da0ee4656929aa49f8e8fb0b3eb", func := "umbra/umbralaw03.VecNear", spec := "vecNear", inPlace := ["math/bits.Sub64", "math/bits.Add64"], unfollowed := true, recurses := true, named := ["math/bits.divideError", "math/bits.overflowError"], apart := false }
def VecNearSaid : Prop := vecNearRow.holds Try.pinned (OpenSpec.ofChange vecNearSpec)

/-- ITS FALSE NEIGHBOUR: 'it returns false'. Refute it at one input. -/
def vecNearWrong : ChangeSpec := { name := "vecNear", fn := fun _ => fun
  | [d] => { results := [.lit (.bool false)], args := [d] }
  | _ => none }
def VecNearWrongFalsely : Prop := vecNearRow.holds Try.pinned (OpenSpec.ofChange vecNearWrong)

/-- 'umbralaw02.FixProducts': WHATEVER THE INPUT: true; the input reads as it did. -/
def fixProductsSpec : ChangeSpec := { name := "fixProducts", fn := fun _ => fun
  | [d1, d2, d3] => { results := [.lit (.bool true)], args := [d1, d2, d3] }
  | _ => none }
def fixProductsRow : OpenClaim := { program := "ytenefncpokdmnaa", sum := "bf49110d3545094f6ea75e8bbe12a8ed68847da0ee4656929aa49f8e8fb0b3eb", func := "umbra/umbralaw02.FixProducts", spec := "fixProducts", inPlace := ["math/bits.Sub64", "math/bits.Add64"], named := ["math/bits.divideError", "math/bits.overflowError"], apart := false }
def FixProductsSaid : Prop := fixProductsRow.holds Try.pinned (OpenSpec.ofChange fixProductsSpec)

/-- ITS FALSE NEIGHBOUR: 'it returns false'. Refute it at one input. -/
def fixProductsWrong : ChangeSpec := { name := "fixProducts", fn := fun _ => fun
  | [d1, d2, d3] => { results := [.lit (.bool false)], args := [d1, d2, d3] }
  | _ => none }
def FixProductsWrongFalsely : Prop := fixProductsRow.holds Try.pinned (OpenSpec.ofChange fixProductsWrong)

/-- 'umbralaw02.FixTurns': WHATEVER THE INPUT: true; the input reads as it did. -/
def fixTurnsSpec : ChangeSpec := { name := "fixTurns", fn := fun _ => fun
  | [d1, d2] => { results := [.lit (.bool true)], args := [d1, d2] }
  | _ => none }
def fixTurnsRow : OpenClaim := { program := "ytenefncpokdmnaa", sum := "bf49110d3545094f6ea75e8bbe12a8ed68847da0ee4656929aa49f8e8fb0b3eb", func := "umbra/umbralaw02.FixTurns", spec := "fixTurns", inPlace := ["math/bits.Sub64", "math/bits.Add64"], named := ["math/bits.divideError", "math/bits.overflowError"], apart := false }
def FixTurnsSaid : Prop := fixTurnsRow.holds Try.pinned (OpenSpec.ofChange fixTurnsSpec)

/-- ITS FALSE NEIGHBOUR: 'it returns false'. Refute it at one input. -/
def fixTurnsWrong : ChangeSpec := { name := "fixTurns", fn := fun _ => fun
  | [d1, d2] => { results := [.lit (.bool false)], args := [d1, d2] }
  | _ => none }
def FixTurnsWrongFalsely : Prop := fixTurnsRow.holds Try.pinned (OpenSpec.ofChange fixTurnsWrong)

/-- 'umbralaw02.FixWholes': WHATEVER THE INPUT: true; the input reads as it did. -/
def fixWholesSpec : ChangeSpec := { name := "fixWholes", fn := fun _ => fun
  | [d1, d2] => { results := [.lit (.bool true)], args := [d1, d2] }
  | _ => none }
def fixWholesRow : OpenClaim := { program := "ytenefncpokdmnaa", sum := "bf49110d3545094f6ea75e8bbe12a8ed68847da0ee4656929aa49f8e8fb0b3eb", func := "umbra/umbralaw02.FixWholes", spec := "fixWholes", inPlace := ["math/bits.Sub64", "math/bits.Add64"], named := ["math/bits.divideError", "math/bits.overflowError"], apart := false }
def FixWholesSaid : Prop := fixWholesRow.holds Try.pinned (OpenSpec.ofChange fixWholesSpec)

/-- ITS FALSE NEIGHBOUR: 'it returns false'. Refute it at one input. -/
def fixWholesWrong : ChangeSpec := { name := "fixWholes", fn := fun _ => fun
  | [d1, d2] => { results := [.lit (.bool false)], args := [d1, d2] }
  | _ => none }
def FixWholesWrongFalsely : Prop := fixWholesRow.holds Try.pinned (OpenSpec.ofChange fixWholesWrong)

/-- 'umbralaw02.FixExact': WHATEVER THE INPUT: true; the input reads as it did. -/
def fixExactSpec : ChangeSpec := { name := "fixExact", fn := fun _ => fun
  | [d1, d2] => { results := [.lit (.bool true)], args := [d1, d2] }
  | _ => none }
def fixExactRow : OpenClaim := { program := "ytenefncpokdmnaa", sum := "bf49110d3545094f6ea75e8bbe12a8ed68847da0ee4656929aa49f8e8fb0b3eb", func := "umbra/umbralaw02.FixExact", spec := "fixExact", inPlace := ["math/bits.Sub64", "math/bits.Add64"], named := ["math/bits.divideError", "math/bits.overflowError"], apart := false }
def FixExactSaid : Prop := fixExactRow.holds Try.pinned (OpenSpec.ofChange fixExactSpec)

/-- ITS FALSE NEIGHBOUR: 'it returns false'. Refute it at one input. -/
def fixExactWrong : ChangeSpec := { name := "fixExact", fn := fun _ => fun
  | [d1, d2] => { results := [.lit (.bool false)], args := [d1, d2] }
  | _ => none }
def FixExactWrongFalsely : Prop := fixExactRow.holds Try.pinned (OpenSpec.ofChange fixExactWrong)

/-- 'umbralaw03.VecUnits': WHATEVER THE INPUT: true; the input reads as it did. -/
def vecUnitsSpec : ChangeSpec := { name := "vecUnits", fn := fun _ => fun
  | [d1, d2] => { results := [.lit (.bool true)], args := [d1, d2] }
  | _ => none }
def vecUnitsRow : OpenClaim := { program := "ytenefncpokdmnaa", sum := "bf49110d3545094f6ea75e8bbe12a8ed68847da0ee4656929aa49f8e8fb0b3eb", func := "umbra/umbralaw03.VecUnits", spec := "vecUnits", inPlace := ["math/bits.Sub64", "math/bits.Add64"], unfollowed := true, recurses := true, named := ["math/bits.divideError", "math/bits.overflowError"], apart := false }
def VecUnitsSaid : Prop := vecUnitsRow.holds Try.pinned (OpenSpec.ofChange vecUnitsSpec)

/-- ITS FALSE NEIGHBOUR: 'it returns false'. Refute it at one input. -/
def vecUnitsWrong : ChangeSpec := { name := "vecUnits", fn := fun _ => fun
  | [d1, d2] => { results := [.lit (.bool false)], args := [d1, d2] }
  | _ => none }
def VecUnitsWrongFalsely : Prop := vecUnitsRow.holds Try.pinned (OpenSpec.ofChange vecUnitsWrong)

/-- 'umbralaw03.VecLong': WHATEVER THE INPUT: true; the input reads as it did. -/
def vecLongSpec : ChangeSpec := { name := "vecLong", fn := fun _ => fun
  | [d] => { results := [.lit (.bool true)], args := [d] }
  | _ => none }
def vecLongRow : OpenClaim := { program := "ytenefncpokdmnaa", sum := "bf49110d3545094f6ea75e8bbe12a8ed68847da0ee4656929aa49f8e8fb0b3eb", func := "umbra/umbralaw03.VecLong", spec := "vecLong", inPlace := ["math/bits.Sub64", "math/bits.Add64"], unfollowed := true, recurses := true, named := ["math/bits.divideError", "math/bits.overflowError"], apart := false }
def VecLongSaid : Prop := vecLongRow.holds Try.pinned (OpenSpec.ofChange vecLongSpec)

/-- ITS FALSE NEIGHBOUR: 'it returns false'. Refute it at one input. -/
def vecLongWrong : ChangeSpec := { name := "vecLong", fn := fun _ => fun
  | [d] => { results := [.lit (.bool false)], args := [d] }
  | _ => none }
def VecLongWrongFalsely : Prop := vecLongRow.holds Try.pinned (OpenSpec.ofChange vecLongWrong)

/-- 'umbralaw02.FixSquare': WHATEVER THE INPUT: true; the input reads as it did. -/
def fixSquareSpec : ChangeSpec := { name := "fixSquare", fn := fun _ => fun
  | [d] => { results := [.lit (.bool true)], args := [d] }
  | _ => none }
def fixSquareRow : OpenClaim := { program := "ytenefncpokdmnaa", sum := "bf49110d3545094f6ea75e8bbe12a8ed68847da0ee4656929aa49f8e8fb0b3eb", func := "umbra/umbralaw02.FixSquare", spec := "fixSquare", inPlace := ["math/bits.Sub64", "math/bits.Add64"], named := ["math/bits.divideError", "math/bits.overflowError"], apart := false }
def FixSquareSaid : Prop := fixSquareRow.holds Try.pinned (OpenSpec.ofChange fixSquareSpec)

/-- ITS FALSE NEIGHBOUR: 'it returns false'. Refute it at one input. -/
def fixSquareWrong : ChangeSpec := { name := "fixSquare", fn := fun _ => fun
  | [d] => { results := [.lit (.bool false)], args := [d] }
  | _ => none }
def FixSquareWrongFalsely : Prop := fixSquareRow.holds Try.pinned (OpenSpec.ofChange fixSquareWrong)

/-- 'umbralaw02.FixSums': WHATEVER THE INPUT: true; the input reads as it did. -/
def fixSumsSpec : ChangeSpec := { name := "fixSums", fn := fun _ => fun
  | [d1, d2, d3] => { results := [.lit (.bool true)], args := [d1, d2, d3] }
  | _ => none }
def fixSumsRow : OpenClaim := { program := "ytenefncpokdmnaa", sum := "bf49110d3545094f6ea75e8bbe12a8ed68847da0ee4656929aa49f8e8fb0b3eb", func := "umbra/umbralaw02.FixSums", spec := "fixSums", inPlace := ["math/bits.Sub64", "math/bits.Add64"], named := ["math/bits.divideError", "math/bits.overflowError"], apart := false }
def FixSumsSaid : Prop := fixSumsRow.holds Try.pinned (OpenSpec.ofChange fixSumsSpec)

/-- ITS FALSE NEIGHBOUR: 'it returns false'. Refute it at one input. -/
def fixSumsWrong : ChangeSpec := { name := "fixSums", fn := fun _ => fun
  | [d1, d2, d3] => { results := [.lit (.bool false)], args := [d1, d2, d3] }
  | _ => none }
def FixSumsWrongFalsely : Prop := fixSumsRow.holds Try.pinned (OpenSpec.ofChange fixSumsWrong)

/-- 'umbralaw02.FixBetween': WHATEVER THE INPUT: true; the input reads as it did. -/
def fixBetweenSpec : ChangeSpec := { name := "fixBetween", fn := fun _ => fun
  | [d1, d2, d3] => { results := [.lit (.bool true)], args := [d1, d2, d3] }
  | _ => none }
def fixBetweenRow : OpenClaim := { program := "ytenefncpokdmnaa", sum := "bf49110d3545094f6ea75e8bbe12a8ed68847da0ee4656929aa49f8e8fb0b3eb", func := "umbra/umbralaw02.FixBetween", spec := "fixBetween", inPlace := ["math/bits.Sub64", "math/bits.Add64"], named := ["math/bits.divideError", "math/bits.overflowError"], apart := false }
def FixBetweenSaid : Prop := fixBetweenRow.holds Try.pinned (OpenSpec.ofChange fixBetweenSpec)

/-- ITS FALSE NEIGHBOUR: 'it returns false'. Refute it at one input. -/
def fixBetweenWrong : ChangeSpec := { name := "fixBetween", fn := fun _ => fun
  | [d1, d2, d3] => { results := [.lit (.bool false)], args := [d1, d2, d3] }
  | _ => none }
def FixBetweenWrongFalsely : Prop := fixBetweenRow.holds Try.pinned (OpenSpec.ofChange fixBetweenWrong)

/-- 'umbralaw03.VecScales': WHATEVER THE INPUT: true; the input reads as it did. -/
def vecScalesSpec : ChangeSpec := { name := "vecScales", fn := fun _ => fun
  | [d1, d2, d3] => { results := [.lit (.bool true)], args := [d1, d2, d3] }
  | _ => none }
def vecScalesRow : OpenClaim := { program := "ytenefncpokdmnaa", sum := "bf49110d3545094f6ea75e8bbe12a8ed68847da0ee4656929aa49f8e8fb0b3eb", func := "umbra/umbralaw03.VecScales", spec := "vecScales", inPlace := ["math/bits.Sub64", "math/bits.Add64"], unfollowed := true, recurses := true, named := ["math/bits.divideError", "math/bits.overflowError"], apart := false }
def VecScalesSaid : Prop := vecScalesRow.holds Try.pinned (OpenSpec.ofChange vecScalesSpec)

/-- ITS FALSE NEIGHBOUR: 'it returns false'. Refute it at one input. -/
def vecScalesWrong : ChangeSpec := { name := "vecScales", fn := fun _ => fun
  | [d1, d2, d3] => { results := [.lit (.bool false)], args := [d1, d2, d3] }
  | _ => none }
def VecScalesWrongFalsely : Prop := vecScalesRow.holds Try.pinned (OpenSpec.ofChange vecScalesWrong)

/-- 'umbralaw03.VecSums': WHATEVER THE INPUT: true; the input reads as it did. -/
def vecSumsSpec : ChangeSpec := { name := "vecSums", fn := fun _ => fun
  | [d1, d2, d3] => { results := [.lit (.bool true)], args := [d1, d2, d3] }
  | _ => none }
def vecSumsRow : OpenClaim := { program := "ytenefncpokdmnaa", sum := "bf49110d3545094f6ea75e8bbe12a8ed68847da0ee4656929aa49f8e8fb0b3eb", func := "umbra/umbralaw03.VecSums", spec := "vecSums", inPlace := ["math/bits.Sub64", "math/bits.Add64"], unfollowed := true, recurses := true, named := ["math/bits.divideError", "math/bits.overflowError"], apart := false }
def VecSumsSaid : Prop := vecSumsRow.holds Try.pinned (OpenSpec.ofChange vecSumsSpec)

/-- ITS FALSE NEIGHBOUR: 'it returns false'. Refute it at one input. -/
def vecSumsWrong : ChangeSpec := { name := "vecSums", fn := fun _ => fun
  | [d1, d2, d3] => { results := [.lit (.bool false)], args := [d1, d2, d3] }
  | _ => none }
def VecSumsWrongFalsely : Prop := vecSumsRow.holds Try.pinned (OpenSpec.ofChange vecSumsWrong)

/-- 'umbralaw03.VecProducts': WHATEVER THE INPUT: true; the input reads as it did. -/
def vecProductsSpec : ChangeSpec := { name := "vecProducts", fn := fun _ => fun
  | [d1, d2] => { results := [.lit (.bool true)], args := [d1, d2] }
  | _ => none }
def vecProductsRow : OpenClaim := { program := "ytenefncpokdmnaa", sum := "bf49110d3545094f6ea75e8bbe12a8ed68847da0ee4656929aa49f8e8fb0b3eb", func := "umbra/umbralaw03.VecProducts", spec := "vecProducts", inPlace := ["math/bits.Sub64", "math/bits.Add64"], unfollowed := true, recurses := true, named := ["math/bits.divideError", "math/bits.overflowError"], apart := false }
def VecProductsSaid : Prop := vecProductsRow.holds Try.pinned (OpenSpec.ofChange vecProductsSpec)

/-- ITS FALSE NEIGHBOUR: 'it returns false'. Refute it at one input. -/
def vecProductsWrong : ChangeSpec := { name := "vecProducts", fn := fun _ => fun
  | [d1, d2] => { results := [.lit (.bool false)], args := [d1, d2] }
  | _ => none }
def VecProductsWrongFalsely : Prop := vecProductsRow.holds Try.pinned (OpenSpec.ofChange vecProductsWrong)

/-- 'umbralaw03.VecSelf': WHATEVER THE INPUT: true; the input reads as it did. -/
def vecSelfSpec : ChangeSpec := { name := "vecSelf", fn := fun _ => fun
  | [d1, d2] => { results := [.lit (.bool true)], args := [d1, d2] }
  | _ => none }
def vecSelfRow : OpenClaim := { program := "ytenefncpokdmnaa", sum := "bf49110d3545094f6ea75e8bbe12a8ed68847da0ee4656929aa49f8e8fb0b3eb", func := "umbra/umbralaw03.VecSelf", spec := "vecSelf", inPlace := ["math/bits.Sub64", "math/bits.Add64"], unfollowed := true, recurses := true, named := ["math/bits.divideError", "math/bits.overflowError"], apart := false }
def VecSelfSaid : Prop := vecSelfRow.holds Try.pinned (OpenSpec.ofChange vecSelfSpec)

/-- ITS FALSE NEIGHBOUR: 'it returns false'. Refute it at one input. -/
def vecSelfWrong : ChangeSpec := { name := "vecSelf", fn := fun _ => fun
  | [d1, d2] => { results := [.lit (.bool false)], args := [d1, d2] }
  | _ => none }
def VecSelfWrongFalsely : Prop := vecSelfRow.holds Try.pinned (OpenSpec.ofChange vecSelfWrong)

/- THE SECOND FORM. 'bulk': how many values and letters a reading holds, each counted each time it is reached (what is shared counts as often as it is met; a slice's spare places count too). A statement '..UptoSaid' is the law's where the arguments, and the package variables that the reading takes, are together of bulk at most 1048576: NARROWER than '..Said'. Prove '..Said' where nothing that the law and all that it calls make is longer than what came in: it says more and counts as full. Else prove '..UptoSaid'. A law counts once. -/
mutual
def uptoBulk {H : Type} : DataW H → Nat
  | .lit (.string bytes) => bytes.length + 1
  | .lit _ => 1
  | .nil => 1
  | .ptr d => uptoBulk d + 1
  | .slice elems spare => uptoBulkAll elems + uptoBulkAll spare + 1
  | .agg parts => uptoBulkAll parts + 1
  | .iface _ d => uptoBulk d + 1
  | .map entries => uptoBulkEntries entries + 1
  | .held _ => 1
def uptoBulkAll {H : Type} : List (DataW H) → Nat
  | [] => 0
  | d :: r => uptoBulk d + uptoBulkAll r
def uptoBulkEntries {H : Type} : List (Lit × DataW H) → Nat
  | [] => 0
  | x :: r => uptoBulkEntry x + uptoBulkEntries r
def uptoBulkEntry {H : Type} : Lit × DataW H → Nat
  | (.string bytes, d) => bytes.length + uptoBulk d + 1
  | (_, d) => uptoBulk d + 1
 end
def uptoSmall : (H : Type) → List (DataW H) → Bool := fun _ ds => decide (uptoBulkAll ds ≤ 1048576)
def OpenSpec.upto (s : _root_.Go.ChangeSpec) : _root_.Go.OpenSpec := { _root_.Go.OpenSpec.ofChange s with cond := some uptoSmall }

/-- 'umbralaw03.VecNear', WHERE WHAT IT READS IS OF BULK AT MOST 1048576: true; the input reads as it did. -/
def vecNearUptoRow : OpenClaim := { program := "ytenefncpokdmnaa", sum := "bf49110d3545094f6ea75e8bbe12a8ed68847da0ee4656929aa49f8e8fb0b3eb", func := "umbra/umbralaw03.VecNear", spec := "vecNear", inPlace := ["math/bits.Sub64", "math/bits.Add64"], unfollowed := true, recurses := true, named := ["math/bits.divideError", "math/bits.overflowError"], apart := false, narrowed := true }
def VecNearUptoSaid : Prop := vecNearUptoRow.holds Try.pinned (OpenSpec.upto vecNearSpec)

/-- 'umbralaw02.FixProducts', WHERE WHAT IT READS IS OF BULK AT MOST 1048576: true; the input reads as it did. -/
def fixProductsUptoRow : OpenClaim := { program := "ytenefncpokdmnaa", sum := "bf49110d3545094f6ea75e8bbe12a8ed68847da0ee4656929aa49f8e8fb0b3eb", func := "umbra/umbralaw02.FixProducts", spec := "fixProducts", inPlace := ["math/bits.Sub64", "math/bits.Add64"], named := ["math/bits.divideError", "math/bits.overflowError"], apart := false, narrowed := true }
def FixProductsUptoSaid : Prop := fixProductsUptoRow.holds Try.pinned (OpenSpec.upto fixProductsSpec)

/-- 'umbralaw02.FixTurns', WHERE WHAT IT READS IS OF BULK AT MOST 1048576: true; the input reads as it did. -/
def fixTurnsUptoRow : OpenClaim := { program := "ytenefncpokdmnaa", sum := "bf49110d3545094f6ea75e8bbe12a8ed68847da0ee4656929aa49f8e8fb0b3eb", func := "umbra/umbralaw02.FixTurns", spec := "fixTurns", inPlace := ["math/bits.Sub64", "math/bits.Add64"], named := ["math/bits.divideError", "math/bits.overflowError"], apart := false, narrowed := true }
def FixTurnsUptoSaid : Prop := fixTurnsUptoRow.holds Try.pinned (OpenSpec.upto fixTurnsSpec)

/-- 'umbralaw02.FixWholes', WHERE WHAT IT READS IS OF BULK AT MOST 1048576: true; the input reads as it did. -/
def fixWholesUptoRow : OpenClaim := { program := "ytenefncpokdmnaa", sum := "bf49110d3545094f6ea75e8bbe12a8ed68847da0ee4656929aa49f8e8fb0b3eb", func := "umbra/umbralaw02.FixWholes", spec := "fixWholes", inPlace := ["math/bits.Sub64", "math/bits.Add64"], named := ["math/bits.divideError", "math/bits.overflowError"], apart := false, narrowed := true }
def FixWholesUptoSaid : Prop := fixWholesUptoRow.holds Try.pinned (OpenSpec.upto fixWholesSpec)

/-- 'umbralaw02.FixExact', WHERE WHAT IT READS IS OF BULK AT MOST 1048576: true; the input reads as it did. -/
def fixExactUptoRow : OpenClaim := { program := "ytenefncpokdmnaa", sum := "bf49110d3545094f6ea75e8bbe12a8ed68847da0ee4656929aa49f8e8fb0b3eb", func := "umbra/umbralaw02.FixExact", spec := "fixExact", inPlace := ["math/bits.Sub64", "math/bits.Add64"], named := ["math/bits.divideError", "math/bits.overflowError"], apart := false, narrowed := true }
def FixExactUptoSaid : Prop := fixExactUptoRow.holds Try.pinned (OpenSpec.upto fixExactSpec)

/-- 'umbralaw03.VecUnits', WHERE WHAT IT READS IS OF BULK AT MOST 1048576: true; the input reads as it did. -/
def vecUnitsUptoRow : OpenClaim := { program := "ytenefncpokdmnaa", sum := "bf49110d3545094f6ea75e8bbe12a8ed68847da0ee4656929aa49f8e8fb0b3eb", func := "umbra/umbralaw03.VecUnits", spec := "vecUnits", inPlace := ["math/bits.Sub64", "math/bits.Add64"], unfollowed := true, recurses := true, named := ["math/bits.divideError", "math/bits.overflowError"], apart := false, narrowed := true }
def VecUnitsUptoSaid : Prop := vecUnitsUptoRow.holds Try.pinned (OpenSpec.upto vecUnitsSpec)

/-- 'umbralaw03.VecLong', WHERE WHAT IT READS IS OF BULK AT MOST 1048576: true; the input reads as it did. -/
def vecLongUptoRow : OpenClaim := { program := "ytenefncpokdmnaa", sum := "bf49110d3545094f6ea75e8bbe12a8ed68847da0ee4656929aa49f8e8fb0b3eb", func := "umbra/umbralaw03.VecLong", spec := "vecLong", inPlace := ["math/bits.Sub64", "math/bits.Add64"], unfollowed := true, recurses := true, named := ["math/bits.divideError", "math/bits.overflowError"], apart := false, narrowed := true }
def VecLongUptoSaid : Prop := vecLongUptoRow.holds Try.pinned (OpenSpec.upto vecLongSpec)

/-- 'umbralaw02.FixSquare', WHERE WHAT IT READS IS OF BULK AT MOST 1048576: true; the input reads as it did. -/
def fixSquareUptoRow : OpenClaim := { program := "ytenefncpokdmnaa", sum := "bf49110d3545094f6ea75e8bbe12a8ed68847da0ee4656929aa49f8e8fb0b3eb", func := "umbra/umbralaw02.FixSquare", spec := "fixSquare", inPlace := ["math/bits.Sub64", "math/bits.Add64"], named := ["math/bits.divideError", "math/bits.overflowError"], apart := false, narrowed := true }
def FixSquareUptoSaid : Prop := fixSquareUptoRow.holds Try.pinned (OpenSpec.upto fixSquareSpec)

/-- 'umbralaw02.FixSums', WHERE WHAT IT READS IS OF BULK AT MOST 1048576: true; the input reads as it did. -/
def fixSumsUptoRow : OpenClaim := { program := "ytenefncpokdmnaa", sum := "bf49110d3545094f6ea75e8bbe12a8ed68847da0ee4656929aa49f8e8fb0b3eb", func := "umbra/umbralaw02.FixSums", spec := "fixSums", inPlace := ["math/bits.Sub64", "math/bits.Add64"], named := ["math/bits.divideError", "math/bits.overflowError"], apart := false, narrowed := true }
def FixSumsUptoSaid : Prop := fixSumsUptoRow.holds Try.pinned (OpenSpec.upto fixSumsSpec)

/-- 'umbralaw02.FixBetween', WHERE WHAT IT READS IS OF BULK AT MOST 1048576: true; the input reads as it did. -/
def fixBetweenUptoRow : OpenClaim := { program := "ytenefncpokdmnaa", sum := "bf49110d3545094f6ea75e8bbe12a8ed68847da0ee4656929aa49f8e8fb0b3eb", func := "umbra/umbralaw02.FixBetween", spec := "fixBetween", inPlace := ["math/bits.Sub64", "math/bits.Add64"], named := ["math/bits.divideError", "math/bits.overflowError"], apart := false, narrowed := true }
def FixBetweenUptoSaid : Prop := fixBetweenUptoRow.holds Try.pinned (OpenSpec.upto fixBetweenSpec)

/-- 'umbralaw03.VecScales', WHERE WHAT IT READS IS OF BULK AT MOST 1048576: true; the input reads as it did. -/
def vecScalesUptoRow : OpenClaim := { program := "ytenefncpokdmnaa", sum := "bf49110d3545094f6ea75e8bbe12a8ed68847da0ee4656929aa49f8e8fb0b3eb", func := "umbra/umbralaw03.VecScales", spec := "vecScales", inPlace := ["math/bits.Sub64", "math/bits.Add64"], unfollowed := true, recurses := true, named := ["math/bits.divideError", "math/bits.overflowError"], apart := false, narrowed := true }
def VecScalesUptoSaid : Prop := vecScalesUptoRow.holds Try.pinned (OpenSpec.upto vecScalesSpec)

/-- 'umbralaw03.VecSums', WHERE WHAT IT READS IS OF BULK AT MOST 1048576: true; the input reads as it did. -/
def vecSumsUptoRow : OpenClaim := { program := "ytenefncpokdmnaa", sum := "bf49110d3545094f6ea75e8bbe12a8ed68847da0ee4656929aa49f8e8fb0b3eb", func := "umbra/umbralaw03.VecSums", spec := "vecSums", inPlace := ["math/bits.Sub64", "math/bits.Add64"], unfollowed := true, recurses := true, named := ["math/bits.divideError", "math/bits.overflowError"], apart := false, narrowed := true }
def VecSumsUptoSaid : Prop := vecSumsUptoRow.holds Try.pinned (OpenSpec.upto vecSumsSpec)

/-- 'umbralaw03.VecProducts', WHERE WHAT IT READS IS OF BULK AT MOST 1048576: true; the input reads as it did. -/
def vecProductsUptoRow : OpenClaim := { program := "ytenefncpokdmnaa", sum := "bf49110d3545094f6ea75e8bbe12a8ed68847da0ee4656929aa49f8e8fb0b3eb", func := "umbra/umbralaw03.VecProducts", spec := "vecProducts", inPlace := ["math/bits.Sub64", "math/bits.Add64"], unfollowed := true, recurses := true, named := ["math/bits.divideError", "math/bits.overflowError"], apart := false, narrowed := true }
def VecProductsUptoSaid : Prop := vecProductsUptoRow.holds Try.pinned (OpenSpec.upto vecProductsSpec)

/-- 'umbralaw03.VecSelf', WHERE WHAT IT READS IS OF BULK AT MOST 1048576: true; the input reads as it did. -/
def vecSelfUptoRow : OpenClaim := { program := "ytenefncpokdmnaa", sum := "bf49110d3545094f6ea75e8bbe12a8ed68847da0ee4656929aa49f8e8fb0b3eb", func := "umbra/umbralaw03.VecSelf", spec := "vecSelf", inPlace := ["math/bits.Sub64", "math/bits.Add64"], unfollowed := true, recurses := true, named := ["math/bits.divideError", "math/bits.overflowError"], apart := false, narrowed := true }
def VecSelfUptoSaid : Prop := vecSelfUptoRow.holds Try.pinned (OpenSpec.upto vecSelfSpec)

end Rows
end Go.Proofs.Ytenefncpokdmnaa
