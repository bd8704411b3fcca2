/-
  No cell of these rows narrows 'for every input' (looked for: loops, veiled, ifaces, maps, wideKeys, modest, calm, conditions, laid).
  DERIVED. THE GIVEN ROWS OF THIS SEAT. 13 by the template 'for every input the law returns true; each argument reads behind the call as it read before'; 0 by the template 'total and deterministic' (their statements: YtbfgmedjogjkeaaTotals.lean).
  GIVEN WITH THE SEED: the statements are not yours to turn. If you find one false, say at which input.
  Laid BY PROGRAM, IN A SANDBOX (cutbox-rows.mjs): the forced cells as the released guide's own fill.sh prints them over the translation c84c06b09cac06b7… (all of the seat's roots in one cut). By AI agents, Wed Nov 11 2026. No macro, syntax, notation, axiom, sorry.
-/
import Derived.Test.YtbfgmedjogjkeaaChecked
import GoSem.Claim
import GoSem.ClaimJoined
import GoSem.ClaimMapViews
import Derived.JoinedTies
import Derived.KernelRfl
namespace Go.Proofs.Ytbfgmedjogjkeaa
/- THE CELL 'sum', in the pinned program and in every row, IS THE sha256 OF THE DUMP (.gsa) THAT YtbfgmedjogjkeaaProg.lean LOADS. Nothing in Lean hashes anything: it is a label: what it is worth is what the hold of that sum in a sandbox is worth. -/
noncomputable def Try.pinned : Pinned := { name := "ytbfgmedjogjkeaa", sum := "c84c06b09cac06b74b661a88e626c2a855707593e17db4454681a9c1e85bcd5d", checked := Try.checked }
namespace Rows
def none {H : Type} : Left H := { results := [], args := [] }

/-- 'umbralaw05.OctaEncodes': WHATEVER THE INPUT: true; the input reads as it did. -/
def octaEncodesSpec : ChangeSpec := { name := "octaEncodes", fn := fun _ => fun
  | [d] => { results := [.lit (.bool true)], args := [d] }
  | _ => none }
def octaEncodesRow : OpenClaim := { program := "ytbfgmedjogjkeaa", sum := "c84c06b09cac06b74b661a88e626c2a855707593e17db4454681a9c1e85bcd5d", func := "umbra/umbralaw05.OctaEncodes", spec := "octaEncodes", inPlace := ["math/bits.Sub64", "math/bits.Add64"], unfollowed := true, recurses := true, named := ["math/bits.divideError", "math/bits.overflowError"], apart := false }
def OctaEncodesSaid : Prop := octaEncodesRow.holds Try.pinned (OpenSpec.ofChange octaEncodesSpec)

/-- ITS FALSE NEIGHBOUR: 'it returns false'. Refute it at one input. -/
def octaEncodesWrong : ChangeSpec := { name := "octaEncodes", fn := fun _ => fun
  | [d] => { results := [.lit (.bool false)], args := [d] }
  | _ => none }
def OctaEncodesWrongFalsely : Prop := octaEncodesRow.holds Try.pinned (OpenSpec.ofChange octaEncodesWrong)

/-- 'umbralaw05.OctaNear': WHATEVER THE INPUT: true; the input reads as it did. -/
def octaNearSpec : ChangeSpec := { name := "octaNear", fn := fun _ => fun
  | [d] => { results := [.lit (.bool true)], args := [d] }
  | _ => none }
def octaNearRow : OpenClaim := { program := "ytbfgmedjogjkeaa", sum := "c84c06b09cac06b74b661a88e626c2a855707593e17db4454681a9c1e85bcd5d", func := "umbra/umbralaw05.OctaNear", spec := "octaNear", inPlace := ["math/bits.Sub64", "math/bits.Add64"], unfollowed := true, recurses := true, named := ["math/bits.divideError", "math/bits.overflowError"], apart := false }
def OctaNearSaid : Prop := octaNearRow.holds Try.pinned (OpenSpec.ofChange octaNearSpec)

/-- ITS FALSE NEIGHBOUR: 'it returns false'. Refute it at one input. -/
def octaNearWrong : ChangeSpec := { name := "octaNear", fn := fun _ => fun
  | [d] => { results := [.lit (.bool false)], args := [d] }
  | _ => none }
def OctaNearWrongFalsely : Prop := octaNearRow.holds Try.pinned (OpenSpec.ofChange octaNearWrong)

/-- 'umbralaw05.OctaDecodes': WHATEVER THE INPUT: true; the input reads as it did. -/
def octaDecodesSpec : ChangeSpec := { name := "octaDecodes", fn := fun _ => fun
  | [d] => { results := [.lit (.bool true)], args := [d] }
  | _ => none }
def octaDecodesRow : OpenClaim := { program := "ytbfgmedjogjkeaa", sum := "c84c06b09cac06b74b661a88e626c2a855707593e17db4454681a9c1e85bcd5d", func := "umbra/umbralaw05.OctaDecodes", spec := "octaDecodes", inPlace := ["math/bits.Sub64", "math/bits.Add64"], unfollowed := true, recurses := true, named := ["math/bits.divideError", "math/bits.overflowError"], apart := false }
def OctaDecodesSaid : Prop := octaDecodesRow.holds Try.pinned (OpenSpec.ofChange octaDecodesSpec)

/-- ITS FALSE NEIGHBOUR: 'it returns false'. Refute it at one input. -/
def octaDecodesWrong : ChangeSpec := { name := "octaDecodes", fn := fun _ => fun
  | [d] => { results := [.lit (.bool false)], args := [d] }
  | _ => none }
def OctaDecodesWrongFalsely : Prop := octaDecodesRow.holds Try.pinned (OpenSpec.ofChange octaDecodesWrong)

/-- 'umbralaw05.OctaBack': WHATEVER THE INPUT: true; the input reads as it did. -/
def octaBackSpec : ChangeSpec := { name := "octaBack", fn := fun _ => fun
  | [d] => { results := [.lit (.bool true)], args := [d] }
  | _ => none }
def octaBackRow : OpenClaim := { program := "ytbfgmedjogjkeaa", sum := "c84c06b09cac06b74b661a88e626c2a855707593e17db4454681a9c1e85bcd5d", func := "umbra/umbralaw05.OctaBack", spec := "octaBack", inPlace := ["math/bits.Sub64", "math/bits.Add64"], unfollowed := true, recurses := true, named := ["math/bits.divideError", "math/bits.overflowError"], apart := false }
def OctaBackSaid : Prop := octaBackRow.holds Try.pinned (OpenSpec.ofChange octaBackSpec)

/-- ITS FALSE NEIGHBOUR: 'it returns false'. Refute it at one input. -/
def octaBackWrong : ChangeSpec := { name := "octaBack", fn := fun _ => fun
  | [d] => { results := [.lit (.bool false)], args := [d] }
  | _ => none }
def OctaBackWrongFalsely : Prop := octaBackRow.holds Try.pinned (OpenSpec.ofChange octaBackWrong)

/-- 'umbralaw05.OctaQuants': WHATEVER THE INPUT: true; the input reads as it did. -/
def octaQuantsSpec : ChangeSpec := { name := "octaQuants", fn := fun _ => fun
  | [d1, d2, d3] => { results := [.lit (.bool true)], args := [d1, d2, d3] }
  | _ => none }
def octaQuantsRow : OpenClaim := { program := "ytbfgmedjogjkeaa", sum := "c84c06b09cac06b74b661a88e626c2a855707593e17db4454681a9c1e85bcd5d", func := "umbra/umbralaw05.OctaQuants", spec := "octaQuants", inPlace := ["math/bits.Sub64", "math/bits.Add64"], unfollowed := true, recurses := true, named := ["math/bits.divideError", "math/bits.overflowError"], apart := false }
def OctaQuantsSaid : Prop := octaQuantsRow.holds Try.pinned (OpenSpec.ofChange octaQuantsSpec)

/-- ITS FALSE NEIGHBOUR: 'it returns false'. Refute it at one input. -/
def octaQuantsWrong : ChangeSpec := { name := "octaQuants", fn := fun _ => fun
  | [d1, d2, d3] => { results := [.lit (.bool false)], args := [d1, d2, d3] }
  | _ => none }
def OctaQuantsWrongFalsely : Prop := octaQuantsRow.holds Try.pinned (OpenSpec.ofChange octaQuantsWrong)

/-- 'umbralaw05.OctaLong': WHATEVER THE INPUT: true; the input reads as it did. -/
def octaLongSpec : ChangeSpec := { name := "octaLong", fn := fun _ => fun
  | [d1, d2] => { results := [.lit (.bool true)], args := [d1, d2] }
  | _ => none }
def octaLongRow : OpenClaim := { program := "ytbfgmedjogjkeaa", sum := "c84c06b09cac06b74b661a88e626c2a855707593e17db4454681a9c1e85bcd5d", func := "umbra/umbralaw05.OctaLong", spec := "octaLong", inPlace := ["math/bits.Sub64", "math/bits.Add64"], unfollowed := true, recurses := true, named := ["math/bits.divideError", "math/bits.overflowError"], apart := false }
def OctaLongSaid : Prop := octaLongRow.holds Try.pinned (OpenSpec.ofChange octaLongSpec)

/-- ITS FALSE NEIGHBOUR: 'it returns false'. Refute it at one input. -/
def octaLongWrong : ChangeSpec := { name := "octaLong", fn := fun _ => fun
  | [d1, d2] => { results := [.lit (.bool false)], args := [d1, d2] }
  | _ => none }
def OctaLongWrongFalsely : Prop := octaLongRow.holds Try.pinned (OpenSpec.ofChange octaLongWrong)

/-- 'umbralaw20.TriHits': WHATEVER THE INPUT: true; the input reads as it did. -/
def triHitsSpec : ChangeSpec := { name := "triHits", fn := fun _ => fun
  | [d1, d2, d3] => { results := [.lit (.bool true)], args := [d1, d2, d3] }
  | _ => none }
def triHitsRow : OpenClaim := { program := "ytbfgmedjogjkeaa", sum := "c84c06b09cac06b74b661a88e626c2a855707593e17db4454681a9c1e85bcd5d", func := "umbra/umbralaw20.TriHits", spec := "triHits", inPlace := ["math/bits.Add64", "math/bits.Sub64"], unfollowed := true, recurses := true, named := ["math/bits.divideError", "math/bits.overflowError"], apart := false }
def TriHitsSaid : Prop := triHitsRow.holds Try.pinned (OpenSpec.ofChange triHitsSpec)

/-- ITS FALSE NEIGHBOUR: 'it returns false'. Refute it at one input. -/
def triHitsWrong : ChangeSpec := { name := "triHits", fn := fun _ => fun
  | [d1, d2, d3] => { results := [.lit (.bool false)], args := [d1, d2, d3] }
  | _ => none }
def TriHitsWrongFalsely : Prop := triHitsRow.holds Try.pinned (OpenSpec.ofChange triHitsWrong)

/-- 'umbralaw20.TriExact': WHATEVER THE INPUT: true; the input reads as it did. -/
def triExactSpec : ChangeSpec := { name := "triExact", fn := fun _ => fun
  | [d1, d2, d3] => { results := [.lit (.bool true)], args := [d1, d2, d3] }
  | _ => none }
def triExactRow : OpenClaim := { program := "ytbfgmedjogjkeaa", sum := "c84c06b09cac06b74b661a88e626c2a855707593e17db4454681a9c1e85bcd5d", func := "umbra/umbralaw20.TriExact", spec := "triExact", inPlace := ["math/bits.Add64", "math/bits.Sub64"], unfollowed := true, recurses := true, named := ["math/bits.divideError", "math/bits.overflowError"], apart := false }
def TriExactSaid : Prop := triExactRow.holds Try.pinned (OpenSpec.ofChange triExactSpec)

/-- ITS FALSE NEIGHBOUR: 'it returns false'. Refute it at one input. -/
def triExactWrong : ChangeSpec := { name := "triExact", fn := fun _ => fun
  | [d1, d2, d3] => { results := [.lit (.bool false)], args := [d1, d2, d3] }
  | _ => none }
def TriExactWrongFalsely : Prop := triExactRow.holds Try.pinned (OpenSpec.ofChange triExactWrong)

/-- 'umbralaw20.TriAimed': WHATEVER THE INPUT: true; the input reads as it did. -/
def triAimedSpec : ChangeSpec := { name := "triAimed", fn := fun _ => fun
  | [d1, d2] => { results := [.lit (.bool true)], args := [d1, d2] }
  | _ => none }
def triAimedRow : OpenClaim := { program := "ytbfgmedjogjkeaa", sum := "c84c06b09cac06b74b661a88e626c2a855707593e17db4454681a9c1e85bcd5d", func := "umbra/umbralaw20.TriAimed", spec := "triAimed", inPlace := ["math/bits.Add64", "math/bits.Sub64"], unfollowed := true, recurses := true, named := ["math/bits.divideError", "math/bits.overflowError"], apart := false }
def TriAimedSaid : Prop := triAimedRow.holds Try.pinned (OpenSpec.ofChange triAimedSpec)

/-- ITS FALSE NEIGHBOUR: 'it returns false'. Refute it at one input. -/
def triAimedWrong : ChangeSpec := { name := "triAimed", fn := fun _ => fun
  | [d1, d2] => { results := [.lit (.bool false)], args := [d1, d2] }
  | _ => none }
def TriAimedWrongFalsely : Prop := triAimedRow.holds Try.pinned (OpenSpec.ofChange triAimedWrong)

/-- 'umbralaw20.TriMeets': WHATEVER THE INPUT: true; the input reads as it did. -/
def triMeetsSpec : ChangeSpec := { name := "triMeets", fn := fun _ => fun
  | [d1, d2, d3] => { results := [.lit (.bool true)], args := [d1, d2, d3] }
  | _ => none }
def triMeetsRow : OpenClaim := { program := "ytbfgmedjogjkeaa", sum := "c84c06b09cac06b74b661a88e626c2a855707593e17db4454681a9c1e85bcd5d", func := "umbra/umbralaw20.TriMeets", spec := "triMeets", inPlace := ["math/bits.Sub64", "math/bits.Add64"], unfollowed := true, recurses := true, named := ["math/bits.divideError", "math/bits.overflowError"], apart := false }
def TriMeetsSaid : Prop := triMeetsRow.holds Try.pinned (OpenSpec.ofChange triMeetsSpec)

/-- ITS FALSE NEIGHBOUR: 'it returns false'. Refute it at one input. -/
def triMeetsWrong : ChangeSpec := { name := "triMeets", fn := fun _ => fun
  | [d1, d2, d3] => { results := [.lit (.bool false)], args := [d1, d2, d3] }
  | _ => none }
def TriMeetsWrongFalsely : Prop := triMeetsRow.holds Try.pinned (OpenSpec.ofChange triMeetsWrong)

/-- 'umbralaw20.TriTurned': WHATEVER THE INPUT: true; the input reads as it did. -/
def triTurnedSpec : ChangeSpec := { name := "triTurned", fn := fun _ => fun
  | [d1, d2, d3] => { results := [.lit (.bool true)], args := [d1, d2, d3] }
  | _ => none }
def triTurnedRow : OpenClaim := { program := "ytbfgmedjogjkeaa", sum := "c84c06b09cac06b74b661a88e626c2a855707593e17db4454681a9c1e85bcd5d", func := "umbra/umbralaw20.TriTurned", spec := "triTurned", inPlace := ["math/bits.Sub64", "math/bits.Add64"], unfollowed := true, recurses := true, named := ["math/bits.divideError", "math/bits.overflowError"], apart := false }
def TriTurnedSaid : Prop := triTurnedRow.holds Try.pinned (OpenSpec.ofChange triTurnedSpec)

/-- ITS FALSE NEIGHBOUR: 'it returns false'. Refute it at one input. -/
def triTurnedWrong : ChangeSpec := { name := "triTurned", fn := fun _ => fun
  | [d1, d2, d3] => { results := [.lit (.bool false)], args := [d1, d2, d3] }
  | _ => none }
def TriTurnedWrongFalsely : Prop := triTurnedRow.holds Try.pinned (OpenSpec.ofChange triTurnedWrong)

/-- 'umbralaw20.TriOrder': WHATEVER THE INPUT: true; the input reads as it did. -/
def triOrderSpec : ChangeSpec := { name := "triOrder", fn := fun _ => fun
  | [d1, d2, d3] => { results := [.lit (.bool true)], args := [d1, d2, d3] }
  | _ => none }
def triOrderRow : OpenClaim := { program := "ytbfgmedjogjkeaa", sum := "c84c06b09cac06b74b661a88e626c2a855707593e17db4454681a9c1e85bcd5d", func := "umbra/umbralaw20.TriOrder", spec := "triOrder", inPlace := ["math/bits.Sub64", "math/bits.Add64"], unfollowed := true, recurses := true, named := ["math/bits.divideError", "math/bits.overflowError"], apart := false }
def TriOrderSaid : Prop := triOrderRow.holds Try.pinned (OpenSpec.ofChange triOrderSpec)

/-- ITS FALSE NEIGHBOUR: 'it returns false'. Refute it at one input. -/
def triOrderWrong : ChangeSpec := { name := "triOrder", fn := fun _ => fun
  | [d1, d2, d3] => { results := [.lit (.bool false)], args := [d1, d2, d3] }
  | _ => none }
def TriOrderWrongFalsely : Prop := triOrderRow.holds Try.pinned (OpenSpec.ofChange triOrderWrong)

/-- 'umbralaw20.TriPoints': WHATEVER THE INPUT: true; the input reads as it did. -/
def triPointsSpec : ChangeSpec := { name := "triPoints", fn := fun _ => fun
  | [d1, d2, d3] => { results := [.lit (.bool true)], args := [d1, d2, d3] }
  | _ => none }
def triPointsRow : OpenClaim := { program := "ytbfgmedjogjkeaa", sum := "c84c06b09cac06b74b661a88e626c2a855707593e17db4454681a9c1e85bcd5d", func := "umbra/umbralaw20.TriPoints", spec := "triPoints", inPlace := ["math/bits.Add64", "math/bits.Sub64"], unfollowed := true, recurses := true, named := ["math/bits.divideError", "math/bits.overflowError"], apart := false }
def TriPointsSaid : Prop := triPointsRow.holds Try.pinned (OpenSpec.ofChange triPointsSpec)

/-- ITS FALSE NEIGHBOUR: 'it returns false'. Refute it at one input. -/
def triPointsWrong : ChangeSpec := { name := "triPoints", fn := fun _ => fun
  | [d1, d2, d3] => { results := [.lit (.bool false)], args := [d1, d2, d3] }
  | _ => none }
def TriPointsWrongFalsely : Prop := triPointsRow.holds Try.pinned (OpenSpec.ofChange triPointsWrong)

/- THE SECOND FORM. 'bulk': how many values and letters a reading holds, each counted each time it is reached (what is shared counts as often as it is met; a slice's spare places count too). A statement '..UptoSaid' is the law's where the arguments, and the package variables that the reading takes, are together of bulk at most 1048576: NARROWER than '..Said'. Prove '..Said' where nothing that the law and all that it calls make is longer than what came in: it says more and counts as full. Else prove '..UptoSaid'. A law counts once. -/
mutual
def uptoBulk {H : Type} : DataW H → Nat
  | .lit (.string bytes) => bytes.length + 1
  | .lit _ => 1
  | .nil => 1
  | .ptr d => uptoBulk d + 1
  | .slice elems spare => uptoBulkAll elems + uptoBulkAll spare + 1
  | .agg parts => uptoBulkAll parts + 1
  | .iface _ d => uptoBulk d + 1
  | .map entries => uptoBulkEntries entries + 1
  | .held _ => 1
def uptoBulkAll {H : Type} : List (DataW H) → Nat
  | [] => 0
  | d :: r => uptoBulk d + uptoBulkAll r
def uptoBulkEntries {H : Type} : List (Lit × DataW H) → Nat
  | [] => 0
  | x :: r => uptoBulkEntry x + uptoBulkEntries r
def uptoBulkEntry {H : Type} : Lit × DataW H → Nat
  | (.string bytes, d) => bytes.length + uptoBulk d + 1
  | (_, d) => uptoBulk d + 1
 end
def uptoSmall : (H : Type) → List (DataW H) → Bool := fun _ ds => decide (uptoBulkAll ds ≤ 1048576)
def OpenSpec.upto (s : _root_.Go.ChangeSpec) : _root_.Go.OpenSpec := { _root_.Go.OpenSpec.ofChange s with cond := some uptoSmall }

/-- 'umbralaw05.OctaEncodes', WHERE WHAT IT READS IS OF BULK AT MOST 1048576: true; the input reads as it did. -/
def octaEncodesUptoRow : OpenClaim := { program := "ytbfgmedjogjkeaa", sum := "c84c06b09cac06b74b661a88e626c2a855707593e17db4454681a9c1e85bcd5d", func := "umbra/umbralaw05.OctaEncodes", spec := "octaEncodes", inPlace := ["math/bits.Sub64", "math/bits.Add64"], unfollowed := true, recurses := true, named := ["math/bits.divideError", "math/bits.overflowError"], apart := false, narrowed := true }
def OctaEncodesUptoSaid : Prop := octaEncodesUptoRow.holds Try.pinned (OpenSpec.upto octaEncodesSpec)

/-- 'umbralaw05.OctaNear', WHERE WHAT IT READS IS OF BULK AT MOST 1048576: true; the input reads as it did. -/
def octaNearUptoRow : OpenClaim := { program := "ytbfgmedjogjkeaa", sum := "c84c06b09cac06b74b661a88e626c2a855707593e17db4454681a9c1e85bcd5d", func := "umbra/umbralaw05.OctaNear", spec := "octaNear", inPlace := ["math/bits.Sub64", "math/bits.Add64"], unfollowed := true, recurses := true, named := ["math/bits.divideError", "math/bits.overflowError"], apart := false, narrowed := true }
def OctaNearUptoSaid : Prop := octaNearUptoRow.holds Try.pinned (OpenSpec.upto octaNearSpec)

/-- 'umbralaw05.OctaDecodes', WHERE WHAT IT READS IS OF BULK AT MOST 1048576: true; the input reads as it did. -/
def octaDecodesUptoRow : OpenClaim := { program := "ytbfgmedjogjkeaa", sum := "c84c06b09cac06b74b661a88e626c2a855707593e17db4454681a9c1e85bcd5d", func := "umbra/umbralaw05.OctaDecodes", spec := "octaDecodes", inPlace := ["math/bits.Sub64", "math/bits.Add64"], unfollowed := true, recurses := true, named := ["math/bits.divideError", "math/bits.overflowError"], apart := false, narrowed := true }
def OctaDecodesUptoSaid : Prop := octaDecodesUptoRow.holds Try.pinned (OpenSpec.upto octaDecodesSpec)

/-- 'umbralaw05.OctaBack', WHERE WHAT IT READS IS OF BULK AT MOST 1048576: true; the input reads as it did. -/
def octaBackUptoRow : OpenClaim := { program := "ytbfgmedjogjkeaa", sum := "c84c06b09cac06b74b661a88e626c2a855707593e17db4454681a9c1e85bcd5d", func := "umbra/umbralaw05.OctaBack", spec := "octaBack", inPlace := ["math/bits.Sub64", "math/bits.Add64"], unfollowed := true, recurses := true, named := ["math/bits.divideError", "math/bits.overflowError"], apart := false, narrowed := true }
def OctaBackUptoSaid : Prop := octaBackUptoRow.holds Try.pinned (OpenSpec.upto octaBackSpec)

/-- 'umbralaw05.OctaQuants', WHERE WHAT IT READS IS OF BULK AT MOST 1048576: true; the input reads as it did. -/
def octaQuantsUptoRow : OpenClaim := { program := "ytbfgmedjogjkeaa", sum := "c84c06b09cac06b74b661a88e626c2a855707593e17db4454681a9c1e85bcd5d", func := "umbra/umbralaw05.OctaQuants", spec := "octaQuants", inPlace := ["math/bits.Sub64", "math/bits.Add64"], unfollowed := true, recurses := true, named := ["math/bits.divideError", "math/bits.overflowError"], apart := false, narrowed := true }
def OctaQuantsUptoSaid : Prop := octaQuantsUptoRow.holds Try.pinned (OpenSpec.upto octaQuantsSpec)

/-- 'umbralaw05.OctaLong', WHERE WHAT IT READS IS OF BULK AT MOST 1048576: true; the input reads as it did. -/
def octaLongUptoRow : OpenClaim := { program := "ytbfgmedjogjkeaa", sum := "c84c06b09cac06b74b661a88e626c2a855707593e17db4454681a9c1e85bcd5d", func := "umbra/umbralaw05.OctaLong", spec := "octaLong", inPlace := ["math/bits.Sub64", "math/bits.Add64"], unfollowed := true, recurses := true, named := ["math/bits.divideError", "math/bits.overflowError"], apart := false, narrowed := true }
def OctaLongUptoSaid : Prop := octaLongUptoRow.holds Try.pinned (OpenSpec.upto octaLongSpec)

/-- 'umbralaw20.TriHits', WHERE WHAT IT READS IS OF BULK AT MOST 1048576: true; the input reads as it did. -/
def triHitsUptoRow : OpenClaim := { program := "ytbfgmedjogjkeaa", sum := "c84c06b09cac06b74b661a88e626c2a855707593e17db4454681a9c1e85bcd5d", func := "umbra/umbralaw20.TriHits", spec := "triHits", inPlace := ["math/bits.Add64", "math/bits.Sub64"], unfollowed := true, recurses := true, named := ["math/bits.divideError", "math/bits.overflowError"], apart := false, narrowed := true }
def TriHitsUptoSaid : Prop := triHitsUptoRow.holds Try.pinned (OpenSpec.upto triHitsSpec)

/-- 'umbralaw20.TriExact', WHERE WHAT IT READS IS OF BULK AT MOST 1048576: true; the input reads as it did. -/
def triExactUptoRow : OpenClaim := { program := "ytbfgmedjogjkeaa", sum := "c84c06b09cac06b74b661a88e626c2a855707593e17db4454681a9c1e85bcd5d", func := "umbra/umbralaw20.TriExact", spec := "triExact", inPlace := ["math/bits.Add64", "math/bits.Sub64"], unfollowed := true, recurses := true, named := ["math/bits.divideError", "math/bits.overflowError"], apart := false, narrowed := true }
def TriExactUptoSaid : Prop := triExactUptoRow.holds Try.pinned (OpenSpec.upto triExactSpec)

/-- 'umbralaw20.TriAimed', WHERE WHAT IT READS IS OF BULK AT MOST 1048576: true; the input reads as it did. -/
def triAimedUptoRow : OpenClaim := { program := "ytbfgmedjogjkeaa", sum := "c84c06b09cac06b74b661a88e626c2a855707593e17db4454681a9c1e85bcd5d", func := "umbra/umbralaw20.TriAimed", spec := "triAimed", inPlace := ["math/bits.Add64", "math/bits.Sub64"], unfollowed := true, recurses := true, named := ["math/bits.divideError", "math/bits.overflowError"], apart := false, narrowed := true }
def TriAimedUptoSaid : Prop := triAimedUptoRow.holds Try.pinned (OpenSpec.upto triAimedSpec)

/-- 'umbralaw20.TriMeets', WHERE WHAT IT READS IS OF BULK AT MOST 1048576: true; the input reads as it did. -/
def triMeetsUptoRow : OpenClaim := { program := "ytbfgmedjogjkeaa", sum := "c84c06b09cac06b74b661a88e626c2a855707593e17db4454681a9c1e85bcd5d", func := "umbra/umbralaw20.TriMeets", spec := "triMeets", inPlace := ["math/bits.Sub64", "math/bits.Add64"], unfollowed := true, recurses := true, named := ["math/bits.divideError", "math/bits.overflowError"], apart := false, narrowed := true }
def TriMeetsUptoSaid : Prop := triMeetsUptoRow.holds Try.pinned (OpenSpec.upto triMeetsSpec)

/-- 'umbralaw20.TriTurned', WHERE WHAT IT READS IS OF BULK AT MOST 1048576: true; the input reads as it did. -/
def triTurnedUptoRow : OpenClaim := { program := "ytbfgmedjogjkeaa", sum := "c84c06b09cac06b74b661a88e626c2a855707593e17db4454681a9c1e85bcd5d", func := "umbra/umbralaw20.TriTurned", spec := "triTurned", inPlace := ["math/bits.Sub64", "math/bits.Add64"], unfollowed := true, recurses := true, named := ["math/bits.divideError", "math/bits.overflowError"], apart := false, narrowed := true }
def TriTurnedUptoSaid : Prop := triTurnedUptoRow.holds Try.pinned (OpenSpec.upto triTurnedSpec)

/-- 'umbralaw20.TriOrder', WHERE WHAT IT READS IS OF BULK AT MOST 1048576: true; the input reads as it did. -/
def triOrderUptoRow : OpenClaim := { program := "ytbfgmedjogjkeaa", sum := "c84c06b09cac06b74b661a88e626c2a855707593e17db4454681a9c1e85bcd5d", func := "umbra/umbralaw20.TriOrder", spec := "triOrder", inPlace := ["math/bits.Sub64", "math/bits.Add64"], unfollowed := true, recurses := true, named := ["math/bits.divideError", "math/bits.overflowError"], apart := false, narrowed := true }
def TriOrderUptoSaid : Prop := triOrderUptoRow.holds Try.pinned (OpenSpec.upto triOrderSpec)

/-- 'umbralaw20.TriPoints', WHERE WHAT IT READS IS OF BULK AT MOST 1048576: true; the input reads as it did. -/
def triPointsUptoRow : OpenClaim := { program := "ytbfgmedjogjkeaa", sum := "c84c06b09cac06b74b661a88e626c2a855707593e17db4454681a9c1e85bcd5d", func := "umbra/umbralaw20.TriPoints", spec := "triPoints", inPlace := ["math/bits.Add64", "math/bits.Sub64"], unfollowed := true, recurses := true, named := ["math/bits.divideError", "math/bits.overflowError"], apart := false, narrowed := true }
def TriPointsUptoSaid : Prop := triPointsUptoRow.holds Try.pinned (OpenSpec.upto triPointsSpec)

end Rows
end Go.Proofs.Ytbfgmedjogjkeaa
