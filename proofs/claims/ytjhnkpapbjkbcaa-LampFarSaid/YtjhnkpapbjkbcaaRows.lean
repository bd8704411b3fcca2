/-
  No cell of these rows narrows 'for every input' (looked for: loops, veiled, ifaces, maps, wideKeys, modest, calm, conditions, laid).
  DERIVED. THE GIVEN ROWS OF THIS SEAT. 10 by the template 'for every input the law returns true; each argument reads behind the call as it read before'; 0 by the template 'total and deterministic' (their statements: YtjhnkpapbjkbcaaTotals.lean).
  GIVEN WITH THE SEED: the statements are not yours to turn. If you find one false, say at which input.
  Laid BY PROGRAM, IN A SANDBOX (cutbox-rows.mjs): the forced cells as the released guide's own fill.sh prints them over the translation 27bb9d629e749409… (all of the seat's roots in one cut). By AI agents, Wed Nov 11 2026. No macro, syntax, notation, axiom, sorry.
-/
import Derived.Test.YtjhnkpapbjkbcaaChecked
import GoSem.Claim
import GoSem.ClaimJoined
import GoSem.ClaimMapViews
import Derived.JoinedTies
import Derived.KernelRfl
namespace Go.Proofs.Ytjhnkpapbjkbcaa
/- THE CELL 'sum', in the pinned program and in every row, IS THE sha256 OF THE DUMP (.gsa) THAT YtjhnkpapbjkbcaaProg.lean LOADS. Nothing in Lean hashes anything: it is a label: what it is worth is what the hold of that sum in a sandbox is worth. -/
noncomputable def Try.pinned : Pinned := { name := "ytjhnkpapbjkbcaa", sum := "27bb9d629e749409c451fa79b6e6d024a053811f5208e1fa266cdf7ef769a34c", checked := Try.checked }
namespace Rows
def none {H : Type} : Left H := { results := [], args := [] }

/-- 'umbralaw26.SurfaceFaces': WHATEVER THE INPUT: true; the input reads as it did. -/
def surfaceFacesSpec : ChangeSpec := { name := "surfaceFaces", fn := fun _ => fun
  | [d1, d2] => { results := [.lit (.bool true)], args := [d1, d2] }
  | _ => none }
def surfaceFacesRow : OpenClaim := { program := "ytjhnkpapbjkbcaa", sum := "27bb9d629e749409c451fa79b6e6d024a053811f5208e1fa266cdf7ef769a34c", func := "umbra/umbralaw26.SurfaceFaces", spec := "surfaceFaces", inPlace := ["math/bits.Sub64", "math/bits.Add64"], unfollowed := true, recurses := true, named := ["math/bits.divideError", "math/bits.overflowError"], apart := false }
def SurfaceFacesSaid : Prop := surfaceFacesRow.holds Try.pinned (OpenSpec.ofChange surfaceFacesSpec)

/-- ITS FALSE NEIGHBOUR: 'it returns false'. Refute it at one input. -/
def surfaceFacesWrong : ChangeSpec := { name := "surfaceFaces", fn := fun _ => fun
  | [d1, d2] => { results := [.lit (.bool false)], args := [d1, d2] }
  | _ => none }
def SurfaceFacesWrongFalsely : Prop := surfaceFacesRow.holds Try.pinned (OpenSpec.ofChange surfaceFacesWrong)

/-- 'umbralaw26.SurfaceTwice': WHATEVER THE INPUT: true; the input reads as it did. -/
def surfaceTwiceSpec : ChangeSpec := { name := "surfaceTwice", fn := fun _ => fun
  | [d1, d2] => { results := [.lit (.bool true)], args := [d1, d2] }
  | _ => none }
def surfaceTwiceRow : OpenClaim := { program := "ytjhnkpapbjkbcaa", sum := "27bb9d629e749409c451fa79b6e6d024a053811f5208e1fa266cdf7ef769a34c", func := "umbra/umbralaw26.SurfaceTwice", spec := "surfaceTwice", inPlace := ["math/bits.Sub64", "math/bits.Add64"], unfollowed := true, recurses := true, named := ["math/bits.divideError", "math/bits.overflowError"], apart := false }
def SurfaceTwiceSaid : Prop := surfaceTwiceRow.holds Try.pinned (OpenSpec.ofChange surfaceTwiceSpec)

/-- ITS FALSE NEIGHBOUR: 'it returns false'. Refute it at one input. -/
def surfaceTwiceWrong : ChangeSpec := { name := "surfaceTwice", fn := fun _ => fun
  | [d1, d2] => { results := [.lit (.bool false)], args := [d1, d2] }
  | _ => none }
def SurfaceTwiceWrongFalsely : Prop := surfaceTwiceRow.holds Try.pinned (OpenSpec.ofChange surfaceTwiceWrong)

/-- 'umbralaw26.SurfaceChance': WHATEVER THE INPUT: true; the input reads as it did. -/
def surfaceChanceSpec : ChangeSpec := { name := "surfaceChance", fn := fun _ => fun
  | [d1, d2] => { results := [.lit (.bool true)], args := [d1, d2] }
  | _ => none }
def surfaceChanceRow : OpenClaim := { program := "ytjhnkpapbjkbcaa", sum := "27bb9d629e749409c451fa79b6e6d024a053811f5208e1fa266cdf7ef769a34c", func := "umbra/umbralaw26.SurfaceChance", spec := "surfaceChance", inPlace := ["math/bits.Sub64", "math/bits.Add64"], unfollowed := true, recurses := true, named := ["math/bits.divideError", "math/bits.overflowError"], apart := false }
def SurfaceChanceSaid : Prop := surfaceChanceRow.holds Try.pinned (OpenSpec.ofChange surfaceChanceSpec)

/-- ITS FALSE NEIGHBOUR: 'it returns false'. Refute it at one input. -/
def surfaceChanceWrong : ChangeSpec := { name := "surfaceChance", fn := fun _ => fun
  | [d1, d2] => { results := [.lit (.bool false)], args := [d1, d2] }
  | _ => none }
def SurfaceChanceWrongFalsely : Prop := surfaceChanceRow.holds Try.pinned (OpenSpec.ofChange surfaceChanceWrong)

/-- 'umbralaw26.SurfaceTurns': WHATEVER THE INPUT: true; the input reads as it did. -/
def surfaceTurnsSpec : ChangeSpec := { name := "surfaceTurns", fn := fun _ => fun
  | [d1, d2, d3] => { results := [.lit (.bool true)], args := [d1, d2, d3] }
  | _ => none }
def surfaceTurnsRow : OpenClaim := { program := "ytjhnkpapbjkbcaa", sum := "27bb9d629e749409c451fa79b6e6d024a053811f5208e1fa266cdf7ef769a34c", func := "umbra/umbralaw26.SurfaceTurns", spec := "surfaceTurns", inPlace := ["math/bits.Sub64", "math/bits.Add64"], unfollowed := true, recurses := true, named := ["math/bits.divideError", "math/bits.overflowError"], apart := false }
def SurfaceTurnsSaid : Prop := surfaceTurnsRow.holds Try.pinned (OpenSpec.ofChange surfaceTurnsSpec)

/-- ITS FALSE NEIGHBOUR: 'it returns false'. Refute it at one input. -/
def surfaceTurnsWrong : ChangeSpec := { name := "surfaceTurns", fn := fun _ => fun
  | [d1, d2, d3] => { results := [.lit (.bool false)], args := [d1, d2, d3] }
  | _ => none }
def SurfaceTurnsWrongFalsely : Prop := surfaceTurnsRow.holds Try.pinned (OpenSpec.ofChange surfaceTurnsWrong)

/-- 'umbralaw26.SurfaceScatters': WHATEVER THE INPUT: true; the input reads as it did. -/
def surfaceScattersSpec : ChangeSpec := { name := "surfaceScatters", fn := fun _ => fun
  | [d] => { results := [.lit (.bool true)], args := [d] }
  | _ => none }
def surfaceScattersRow : OpenClaim := { program := "ytjhnkpapbjkbcaa", sum := "27bb9d629e749409c451fa79b6e6d024a053811f5208e1fa266cdf7ef769a34c", func := "umbra/umbralaw26.SurfaceScatters", spec := "surfaceScatters", inPlace := ["math/bits.Sub64", "math/bits.Add64"], unfollowed := true, recurses := true, named := ["math/bits.divideError", "math/bits.overflowError"], apart := false }
def SurfaceScattersSaid : Prop := surfaceScattersRow.holds Try.pinned (OpenSpec.ofChange surfaceScattersSpec)

/-- ITS FALSE NEIGHBOUR: 'it returns false'. Refute it at one input. -/
def surfaceScattersWrong : ChangeSpec := { name := "surfaceScatters", fn := fun _ => fun
  | [d] => { results := [.lit (.bool false)], args := [d] }
  | _ => none }
def SurfaceScattersWrongFalsely : Prop := surfaceScattersRow.holds Try.pinned (OpenSpec.ofChange surfaceScattersWrong)

/-- 'umbralaw26.SurfaceSide': WHATEVER THE INPUT: true; the input reads as it did. -/
def surfaceSideSpec : ChangeSpec := { name := "surfaceSide", fn := fun _ => fun
  | [d1, d2] => { results := [.lit (.bool true)], args := [d1, d2] }
  | _ => none }
def surfaceSideRow : OpenClaim := { program := "ytjhnkpapbjkbcaa", sum := "27bb9d629e749409c451fa79b6e6d024a053811f5208e1fa266cdf7ef769a34c", func := "umbra/umbralaw26.SurfaceSide", spec := "surfaceSide", inPlace := ["math/bits.Sub64", "math/bits.Add64"], unfollowed := true, recurses := true, named := ["math/bits.divideError", "math/bits.overflowError"], apart := false }
def SurfaceSideSaid : Prop := surfaceSideRow.holds Try.pinned (OpenSpec.ofChange surfaceSideSpec)

/-- ITS FALSE NEIGHBOUR: 'it returns false'. Refute it at one input. -/
def surfaceSideWrong : ChangeSpec := { name := "surfaceSide", fn := fun _ => fun
  | [d1, d2] => { results := [.lit (.bool false)], args := [d1, d2] }
  | _ => none }
def SurfaceSideWrongFalsely : Prop := surfaceSideRow.holds Try.pinned (OpenSpec.ofChange surfaceSideWrong)

/-- 'umbralaw27.LampSamples': WHATEVER THE INPUT: true; the input reads as it did. -/
def lampSamplesSpec : ChangeSpec := { name := "lampSamples", fn := fun _ => fun
  | [d1, d2] => { results := [.lit (.bool true)], args := [d1, d2] }
  | _ => none }
def lampSamplesRow : OpenClaim := { program := "ytjhnkpapbjkbcaa", sum := "27bb9d629e749409c451fa79b6e6d024a053811f5208e1fa266cdf7ef769a34c", func := "umbra/umbralaw27.LampSamples", spec := "lampSamples", inPlace := ["math/bits.Sub64", "math/bits.Add64"], unfollowed := true, recurses := true, named := ["math/bits.divideError", "math/bits.overflowError"], apart := false }
def LampSamplesSaid : Prop := lampSamplesRow.holds Try.pinned (OpenSpec.ofChange lampSamplesSpec)

/-- ITS FALSE NEIGHBOUR: 'it returns false'. Refute it at one input. -/
def lampSamplesWrong : ChangeSpec := { name := "lampSamples", fn := fun _ => fun
  | [d1, d2] => { results := [.lit (.bool false)], args := [d1, d2] }
  | _ => none }
def LampSamplesWrongFalsely : Prop := lampSamplesRow.holds Try.pinned (OpenSpec.ofChange lampSamplesWrong)

/-- 'umbralaw27.LampBehind': WHATEVER THE INPUT: true; the input reads as it did. -/
def lampBehindSpec : ChangeSpec := { name := "lampBehind", fn := fun _ => fun
  | [d1, d2, d3] => { results := [.lit (.bool true)], args := [d1, d2, d3] }
  | _ => none }
def lampBehindRow : OpenClaim := { program := "ytjhnkpapbjkbcaa", sum := "27bb9d629e749409c451fa79b6e6d024a053811f5208e1fa266cdf7ef769a34c", func := "umbra/umbralaw27.LampBehind", spec := "lampBehind", inPlace := ["math/bits.Sub64", "math/bits.Add64"], unfollowed := true, recurses := true, named := ["math/bits.divideError", "math/bits.overflowError"], apart := false }
def LampBehindSaid : Prop := lampBehindRow.holds Try.pinned (OpenSpec.ofChange lampBehindSpec)

/-- ITS FALSE NEIGHBOUR: 'it returns false'. Refute it at one input. -/
def lampBehindWrong : ChangeSpec := { name := "lampBehind", fn := fun _ => fun
  | [d1, d2, d3] => { results := [.lit (.bool false)], args := [d1, d2, d3] }
  | _ => none }
def LampBehindWrongFalsely : Prop := lampBehindRow.holds Try.pinned (OpenSpec.ofChange lampBehindWrong)

/-- 'umbralaw27.LampArea': WHATEVER THE INPUT: true; the input reads as it did. -/
def lampAreaSpec : ChangeSpec := { name := "lampArea", fn := fun _ => fun
  | [d1, d2] => { results := [.lit (.bool true)], args := [d1, d2] }
  | _ => none }
def lampAreaRow : OpenClaim := { program := "ytjhnkpapbjkbcaa", sum := "27bb9d629e749409c451fa79b6e6d024a053811f5208e1fa266cdf7ef769a34c", func := "umbra/umbralaw27.LampArea", spec := "lampArea", inPlace := ["math/bits.Sub64", "math/bits.Add64"], unfollowed := true, recurses := true, named := ["math/bits.divideError", "math/bits.overflowError"], apart := false }
def LampAreaSaid : Prop := lampAreaRow.holds Try.pinned (OpenSpec.ofChange lampAreaSpec)

/-- ITS FALSE NEIGHBOUR: 'it returns false'. Refute it at one input. -/
def lampAreaWrong : ChangeSpec := { name := "lampArea", fn := fun _ => fun
  | [d1, d2] => { results := [.lit (.bool false)], args := [d1, d2] }
  | _ => none }
def LampAreaWrongFalsely : Prop := lampAreaRow.holds Try.pinned (OpenSpec.ofChange lampAreaWrong)

/-- 'umbralaw27.LampFar': WHATEVER THE INPUT: true; the input reads as it did. -/
def lampFarSpec : ChangeSpec := { name := "lampFar", fn := fun _ => fun
  | [d1, d2] => { results := [.lit (.bool true)], args := [d1, d2] }
  | _ => none }
def lampFarRow : OpenClaim := { program := "ytjhnkpapbjkbcaa", sum := "27bb9d629e749409c451fa79b6e6d024a053811f5208e1fa266cdf7ef769a34c", func := "umbra/umbralaw27.LampFar", spec := "lampFar", inPlace := ["math/bits.Sub64", "math/bits.Add64"], unfollowed := true, recurses := true, named := ["math/bits.divideError", "math/bits.overflowError"], apart := false }
def LampFarSaid : Prop := lampFarRow.holds Try.pinned (OpenSpec.ofChange lampFarSpec)

/-- ITS FALSE NEIGHBOUR: 'it returns false'. Refute it at one input. -/
def lampFarWrong : ChangeSpec := { name := "lampFar", fn := fun _ => fun
  | [d1, d2] => { results := [.lit (.bool false)], args := [d1, d2] }
  | _ => none }
def LampFarWrongFalsely : Prop := lampFarRow.holds Try.pinned (OpenSpec.ofChange lampFarWrong)

/- THE SECOND FORM. 'bulk': how many values and letters a reading holds, each counted each time it is reached (what is shared counts as often as it is met; a slice's spare places count too). A statement '..UptoSaid' is the law's where the arguments, and the package variables that the reading takes, are together of bulk at most 1048576: NARROWER than '..Said'. Prove '..Said' where nothing that the law and all that it calls make is longer than what came in: it says more and counts as full. Else prove '..UptoSaid'. A law counts once. -/
mutual
def uptoBulk {H : Type} : DataW H → Nat
  | .lit (.string bytes) => bytes.length + 1
  | .lit _ => 1
  | .nil => 1
  | .ptr d => uptoBulk d + 1
  | .slice elems spare => uptoBulkAll elems + uptoBulkAll spare + 1
  | .agg parts => uptoBulkAll parts + 1
  | .iface _ d => uptoBulk d + 1
  | .map entries => uptoBulkEntries entries + 1
  | .held _ => 1
def uptoBulkAll {H : Type} : List (DataW H) → Nat
  | [] => 0
  | d :: r => uptoBulk d + uptoBulkAll r
def uptoBulkEntries {H : Type} : List (Lit × DataW H) → Nat
  | [] => 0
  | x :: r => uptoBulkEntry x + uptoBulkEntries r
def uptoBulkEntry {H : Type} : Lit × DataW H → Nat
  | (.string bytes, d) => bytes.length + uptoBulk d + 1
  | (_, d) => uptoBulk d + 1
 end
def uptoSmall : (H : Type) → List (DataW H) → Bool := fun _ ds => decide (uptoBulkAll ds ≤ 1048576)
def OpenSpec.upto (s : _root_.Go.ChangeSpec) : _root_.Go.OpenSpec := { _root_.Go.OpenSpec.ofChange s with cond := some uptoSmall }

/-- 'umbralaw26.SurfaceFaces', WHERE WHAT IT READS IS OF BULK AT MOST 1048576: true; the input reads as it did. -/
def surfaceFacesUptoRow : OpenClaim := { program := "ytjhnkpapbjkbcaa", sum := "27bb9d629e749409c451fa79b6e6d024a053811f5208e1fa266cdf7ef769a34c", func := "umbra/umbralaw26.SurfaceFaces", spec := "surfaceFaces", inPlace := ["math/bits.Sub64", "math/bits.Add64"], unfollowed := true, recurses := true, named := ["math/bits.divideError", "math/bits.overflowError"], apart := false, narrowed := true }
def SurfaceFacesUptoSaid : Prop := surfaceFacesUptoRow.holds Try.pinned (OpenSpec.upto surfaceFacesSpec)

/-- 'umbralaw26.SurfaceTwice', WHERE WHAT IT READS IS OF BULK AT MOST 1048576: true; the input reads as it did. -/
def surfaceTwiceUptoRow : OpenClaim := { program := "ytjhnkpapbjkbcaa", sum := "27bb9d629e749409c451fa79b6e6d024a053811f5208e1fa266cdf7ef769a34c", func := "umbra/umbralaw26.SurfaceTwice", spec := "surfaceTwice", inPlace := ["math/bits.Sub64", "math/bits.Add64"], unfollowed := true, recurses := true, named := ["math/bits.divideError", "math/bits.overflowError"], apart := false, narrowed := true }
def SurfaceTwiceUptoSaid : Prop := surfaceTwiceUptoRow.holds Try.pinned (OpenSpec.upto surfaceTwiceSpec)

/-- 'umbralaw26.SurfaceChance', WHERE WHAT IT READS IS OF BULK AT MOST 1048576: true; the input reads as it did. -/
def surfaceChanceUptoRow : OpenClaim := { program := "ytjhnkpapbjkbcaa", sum := "27bb9d629e749409c451fa79b6e6d024a053811f5208e1fa266cdf7ef769a34c", func := "umbra/umbralaw26.SurfaceChance", spec := "surfaceChance", inPlace := ["math/bits.Sub64", "math/bits.Add64"], unfollowed := true, recurses := true, named := ["math/bits.divideError", "math/bits.overflowError"], apart := false, narrowed := true }
def SurfaceChanceUptoSaid : Prop := surfaceChanceUptoRow.holds Try.pinned (OpenSpec.upto surfaceChanceSpec)

/-- 'umbralaw26.SurfaceTurns', WHERE WHAT IT READS IS OF BULK AT MOST 1048576: true; the input reads as it did. -/
def surfaceTurnsUptoRow : OpenClaim := { program := "ytjhnkpapbjkbcaa", sum := "27bb9d629e749409c451fa79b6e6d024a053811f5208e1fa266cdf7ef769a34c", func := "umbra/umbralaw26.SurfaceTurns", spec := "surfaceTurns", inPlace := ["math/bits.Sub64", "math/bits.Add64"], unfollowed := true, recurses := true, named := ["math/bits.divideError", "math/bits.overflowError"], apart := false, narrowed := true }
def SurfaceTurnsUptoSaid : Prop := surfaceTurnsUptoRow.holds Try.pinned (OpenSpec.upto surfaceTurnsSpec)

/-- 'umbralaw26.SurfaceScatters', WHERE WHAT IT READS IS OF BULK AT MOST 1048576: true; the input reads as it did. -/
def surfaceScattersUptoRow : OpenClaim := { program := "ytjhnkpapbjkbcaa", sum := "27bb9d629e749409c451fa79b6e6d024a053811f5208e1fa266cdf7ef769a34c", func := "umbra/umbralaw26.SurfaceScatters", spec := "surfaceScatters", inPlace := ["math/bits.Sub64", "math/bits.Add64"], unfollowed := true, recurses := true, named := ["math/bits.divideError", "math/bits.overflowError"], apart := false, narrowed := true }
def SurfaceScattersUptoSaid : Prop := surfaceScattersUptoRow.holds Try.pinned (OpenSpec.upto surfaceScattersSpec)

/-- 'umbralaw26.SurfaceSide', WHERE WHAT IT READS IS OF BULK AT MOST 1048576: true; the input reads as it did. -/
def surfaceSideUptoRow : OpenClaim := { program := "ytjhnkpapbjkbcaa", sum := "27bb9d629e749409c451fa79b6e6d024a053811f5208e1fa266cdf7ef769a34c", func := "umbra/umbralaw26.SurfaceSide", spec := "surfaceSide", inPlace := ["math/bits.Sub64", "math/bits.Add64"], unfollowed := true, recurses := true, named := ["math/bits.divideError", "math/bits.overflowError"], apart := false, narrowed := true }
def SurfaceSideUptoSaid : Prop := surfaceSideUptoRow.holds Try.pinned (OpenSpec.upto surfaceSideSpec)

/-- 'umbralaw27.LampSamples', WHERE WHAT IT READS IS OF BULK AT MOST 1048576: true; the input reads as it did. -/
def lampSamplesUptoRow : OpenClaim := { program := "ytjhnkpapbjkbcaa", sum := "27bb9d629e749409c451fa79b6e6d024a053811f5208e1fa266cdf7ef769a34c", func := "umbra/umbralaw27.LampSamples", spec := "lampSamples", inPlace := ["math/bits.Sub64", "math/bits.Add64"], unfollowed := true, recurses := true, named := ["math/bits.divideError", "math/bits.overflowError"], apart := false, narrowed := true }
def LampSamplesUptoSaid : Prop := lampSamplesUptoRow.holds Try.pinned (OpenSpec.upto lampSamplesSpec)

/-- 'umbralaw27.LampBehind', WHERE WHAT IT READS IS OF BULK AT MOST 1048576: true; the input reads as it did. -/
def lampBehindUptoRow : OpenClaim := { program := "ytjhnkpapbjkbcaa", sum := "27bb9d629e749409c451fa79b6e6d024a053811f5208e1fa266cdf7ef769a34c", func := "umbra/umbralaw27.LampBehind", spec := "lampBehind", inPlace := ["math/bits.Sub64", "math/bits.Add64"], unfollowed := true, recurses := true, named := ["math/bits.divideError", "math/bits.overflowError"], apart := false, narrowed := true }
def LampBehindUptoSaid : Prop := lampBehindUptoRow.holds Try.pinned (OpenSpec.upto lampBehindSpec)

/-- 'umbralaw27.LampArea', WHERE WHAT IT READS IS OF BULK AT MOST 1048576: true; the input reads as it did. -/
def lampAreaUptoRow : OpenClaim := { program := "ytjhnkpapbjkbcaa", sum := "27bb9d629e749409c451fa79b6e6d024a053811f5208e1fa266cdf7ef769a34c", func := "umbra/umbralaw27.LampArea", spec := "lampArea", inPlace := ["math/bits.Sub64", "math/bits.Add64"], unfollowed := true, recurses := true, named := ["math/bits.divideError", "math/bits.overflowError"], apart := false, narrowed := true }
def LampAreaUptoSaid : Prop := lampAreaUptoRow.holds Try.pinned (OpenSpec.upto lampAreaSpec)

/-- 'umbralaw27.LampFar', WHERE WHAT IT READS IS OF BULK AT MOST 1048576: true; the input reads as it did. -/
def lampFarUptoRow : OpenClaim := { program := "ytjhnkpapbjkbcaa", sum := "27bb9d629e749409c451fa79b6e6d024a053811f5208e1fa266cdf7ef769a34c", func := "umbra/umbralaw27.LampFar", spec := "lampFar", inPlace := ["math/bits.Sub64", "math/bits.Add64"], unfollowed := true, recurses := true, named := ["math/bits.divideError", "math/bits.overflowError"], apart := false, narrowed := true }
def LampFarUptoSaid : Prop := lampFarUptoRow.holds Try.pinned (OpenSpec.upto lampFarSpec)

end Rows
end Go.Proofs.Ytjhnkpapbjkbcaa
