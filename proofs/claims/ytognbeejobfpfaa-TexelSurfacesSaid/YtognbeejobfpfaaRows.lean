/-
  No cell of these rows narrows 'for every input' (looked for: loops, veiled, ifaces, maps, wideKeys, modest, calm, conditions, laid).
  DERIVED. THE GIVEN ROWS OF THIS SEAT. 10 by the template 'for every input the law returns true; each argument reads behind the call as it read before'; 0 by the template 'total and deterministic' (their statements: YtognbeejobfpfaaTotals.lean).
  GIVEN WITH THE SEED: the statements are not yours to turn. If you find one false, say at which input.
  Laid BY PROGRAM, IN A SANDBOX (cutbox-rows.mjs): the forced cells as the released guide's own fill.sh prints them over the translation cf7d43e8abe82c1a… (all of the seat's roots in one cut). By AI agents, Wed Nov 11 2026. No macro, syntax, notation, axiom, sorry.
-/
import Derived.Test.YtognbeejobfpfaaChecked
import GoSem.Claim
import GoSem.ClaimJoined
import GoSem.ClaimMapViews
import Derived.JoinedTies
import Derived.KernelRfl
namespace Go.Proofs.Ytognbeejobfpfaa
/- THE CELL 'sum', in the pinned program and in every row, IS THE sha256 OF THE DUMP (.gsa) THAT YtognbeejobfpfaaProg.lean LOADS. Nothing in Lean hashes anything: it is a label: what it is worth is what the hold of that sum in a sandbox is worth. -/
noncomputable def Try.pinned : Pinned := { name := "ytognbeejobfpfaa", sum := "cf7d43e8abe82c1a8050156ae8015cb20cc83489230f374ef41686a99e3fa116", checked := Try.checked }
namespace Rows
def none {H : Type} : Left H := { results := [], args := [] }

/-- 'umbralaw25.TexelBetween': WHATEVER THE INPUT: true; the input reads as it did. -/
def texelBetweenSpec : ChangeSpec := { name := "texelBetween", fn := fun _ => fun
  | [d1, d2, d3] => { results := [.lit (.bool true)], args := [d1, d2, d3] }
  | _ => none }
def texelBetweenRow : OpenClaim := { program := "ytognbeejobfpfaa", sum := "cf7d43e8abe82c1a8050156ae8015cb20cc83489230f374ef41686a99e3fa116", func := "umbra/umbralaw25.TexelBetween", spec := "texelBetween", inPlace := ["math/bits.Sub64", "math/bits.Add64"], unfollowed := true, recurses := true, named := ["math/bits.divideError", "math/bits.overflowError"], apart := false }
def TexelBetweenSaid : Prop := texelBetweenRow.holds Try.pinned (OpenSpec.ofChange texelBetweenSpec)

/-- ITS FALSE NEIGHBOUR: 'it returns false'. Refute it at one input. -/
def texelBetweenWrong : ChangeSpec := { name := "texelBetween", fn := fun _ => fun
  | [d1, d2, d3] => { results := [.lit (.bool false)], args := [d1, d2, d3] }
  | _ => none }
def TexelBetweenWrongFalsely : Prop := texelBetweenRow.holds Try.pinned (OpenSpec.ofChange texelBetweenWrong)

/-- 'umbralaw25.TexelSamples': WHATEVER THE INPUT: true; the input reads as it did. -/
def texelSamplesSpec : ChangeSpec := { name := "texelSamples", fn := fun _ => fun
  | [d1, d2, d3] => { results := [.lit (.bool true)], args := [d1, d2, d3] }
  | _ => none }
def texelSamplesRow : OpenClaim := { program := "ytognbeejobfpfaa", sum := "cf7d43e8abe82c1a8050156ae8015cb20cc83489230f374ef41686a99e3fa116", func := "umbra/umbralaw25.TexelSamples", spec := "texelSamples", inPlace := ["math/bits.Sub64", "math/bits.Add64"], unfollowed := true, recurses := true, named := ["math/bits.divideError", "math/bits.overflowError"], apart := false }
def TexelSamplesSaid : Prop := texelSamplesRow.holds Try.pinned (OpenSpec.ofChange texelSamplesSpec)

/-- ITS FALSE NEIGHBOUR: 'it returns false'. Refute it at one input. -/
def texelSamplesWrong : ChangeSpec := { name := "texelSamples", fn := fun _ => fun
  | [d1, d2, d3] => { results := [.lit (.bool false)], args := [d1, d2, d3] }
  | _ => none }
def TexelSamplesWrongFalsely : Prop := texelSamplesRow.holds Try.pinned (OpenSpec.ofChange texelSamplesWrong)

/-- 'umbralaw25.TexelMiddle': WHATEVER THE INPUT: true; the input reads as it did. -/
def texelMiddleSpec : ChangeSpec := { name := "texelMiddle", fn := fun _ => fun
  | [d1, d2, d3] => { results := [.lit (.bool true)], args := [d1, d2, d3] }
  | _ => none }
def texelMiddleRow : OpenClaim := { program := "ytognbeejobfpfaa", sum := "cf7d43e8abe82c1a8050156ae8015cb20cc83489230f374ef41686a99e3fa116", func := "umbra/umbralaw25.TexelMiddle", spec := "texelMiddle", inPlace := ["math/bits.Sub64", "math/bits.Add64"], unfollowed := true, recurses := true, named := ["math/bits.divideError", "math/bits.overflowError"], apart := false }
def TexelMiddleSaid : Prop := texelMiddleRow.holds Try.pinned (OpenSpec.ofChange texelMiddleSpec)

/-- ITS FALSE NEIGHBOUR: 'it returns false'. Refute it at one input. -/
def texelMiddleWrong : ChangeSpec := { name := "texelMiddle", fn := fun _ => fun
  | [d1, d2, d3] => { results := [.lit (.bool false)], args := [d1, d2, d3] }
  | _ => none }
def TexelMiddleWrongFalsely : Prop := texelMiddleRow.holds Try.pinned (OpenSpec.ofChange texelMiddleWrong)

/-- 'umbralaw25.TexelBary': WHATEVER THE INPUT: true; the input reads as it did. -/
def texelBarySpec : ChangeSpec := { name := "texelBary", fn := fun _ => fun
  | [d1, d2] => { results := [.lit (.bool true)], args := [d1, d2] }
  | _ => none }
def texelBaryRow : OpenClaim := { program := "ytognbeejobfpfaa", sum := "cf7d43e8abe82c1a8050156ae8015cb20cc83489230f374ef41686a99e3fa116", func := "umbra/umbralaw25.TexelBary", spec := "texelBary", inPlace := ["math/bits.Sub64", "math/bits.Add64"], unfollowed := true, recurses := true, named := ["math/bits.divideError", "math/bits.overflowError"], apart := false }
def TexelBarySaid : Prop := texelBaryRow.holds Try.pinned (OpenSpec.ofChange texelBarySpec)

/-- ITS FALSE NEIGHBOUR: 'it returns false'. Refute it at one input. -/
def texelBaryWrong : ChangeSpec := { name := "texelBary", fn := fun _ => fun
  | [d1, d2] => { results := [.lit (.bool false)], args := [d1, d2] }
  | _ => none }
def TexelBaryWrongFalsely : Prop := texelBaryRow.holds Try.pinned (OpenSpec.ofChange texelBaryWrong)

/-- 'umbralaw25.TexelCorner': WHATEVER THE INPUT: true; the input reads as it did. -/
def texelCornerSpec : ChangeSpec := { name := "texelCorner", fn := fun _ => fun
  | [d1, d2] => { results := [.lit (.bool true)], args := [d1, d2] }
  | _ => none }
def texelCornerRow : OpenClaim := { program := "ytognbeejobfpfaa", sum := "cf7d43e8abe82c1a8050156ae8015cb20cc83489230f374ef41686a99e3fa116", func := "umbra/umbralaw25.TexelCorner", spec := "texelCorner", inPlace := ["math/bits.Sub64", "math/bits.Add64"], unfollowed := true, recurses := true, named := ["math/bits.divideError", "math/bits.overflowError"], apart := false }
def TexelCornerSaid : Prop := texelCornerRow.holds Try.pinned (OpenSpec.ofChange texelCornerSpec)

/-- ITS FALSE NEIGHBOUR: 'it returns false'. Refute it at one input. -/
def texelCornerWrong : ChangeSpec := { name := "texelCorner", fn := fun _ => fun
  | [d1, d2] => { results := [.lit (.bool false)], args := [d1, d2] }
  | _ => none }
def TexelCornerWrongFalsely : Prop := texelCornerRow.holds Try.pinned (OpenSpec.ofChange texelCornerWrong)

/-- 'umbralaw25.TexelSurfaces': WHATEVER THE INPUT: true; the input reads as it did. -/
def texelSurfacesSpec : ChangeSpec := { name := "texelSurfaces", fn := fun _ => fun
  | [d1, d2] => { results := [.lit (.bool true)], args := [d1, d2] }
  | _ => none }
def texelSurfacesRow : OpenClaim := { program := "ytognbeejobfpfaa", sum := "cf7d43e8abe82c1a8050156ae8015cb20cc83489230f374ef41686a99e3fa116", func := "umbra/umbralaw25.TexelSurfaces", spec := "texelSurfaces", inPlace := ["math/bits.Sub64", "math/bits.Add64"], unfollowed := true, recurses := true, named := ["math/bits.divideError", "math/bits.overflowError"], apart := false }
def TexelSurfacesSaid : Prop := texelSurfacesRow.holds Try.pinned (OpenSpec.ofChange texelSurfacesSpec)

/-- ITS FALSE NEIGHBOUR: 'it returns false'. Refute it at one input. -/
def texelSurfacesWrong : ChangeSpec := { name := "texelSurfaces", fn := fun _ => fun
  | [d1, d2] => { results := [.lit (.bool false)], args := [d1, d2] }
  | _ => none }
def TexelSurfacesWrongFalsely : Prop := texelSurfacesRow.holds Try.pinned (OpenSpec.ofChange texelSurfacesWrong)

/-- 'umbralaw24.LensChecks': WHATEVER THE INPUT: true; the input reads as it did. -/
def lensChecksSpec : ChangeSpec := { name := "lensChecks", fn := fun _ => fun
  | [d1, d2, d3] => { results := [.lit (.bool true)], args := [d1, d2, d3] }
  | _ => none }
def lensChecksRow : OpenClaim := { program := "ytognbeejobfpfaa", sum := "cf7d43e8abe82c1a8050156ae8015cb20cc83489230f374ef41686a99e3fa116", func := "umbra/umbralaw24.LensChecks", spec := "lensChecks", inPlace := ["math/bits.Sub64", "math/bits.Add64"], unfollowed := true, recurses := true, named := ["math/bits.divideError", "math/bits.overflowError"], apart := false }
def LensChecksSaid : Prop := lensChecksRow.holds Try.pinned (OpenSpec.ofChange lensChecksSpec)

/-- ITS FALSE NEIGHBOUR: 'it returns false'. Refute it at one input. -/
def lensChecksWrong : ChangeSpec := { name := "lensChecks", fn := fun _ => fun
  | [d1, d2, d3] => { results := [.lit (.bool false)], args := [d1, d2, d3] }
  | _ => none }
def LensChecksWrongFalsely : Prop := lensChecksRow.holds Try.pinned (OpenSpec.ofChange lensChecksWrong)

/-- 'umbralaw24.LensMiddle': WHATEVER THE INPUT: true; the input reads as it did. -/
def lensMiddleSpec : ChangeSpec := { name := "lensMiddle", fn := fun _ => fun
  | [d1, d2, d3] => { results := [.lit (.bool true)], args := [d1, d2, d3] }
  | _ => none }
def lensMiddleRow : OpenClaim := { program := "ytognbeejobfpfaa", sum := "cf7d43e8abe82c1a8050156ae8015cb20cc83489230f374ef41686a99e3fa116", func := "umbra/umbralaw24.LensMiddle", spec := "lensMiddle", inPlace := ["math/bits.Sub64", "math/bits.Add64"], unfollowed := true, recurses := true, named := ["math/bits.divideError", "math/bits.overflowError"], apart := false }
def LensMiddleSaid : Prop := lensMiddleRow.holds Try.pinned (OpenSpec.ofChange lensMiddleSpec)

/-- ITS FALSE NEIGHBOUR: 'it returns false'. Refute it at one input. -/
def lensMiddleWrong : ChangeSpec := { name := "lensMiddle", fn := fun _ => fun
  | [d1, d2, d3] => { results := [.lit (.bool false)], args := [d1, d2, d3] }
  | _ => none }
def LensMiddleWrongFalsely : Prop := lensMiddleRow.holds Try.pinned (OpenSpec.ofChange lensMiddleWrong)

/-- 'umbralaw24.LensLeft': WHATEVER THE INPUT: true; the input reads as it did. -/
def lensLeftSpec : ChangeSpec := { name := "lensLeft", fn := fun _ => fun
  | [d1, d2, d3] => { results := [.lit (.bool true)], args := [d1, d2, d3] }
  | _ => none }
def lensLeftRow : OpenClaim := { program := "ytognbeejobfpfaa", sum := "cf7d43e8abe82c1a8050156ae8015cb20cc83489230f374ef41686a99e3fa116", func := "umbra/umbralaw24.LensLeft", spec := "lensLeft", inPlace := ["math/bits.Sub64", "math/bits.Add64"], unfollowed := true, recurses := true, named := ["math/bits.divideError", "math/bits.overflowError"], apart := false }
def LensLeftSaid : Prop := lensLeftRow.holds Try.pinned (OpenSpec.ofChange lensLeftSpec)

/-- ITS FALSE NEIGHBOUR: 'it returns false'. Refute it at one input. -/
def lensLeftWrong : ChangeSpec := { name := "lensLeft", fn := fun _ => fun
  | [d1, d2, d3] => { results := [.lit (.bool false)], args := [d1, d2, d3] }
  | _ => none }
def LensLeftWrongFalsely : Prop := lensLeftRow.holds Try.pinned (OpenSpec.ofChange lensLeftWrong)

/-- 'umbralaw24.LensGrid': WHATEVER THE INPUT: true; the input reads as it did. -/
def lensGridSpec : ChangeSpec := { name := "lensGrid", fn := fun _ => fun
  | [d1, d2] => { results := [.lit (.bool true)], args := [d1, d2] }
  | _ => none }
def lensGridRow : OpenClaim := { program := "ytognbeejobfpfaa", sum := "cf7d43e8abe82c1a8050156ae8015cb20cc83489230f374ef41686a99e3fa116", func := "umbra/umbralaw24.LensGrid", spec := "lensGrid", inPlace := ["math/bits.Sub64", "math/bits.Add64"], unfollowed := true, recurses := true, named := ["math/bits.divideError", "math/bits.overflowError"], apart := false }
def LensGridSaid : Prop := lensGridRow.holds Try.pinned (OpenSpec.ofChange lensGridSpec)

/-- ITS FALSE NEIGHBOUR: 'it returns false'. Refute it at one input. -/
def lensGridWrong : ChangeSpec := { name := "lensGrid", fn := fun _ => fun
  | [d1, d2] => { results := [.lit (.bool false)], args := [d1, d2] }
  | _ => none }
def LensGridWrongFalsely : Prop := lensGridRow.holds Try.pinned (OpenSpec.ofChange lensGridWrong)

/- THE SECOND FORM. 'bulk': how many values and letters a reading holds, each counted each time it is reached (what is shared counts as often as it is met; a slice's spare places count too). A statement '..UptoSaid' is the law's where the arguments, and the package variables that the reading takes, are together of bulk at most 1048576: NARROWER than '..Said'. Prove '..Said' where nothing that the law and all that it calls make is longer than what came in: it says more and counts as full. Else prove '..UptoSaid'. A law counts once. -/
mutual
def uptoBulk {H : Type} : DataW H → Nat
  | .lit (.string bytes) => bytes.length + 1
  | .lit _ => 1
  | .nil => 1
  | .ptr d => uptoBulk d + 1
  | .slice elems spare => uptoBulkAll elems + uptoBulkAll spare + 1
  | .agg parts => uptoBulkAll parts + 1
  | .iface _ d => uptoBulk d + 1
  | .map entries => uptoBulkEntries entries + 1
  | .held _ => 1
def uptoBulkAll {H : Type} : List (DataW H) → Nat
  | [] => 0
  | d :: r => uptoBulk d + uptoBulkAll r
def uptoBulkEntries {H : Type} : List (Lit × DataW H) → Nat
  | [] => 0
  | x :: r => uptoBulkEntry x + uptoBulkEntries r
def uptoBulkEntry {H : Type} : Lit × DataW H → Nat
  | (.string bytes, d) => bytes.length + uptoBulk d + 1
  | (_, d) => uptoBulk d + 1
 end
def uptoSmall : (H : Type) → List (DataW H) → Bool := fun _ ds => decide (uptoBulkAll ds ≤ 1048576)
def OpenSpec.upto (s : _root_.Go.ChangeSpec) : _root_.Go.OpenSpec := { _root_.Go.OpenSpec.ofChange s with cond := some uptoSmall }

/-- 'umbralaw25.TexelBetween', WHERE WHAT IT READS IS OF BULK AT MOST 1048576: true; the input reads as it did. -/
def texelBetweenUptoRow : OpenClaim := { program := "ytognbeejobfpfaa", sum := "cf7d43e8abe82c1a8050156ae8015cb20cc83489230f374ef41686a99e3fa116", func := "umbra/umbralaw25.TexelBetween", spec := "texelBetween", inPlace := ["math/bits.Sub64", "math/bits.Add64"], unfollowed := true, recurses := true, named := ["math/bits.divideError", "math/bits.overflowError"], apart := false, narrowed := true }
def TexelBetweenUptoSaid : Prop := texelBetweenUptoRow.holds Try.pinned (OpenSpec.upto texelBetweenSpec)

/-- 'umbralaw25.TexelSamples', WHERE WHAT IT READS IS OF BULK AT MOST 1048576: true; the input reads as it did. -/
def texelSamplesUptoRow : OpenClaim := { program := "ytognbeejobfpfaa", sum := "cf7d43e8abe82c1a8050156ae8015cb20cc83489230f374ef41686a99e3fa116", func := "umbra/umbralaw25.TexelSamples", spec := "texelSamples", inPlace := ["math/bits.Sub64", "math/bits.Add64"], unfollowed := true, recurses := true, named := ["math/bits.divideError", "math/bits.overflowError"], apart := false, narrowed := true }
def TexelSamplesUptoSaid : Prop := texelSamplesUptoRow.holds Try.pinned (OpenSpec.upto texelSamplesSpec)

/-- 'umbralaw25.TexelMiddle', WHERE WHAT IT READS IS OF BULK AT MOST 1048576: true; the input reads as it did. -/
def texelMiddleUptoRow : OpenClaim := { program := "ytognbeejobfpfaa", sum := "cf7d43e8abe82c1a8050156ae8015cb20cc83489230f374ef41686a99e3fa116", func := "umbra/umbralaw25.TexelMiddle", spec := "texelMiddle", inPlace := ["math/bits.Sub64", "math/bits.Add64"], unfollowed := true, recurses := true, named := ["math/bits.divideError", "math/bits.overflowError"], apart := false, narrowed := true }
def TexelMiddleUptoSaid : Prop := texelMiddleUptoRow.holds Try.pinned (OpenSpec.upto texelMiddleSpec)

/-- 'umbralaw25.TexelBary', WHERE WHAT IT READS IS OF BULK AT MOST 1048576: true; the input reads as it did. -/
def texelBaryUptoRow : OpenClaim := { program := "ytognbeejobfpfaa", sum := "cf7d43e8abe82c1a8050156ae8015cb20cc83489230f374ef41686a99e3fa116", func := "umbra/umbralaw25.TexelBary", spec := "texelBary", inPlace := ["math/bits.Sub64", "math/bits.Add64"], unfollowed := true, recurses := true, named := ["math/bits.divideError", "math/bits.overflowError"], apart := false, narrowed := true }
def TexelBaryUptoSaid : Prop := texelBaryUptoRow.holds Try.pinned (OpenSpec.upto texelBarySpec)

/-- 'umbralaw25.TexelCorner', WHERE WHAT IT READS IS OF BULK AT MOST 1048576: true; the input reads as it did. -/
def texelCornerUptoRow : OpenClaim := { program := "ytognbeejobfpfaa", sum := "cf7d43e8abe82c1a8050156ae8015cb20cc83489230f374ef41686a99e3fa116", func := "umbra/umbralaw25.TexelCorner", spec := "texelCorner", inPlace := ["math/bits.Sub64", "math/bits.Add64"], unfollowed := true, recurses := true, named := ["math/bits.divideError", "math/bits.overflowError"], apart := false, narrowed := true }
def TexelCornerUptoSaid : Prop := texelCornerUptoRow.holds Try.pinned (OpenSpec.upto texelCornerSpec)

/-- 'umbralaw25.TexelSurfaces', WHERE WHAT IT READS IS OF BULK AT MOST 1048576: true; the input reads as it did. -/
def texelSurfacesUptoRow : OpenClaim := { program := "ytognbeejobfpfaa", sum := "cf7d43e8abe82c1a8050156ae8015cb20cc83489230f374ef41686a99e3fa116", func := "umbra/umbralaw25.TexelSurfaces", spec := "texelSurfaces", inPlace := ["math/bits.Sub64", "math/bits.Add64"], unfollowed := true, recurses := true, named := ["math/bits.divideError", "math/bits.overflowError"], apart := false, narrowed := true }
def TexelSurfacesUptoSaid : Prop := texelSurfacesUptoRow.holds Try.pinned (OpenSpec.upto texelSurfacesSpec)

/-- 'umbralaw24.LensChecks', WHERE WHAT IT READS IS OF BULK AT MOST 1048576: true; the input reads as it did. -/
def lensChecksUptoRow : OpenClaim := { program := "ytognbeejobfpfaa", sum := "cf7d43e8abe82c1a8050156ae8015cb20cc83489230f374ef41686a99e3fa116", func := "umbra/umbralaw24.LensChecks", spec := "lensChecks", inPlace := ["math/bits.Sub64", "math/bits.Add64"], unfollowed := true, recurses := true, named := ["math/bits.divideError", "math/bits.overflowError"], apart := false, narrowed := true }
def LensChecksUptoSaid : Prop := lensChecksUptoRow.holds Try.pinned (OpenSpec.upto lensChecksSpec)

/-- 'umbralaw24.LensMiddle', WHERE WHAT IT READS IS OF BULK AT MOST 1048576: true; the input reads as it did. -/
def lensMiddleUptoRow : OpenClaim := { program := "ytognbeejobfpfaa", sum := "cf7d43e8abe82c1a8050156ae8015cb20cc83489230f374ef41686a99e3fa116", func := "umbra/umbralaw24.LensMiddle", spec := "lensMiddle", inPlace := ["math/bits.Sub64", "math/bits.Add64"], unfollowed := true, recurses := true, named := ["math/bits.divideError", "math/bits.overflowError"], apart := false, narrowed := true }
def LensMiddleUptoSaid : Prop := lensMiddleUptoRow.holds Try.pinned (OpenSpec.upto lensMiddleSpec)

/-- 'umbralaw24.LensLeft', WHERE WHAT IT READS IS OF BULK AT MOST 1048576: true; the input reads as it did. -/
def lensLeftUptoRow : OpenClaim := { program := "ytognbeejobfpfaa", sum := "cf7d43e8abe82c1a8050156ae8015cb20cc83489230f374ef41686a99e3fa116", func := "umbra/umbralaw24.LensLeft", spec := "lensLeft", inPlace := ["math/bits.Sub64", "math/bits.Add64"], unfollowed := true, recurses := true, named := ["math/bits.divideError", "math/bits.overflowError"], apart := false, narrowed := true }
def LensLeftUptoSaid : Prop := lensLeftUptoRow.holds Try.pinned (OpenSpec.upto lensLeftSpec)

/-- 'umbralaw24.LensGrid', WHERE WHAT IT READS IS OF BULK AT MOST 1048576: true; the input reads as it did. -/
def lensGridUptoRow : OpenClaim := { program := "ytognbeejobfpfaa", sum := "cf7d43e8abe82c1a8050156ae8015cb20cc83489230f374ef41686a99e3fa116", func := "umbra/umbralaw24.LensGrid", spec := "lensGrid", inPlace := ["math/bits.Sub64", "math/bits.Add64"], unfollowed := true, recurses := true, named := ["math/bits.divideError", "math/bits.overflowError"], apart := false, narrowed := true }
def LensGridUptoSaid : Prop := lensGridUptoRow.holds Try.pinned (OpenSpec.upto lensGridSpec)

end Rows
end Go.Proofs.Ytognbeejobfpfaa
