/- Blocks differ. -/
import Derived.Test.YtognbeejobfpfaaGoA
namespace Go.Proofs.Ytognbeejobfpfaa
open Go.RowKit Go.Sort

theorem St.ne {w0 : Base} {w : World} {L : List Blk} (h : St w0 L w) (i j : Nat) {g g' : Nat} {c c' : Array Value} {T T' : TypeId} {fr fr' : Nat × Nat} {own own' : Bool} (hi : L[i]? = some ⟨g, c, T, fr, own⟩) (hj : L[j]? = some ⟨g', c', T', fr', own'⟩) (hij : i ≠ j) : g ≠ g' := by
  intro e
  subst e
  have h1 : (L.map Blk.g)[i]? = some g := by rw [List.getElem?_map, hi]; rfl
  have h2 : (L.map Blk.g)[j]? = some g := by rw [List.getElem?_map, hj]; rfl
  have hl : i < (L.map Blk.g).length := (List.getElem?_eq_some_iff.1 h1).1
  exact hij ((List.getElem?_inj hl h.nd).1 (h1.trans h2.symm))
end Go.Proofs.Ytognbeejobfpfaa
