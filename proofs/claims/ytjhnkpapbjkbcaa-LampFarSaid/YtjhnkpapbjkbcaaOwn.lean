/- A slice that the call builds, element by element. No program is named here. -/
import Derived.Test.YtjhnkpapbjkbcaaQuiet
import Derived.Laws.AppendOwn
import Derived.OwnWalk
namespace Go.Proofs.Ytjhnkpapbjkbcaa
open Go.RowKit
set_option linter.unusedVariables false
set_option linter.unusedSimpArgs false

theorem owns_call {w w1 : World} {base : Nat} {e : TypeId} {size : Nat} {v : Value} {n : Nat} {xs : List Value} (h : w.ownsRow base e size v n xs) (hb : Below w.heap.size w w1) : w1.ownsRow base e size v n xs := by
  obtain ⟨hl, h | ⟨g, cap, cur, h1, h2, h3, h4⟩⟩ := h
  · exact ⟨hl, .inl h⟩
  · exact ⟨hl, .inr ⟨g, cap, cur, h1, h2, (hb.block g (Array.getElem?_eq_some_iff.1 h3).1).trans h3, h4⟩⟩
theorem own_below {W0 w w' : World} {e : TypeId} {size : Nat} {v : Value} {n : Nat} {xs : List Value} (h : Below W0.heap.size W0 w) (hown : w.ownsRow W0.heap.size e size v n xs) (hg : w.grownBy w' v.ownBlock) : Below W0.heap.size W0 w' := by
  refine h.grown hg h.size fun k hk => ?_
  obtain ⟨-, h | ⟨g, cap, cur, h1, h2, -⟩⟩ := hown
  · rw [h.1] at hk; cases hk
  · rw [h1] at hk
    have : g = k := Option.some.inj hk
    omega
theorem owns_cells {w : World} {base : Nat} {e : TypeId} {v : Value} {n : Nat} {xs : List Value} (h : w.ownsRow base e 1 v n xs) (hn : n ≠ 0) :
    ∃ g cap, v = .slice (some ⟨g, 0, none⟩) n cap ∧ base ≤ g ∧ g < w.heap.size ∧ n ≤ cap ∧ cap ≤ maxLen ∧ ∀ j x, xs[j]? = some x → w.cell? ⟨g, j, none⟩ = some x := by
  obtain ⟨hl, h | ⟨g, cap, cur, h1, h2, h3, h4, h5, h6, h7⟩⟩ := h
  · exact absurd h.2 hn
  · refine ⟨g, cap, h1, h2, (Array.getElem?_eq_some_iff.1 h3).1, h4, h5, fun j x hx => ?_⟩
    rw [← h7, List.getElem?_take] at hx
    simp [World.cell?, h3]
    split at hx
    · simpa using hx
    · cases hx

end Go.Proofs.Ytjhnkpapbjkbcaa
