/- Slices of integers that came in. No program is named here. -/
import Derived.Test.YtenefncpokdmnaaFrame
import Derived.Test.YtenefncpokdmnaaFixM
namespace Go.Proofs.Ytenefncpokdmnaa
open Go.RowKit Go.WideShapes Go.ChangeShapes Go.ChangeAt
set_option linter.unusedVariables false
set_option linter.unusedSimpArgs false

theorem addr_none {w : World} {x : Addr} {v : Value} (h : w.cell? (x.add 0) = some v) : x.spot = none := by
  obtain ⟨b, off, spot⟩ := x
  have := World.cell?_spot h
  simpa [Addr.add] using this

section
variable {H : Type} {enc : TypeId × Value → H} {P : Program} {w : World} {spare : Nat → Bool} {held : Bool}
/-- A slice of int64s that came in reads as a list. -/
theorem ints_in {t e : TypeId} {v : Value} {d : DataW H} {p : List MemPlace} (ht : P.underlying t = some (.slice e)) (he : P.underlying e = some (.int .i64)) (hc : P.cellsOf e = 1)
    {r : Reach} {b0 : Nat} (hv : Value.okWide P w r b0 t v) (h : DataW.Trod enc P w 0 (fun _ => true) true t v d p) :
    ∃ A n cap l, v = .slice A n cap ∧ n ≤ cap ∧ cap ≤ maxLen ∧ RdI w A n l ∧ (∀ x ∈ l, InI x) := by
  obtain ⟨a0, len0, cap0, rfl⟩ := okWide_slice ht hv
  obtain ⟨fuel, hf⟩ := h
  rcases open_ints ht he hc hf with ⟨hcs, _⟩ | ⟨x, l, c, zs, hcs, _, hl, hm, hz, _, hcell, hwz⟩
  · simp [Value.cells] at hcs
    obtain ⟨rfl, rfl, rfl⟩ := hcs
    exact ⟨none, 0, 0, [], rfl, Nat.le_refl _, Nat.zero_le _, ⟨rfl, .inl rfl⟩, by simp⟩
  · simp [Value.cells] at hcs
    obtain ⟨rfl, rfl, rfl⟩ := hcs
    have hz' : zs.length = cap0 := by simpa using hz
    refine ⟨some x, len0, cap0, zs.take len0, rfl, hl, hm, ⟨by simp; omega, ?_⟩, ?_⟩
    · by_cases h0 : zs = []
      · left; simp [h0]
      · right
        have hp : 0 < zs.length := List.length_pos_iff.2 h0
        have hs := addr_none (hcell 0 hp)
        obtain ⟨b, off, spot⟩ := x
        simp at hs
        subst hs
        refine ⟨b, off, rfl, fun i hi => ?_⟩
        rw [List.length_take] at hi
        have hi2 : i < zs.length := by omega
        have := hcell i hi2
        rw [List.getElem_take]
        by_cases hi0 : i = 0
        · subst hi0
          simpa [Addr.add, List.getD_eq_getElem?_getD, hp] using this
        · simpa [Addr.add, hi0, List.getD_eq_getElem?_getD, hi2] using this
    · intro x hx
      exact bounds_i64 (hwz x (List.mem_of_mem_take hx))
end

theorem RdI.cut {w : World} {A : Option Addr} {n : Nat} {l : List Int} (h : RdI w A n l) (m : Nat) (hm : m ≤ n) : RdI w A m (l.take m) := by
  obtain ⟨rfl, h⟩ := h
  refine ⟨by simp; omega, ?_⟩
  rcases h with rfl | ⟨b, off, rfl, hc⟩
  · left; simp
  · right
    refine ⟨b, off, rfl, fun i hi => ?_⟩
    rw [List.length_take] at hi
    rw [List.getElem_take]
    exact hc i (by omega)
theorem RdI.call {w w1 : World} {A : Option Addr} {n : Nat} {l : List Int} (h : RdI w A n l) (hb : Below w.heap.size w w1) : RdI w1 A n l := by
  obtain ⟨rfl, h⟩ := h
  refine ⟨rfl, ?_⟩
  rcases h with h | ⟨b, off, rfl, hc⟩
  · exact .inl h
  · exact .inr ⟨b, off, rfl, fun i hi => (hb.cell (World.block_lt_of_cell? w _ (hc i hi))).trans (hc i hi)⟩

end Go.Proofs.Ytenefncpokdmnaa
