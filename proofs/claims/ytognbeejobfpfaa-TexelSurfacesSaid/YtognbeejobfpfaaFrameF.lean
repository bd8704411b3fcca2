/- Slices of structs or arrays of integers that came in. No function of the program is named here. -/
import Derived.Test.YtognbeejobfpfaaFrameV
import Derived.Deep.Slices
namespace Go.Proofs.Ytognbeejobfpfaa
open Go.RowKit Go.WideShapes Go.ChangeShapes Go.ChangeAt Go.Deep
set_option linter.unusedVariables false
set_option linter.unusedSimpArgs false

theorem add_off (b off k : Nat) : (⟨b, off, none⟩ : Addr).add k = ⟨b, off + k, none⟩ := by
  unfold Addr.add
  split
  · rename_i h; subst h; rfl
  · rfl
theorem vals_len : ∀ {ks : List IntKind} {ns : List Int}, Al2 Fits ks ns → (vals ks ns).length = ks.length
  | [], [], _ => rfl
  | _ :: ks, _ :: ns, h => by simp [vals, vals_len h.2]
  | [], _ :: _, h => h.elim
  | _ :: _, [], h => h.elim

section
variable {H : Type} {enc : TypeId × Value → H} {P : Program} {w : World}
theorem flats_in {t e : TypeId} {v : Value} {d : DataW H} {p : List MemPlace} {ks : List IntKind} (ht : P.underlying t = some (.slice e)) (hk : flatKinds P e = some ks) (hc : P.cellsOf e = ks.length) (hpos : 0 < ks.length)
    {r : Reach} {b0 : Nat} (hv : Value.okWide P w r b0 t v) (h : DataW.Trod enc P w 0 (fun _ => true) true t v d p) :
    ∃ (A : Option Addr) (n cap : Nat) (L : List (List Int)), v = .slice A n cap ∧ n ≤ cap ∧ cap ≤ maxLen ∧ n = L.length ∧ (∀ l ∈ L, Al2 Fits ks l) ∧
      (L = [] ∨ ∃ b off, A = some ⟨b, off, none⟩ ∧ ∀ i (hi : i < L.length) j, j < ks.length → w.cell? ⟨b, off + i * ks.length + j, none⟩ = (vals ks L[i])[j]?) := by
  obtain ⟨a0, len0, cap0, rfl⟩ := okWide_slice ht hv
  obtain ⟨fuel, hf⟩ := h
  rcases open_slice ht hf with ⟨hcs, _⟩ | ⟨x, len, cap, m, n, D, Pl, hcs, _, hl, hm, hmm, _, hall⟩
  · simp [Value.cells] at hcs
    obtain ⟨rfl, rfl, rfl⟩ := hcs
    exact ⟨none, 0, 0, [], rfl, Nat.le_refl _, Nat.zero_le _, rfl, by simp, .inl rfl⟩
  · simp [Value.cells] at hcs
    obtain ⟨rfl, rfl, rfl⟩ := hcs
    have hmc : m = cap0 := by simpa using hmm
    subst hmc
    have key : ∀ i, i < m → ∃ ns, Al2 Fits ks ns ∧ ∀ j, j < ks.length → w.cell? ((x.add (i * ks.length)).add j) = (vals ks ns)[j]? := by
      intro i hi
      obtain ⟨cs', hc', ht'⟩ := hall i hi
      rw [hc] at hc'
      obtain ⟨_, hlen, hcell⟩ := World.cells?_some hc'
      unfold flatKinds at hk
      cases hl' : leaves P 9 e with
      | none => simp [hl'] at hk
      | some ts =>
        simp only [hl', Option.bind_some] at hk
        obtain ⟨ns, e1, e2⟩ := ints_open (flat_open 9 e ts hl' _ _ _ ht') hk
        exact ⟨ns, e2, fun j hj => by rw [hcell j hj, e1]⟩
    have mk : ∀ k, k ≤ m → ∃ L : List (List Int), L.length = k ∧ (∀ l ∈ L, Al2 Fits ks l) ∧ ∀ i (hi : i < L.length) j, j < ks.length → w.cell? ((x.add (i * ks.length)).add j) = (vals ks L[i])[j]? := by
      intro k
      induction k with
      | zero => intro _; exact ⟨[], rfl, by simp, by simp⟩
      | succ k ih =>
        intro hk'
        obtain ⟨L, h1, h2, h3⟩ := ih (by omega)
        obtain ⟨ns, h4, h5⟩ := key k (by omega)
        refine ⟨L ++ [ns], by simp [h1], ?_, ?_⟩
        · intro l hl
          rw [List.mem_append, List.mem_singleton] at hl
          rcases hl with hl | rfl
          · exact h2 l hl
          · exact h4
        · intro i hi j hj
          by_cases hik : i < L.length
          · rw [List.getElem_append_left hik]; exact h3 i hik j hj
          · have : i = L.length := by simp at hi; omega
            subst this
            rw [List.getElem_append_right (Nat.le_refl _)]
            simp only [Nat.sub_self, List.getElem_singleton]
            rw [h1]
            exact h5 j hj
    obtain ⟨L, h1, h2, h3⟩ := mk len0 hl
    refine ⟨some x, len0, m, L, rfl, hl, hm, h1.symm, h2, ?_⟩
    by_cases h0 : L = []
    · exact .inl h0
    · right
      have hp : 0 < L.length := List.length_pos_iff.2 h0
      have hc0 := h3 0 hp 0 hpos
      have hs : x.spot = none := by
        have hlen := vals_len (h2 L[0] (List.getElem_mem hp))
        have h6 : w.cell? ((x.add (0 * ks.length)).add 0) = some ((vals ks L[0])[0]'(by omega)) := by rw [hc0, List.getElem?_eq_getElem]
        have := World.cell?_spot h6
        simpa [Addr.add] using this
      obtain ⟨b, off, spot⟩ := x
      simp at hs
      subst hs
      refine ⟨b, off, rfl, fun i hi j hj => ?_⟩
      have := h3 i hi j hj
      rw [add_off, add_off] at this
      exact this
end

/-- Three integers as a vector. -/
def toT3 : List Int → T3
  | [a, b, c] => (a, b, c)
  | _ => zero3
theorem toT3_in {l : List Int} (h : Al2 Fits [.i64, .i64, .i64] l) : InV (toT3 l) ∧ vals [.i64, .i64, .i64] l = [.int .i64 (toT3 l).1, .int .i64 (toT3 l).2.1, .int .i64 (toT3 l).2.2] := by
  rcases l with _ | ⟨a, _ | ⟨b, _ | ⟨c, _ | ⟨d, l⟩⟩⟩⟩
  · exact h.elim
  · exact h.2.elim
  · exact h.2.2.elim
  · obtain ⟨h1, h2, h3, -⟩ := h
    exact ⟨⟨bounds_i64 h1, bounds_i64 h2, bounds_i64 h3⟩, by simp [vals, toT3]⟩
  · exact h.2.2.2.elim

section
variable {H : Type} {enc : TypeId × Value → H} {P : Program} {w : World}
/-- A slice of vectors or places that came in. -/
theorem vecs_in {t e : TypeId} {v : Value} {d : DataW H} {p : List MemPlace} (ht : P.underlying t = some (.slice e)) (hk : flatKinds P e = some [.i64, .i64, .i64]) (hc : P.cellsOf e = 3)
    {r : Reach} {b0 : Nat} (hv : Value.okWide P w r b0 t v) (h : DataW.Trod enc P w 0 (fun _ => true) true t v d p) :
    ∃ A n cap l, v = .slice A n cap ∧ n ≤ cap ∧ cap ≤ maxLen ∧ RdV w A n l ∧ (∀ x ∈ l, InV x) := by
  obtain ⟨A, n, cap, L, h1, h2, h3, h4, h5, h6⟩ := flats_in ht hk (by simpa using hc) (by simp) hv h
  refine ⟨A, n, cap, L.map toT3, h1, h2, h3, ⟨by simp [h4], ?_⟩, ?_⟩
  · rcases h6 with h6 | ⟨b, off, h6, h7⟩
    · left; simp [h6]
    · right
      refine ⟨b, off, h6, fun i hi => ?_⟩
      have hi' : i < L.length := by simpa using hi
      have e := (toT3_in (h5 L[i] (List.getElem_mem hi'))).2
      have k0 := h7 i hi' 0 (by simp)
      have k1 := h7 i hi' 1 (by simp)
      have k2 := h7 i hi' 2 (by simp)
      rw [e] at k0 k1 k2
      simp only [List.getElem_map]
      exact ⟨k0, k1, k2⟩
  · intro x hx
    obtain ⟨l, hl, rfl⟩ := List.mem_map.1 hx
    exact (toT3_in (h5 l hl)).1
end

end Go.Proofs.Ytognbeejobfpfaa
