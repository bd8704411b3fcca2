/- A slice of textures that came in: structs of a number and a slice of places. No function of the program is named here. -/
import Derived.Test.YtognbeejobfpfaaFrameT
import Derived.Test.YtognbeejobfpfaaMT
import Derived.Deep.SlicePairs
namespace Go.Proofs.Ytognbeejobfpfaa
open Go.RowKit Go.WideShapes Go.ChangeShapes Go.ChangeAt Go.Deep
set_option linter.unusedVariables false
set_option linter.unusedSimpArgs false

section
variable {H : Type} {enc : TypeId × Value → H} {P : Program} {w : World}
theorem flats_cell {t e : TypeId} {v : Value} {y : DataW H × List MemPlace} {fuel : Nat} {ks : List IntKind} (ht : P.underlying t = some (.slice e)) (hk : flatKinds P e = some ks) (hc : P.cellsOf e = ks.length) (hpos : 0 < ks.length)
    (hf : DataW.trod enc P w 0 (fun _ => true) true fuel t [v] = some y) :
    ∃ (A : Option Addr) (n cap : Nat) (L : List (List Int)), v = .slice A n cap ∧ n ≤ cap ∧ cap ≤ maxLen ∧ n = L.length ∧ (∀ l ∈ L, Al2 Fits ks l) ∧
      (L = [] ∨ ∃ b off, A = some ⟨b, off, none⟩ ∧ ∀ i (hi : i < L.length) j, j < ks.length → w.cell? ⟨b, off + i * ks.length + j, none⟩ = (vals ks L[i])[j]?) := by
  rcases open_slice ht hf with ⟨hcs, _⟩ | ⟨x, len, cap, m, n, D, Pl, hcs, _, hl, hm, hmm, _, hall⟩
  · simp only [List.cons.injEq, and_true] at hcs
    subst hcs
    exact ⟨none, 0, 0, [], rfl, Nat.le_refl _, Nat.zero_le _, rfl, by simp, .inl rfl⟩
  · simp only [List.cons.injEq, and_true] at hcs
    subst hcs
    have hmc : m = cap := by simpa using hmm
    subst hmc
    have key : ∀ i, i < m → ∃ ns, Al2 Fits ks ns ∧ ∀ j, j < ks.length → w.cell? ((x.add (i * ks.length)).add j) = (vals ks ns)[j]? := by
      intro i hi
      obtain ⟨cs', hc', ht'⟩ := hall i hi
      rw [hc] at hc'
      obtain ⟨_, hlen, hcell⟩ := World.cells?_some hc'
      unfold flatKinds at hk
      cases hl' : leaves P 9 e with
      | none => simp [hl'] at hk
      | some ts =>
        simp only [hl', Option.bind_some] at hk
        obtain ⟨ns, e1, e2⟩ := ints_open (flat_open 9 e ts hl' _ _ _ ht') hk
        exact ⟨ns, e2, fun j hj => by rw [hcell j hj, e1]⟩
    have mk : ∀ k, k ≤ m → ∃ L : List (List Int), L.length = k ∧ (∀ l ∈ L, Al2 Fits ks l) ∧ ∀ i (hi : i < L.length) j, j < ks.length → w.cell? ((x.add (i * ks.length)).add j) = (vals ks L[i])[j]? := by
      intro k
      induction k with
      | zero => intro _; exact ⟨[], rfl, by simp, by simp⟩
      | succ k ih =>
        intro hk'
        obtain ⟨L, h1, h2, h3⟩ := ih (by omega)
        obtain ⟨ns, h4, h5⟩ := key k (by omega)
        refine ⟨L ++ [ns], by simp [h1], ?_, ?_⟩
        · intro l hl
          rw [List.mem_append, List.mem_singleton] at hl
          rcases hl with hl | rfl
          · exact h2 l hl
          · exact h4
        · intro i hi j hj
          by_cases hik : i < L.length
          · rw [List.getElem_append_left hik]; exact h3 i hik j hj
          · have : i = L.length := by simp at hi; omega
            subst this
            rw [List.getElem_append_right (Nat.le_refl _)]
            simp only [Nat.sub_self, List.getElem_singleton]
            rw [h1]
            exact h5 j hj
    obtain ⟨L, h1, h2, h3⟩ := mk len hl
    refine ⟨some x, len, m, L, rfl, hl, hm, h1.symm, h2, ?_⟩
    by_cases h0 : L = []
    · exact .inl h0
    · right
      have hp : 0 < L.length := List.length_pos_iff.2 h0
      have hc0 := h3 0 hp 0 hpos
      have hs : x.spot = none := by
        have hlen := vals_len (h2 L[0] (List.getElem_mem hp))
        have h6 : w.cell? ((x.add (0 * ks.length)).add 0) = some ((vals ks L[0])[0]'(by omega)) := by rw [hc0, List.getElem?_eq_getElem]
        have := World.cell?_spot h6
        simpa [Addr.add] using this
      obtain ⟨b, off, spot⟩ := x
      simp at hs
      subst hs
      refine ⟨b, off, rfl, fun i hi j hj => ?_⟩
      have := h3 i hi j hj
      rw [add_off, add_off] at this
      exact this
theorem vecs_cell {t e : TypeId} {v : Value} {y : DataW H × List MemPlace} {fuel : Nat} (ht : P.underlying t = some (.slice e)) (hk : flatKinds P e = some [.i64, .i64, .i64]) (hc : P.cellsOf e = 3)
    (hf : DataW.trod enc P w 0 (fun _ => true) true fuel t [v] = some y) :
    ∃ A n cap l, v = .slice A n cap ∧ n ≤ cap ∧ cap ≤ maxLen ∧ RdV w A n l ∧ (∀ x ∈ l, InV x) := by
  obtain ⟨A, n, cap, L, h1, h2, h3, h4, h5, h6⟩ := flats_cell ht hk (by simpa using hc) (by simp) hf
  refine ⟨A, n, cap, L.map toT3, h1, h2, h3, ⟨by simp [h4], ?_⟩, ?_⟩
  · rcases h6 with h6 | ⟨b, off, h6, h7⟩
    · left; simp [h6]
    · right
      refine ⟨b, off, h6, fun i hi => ?_⟩
      have hi' : i < L.length := by simpa using hi
      have e := (toT3_in (h5 L[i] (List.getElem_mem hi'))).2
      have k0 := h7 i hi' 0 (by simp)
      have k1 := h7 i hi' 1 (by simp)
      have k2 := h7 i hi' 2 (by simp)
      rw [e] at k0 k1 k2
      simp only [List.getElem_map]
      exact ⟨k0, k1, k2⟩
  · intro x hx
    obtain ⟨l, hl, rfl⟩ := List.mem_map.1 hx
    exact (toT3_in (h5 l hl)).1
/-- A slice of textures that came in. -/
theorem texs_in {t e e2 : TypeId} {v : Value} {d : DataW H} {p : List MemPlace} {f0 f1 : Field} (ht : P.underlying t = some (.slice e)) (he : P.underlying e = some (.struct #[f0, f1])) (h0 : P.underlying f0.type = some (.int .i64)) (h1 : P.underlying f1.type = some (.slice e2))
    (hk : flatKinds P e2 = some [.i64, .i64, .i64]) (hc : P.cellsOf e2 = 3) (hs : (P.cellsOf e, f0.offset, f1.offset, P.cellsOf f0.type, P.cellsOf f1.type) = (2, 0, 1, 1, 1))
    {r : Reach} {b0 : Nat} (hv : Value.okWide P w r b0 t v) (h : DataW.Trod enc P w 0 (fun _ => true) true t v d p) :
    ∃ A n cap L, v = .slice A n cap ∧ n ≤ cap ∧ cap ≤ maxLen ∧ (n = L.length ∧ Rd tE 2 w A L) ∧ (∀ x ∈ L, TxOk w x) := by
  simp only [Prod.mk.injEq] at hs
  obtain ⟨s1, s2, s3, s4, s5⟩ := hs
  obtain ⟨a0, len0, cap0, rfl⟩ := okWide_slice ht hv
  obtain ⟨fuel, hf⟩ := h
  rcases open_slice_pairs ht he s1 s2 s3 s4 s5 hf with ⟨hcs, _⟩ | ⟨x, len, cap, m, n, V0, V1, D0, D1, P0, P1, hcs, _, hl, hm, hmm, _, hall⟩
  · simp [Value.cells] at hcs
    obtain ⟨rfl, rfl, rfl⟩ := hcs
    exact ⟨none, 0, 0, [], rfl, Nat.le_refl _, Nat.zero_le _, ⟨rfl, .inl rfl⟩, fun x hx => absurd hx List.not_mem_nil⟩
  · simp [Value.cells] at hcs
    obtain ⟨rfl, rfl, rfl⟩ := hcs
    have hmc : m = cap0 := by simpa using hmm
    subst hmc
    have key : ∀ i, i < m → ∃ y : Tx, w.cell? (x.add (i * 2)) = some (.int .i64 y.1) ∧ w.cell? (x.add (i * 2 + 1)) = some (.slice y.2.1 (List.length y.2.2.2) y.2.2.1) ∧ TxOk w y := by
      intro i hi
      obtain ⟨k0, k1, g0, g1⟩ := hall i hi
      obtain ⟨a, e1, -, hw⟩ := DataW.trod_int h0 g0
      simp only [List.cons.injEq, and_true] at e1
      obtain ⟨A, n', cap, l, e2, q1, q2, q3, q4⟩ := vecs_cell h1 hk hc g1
      obtain ⟨q5, q6⟩ := q3.rd
      refine ⟨(a, A, cap, l), by rw [k0, e1], by rw [k1, e2, q5], ⟨q6, by rw [← q5]; exact q1, bounds_i64 hw, q4⟩⟩
    obtain ⟨f, hf'⟩ : ∃ f : Nat → Tx, ∀ i, i < m → w.cell? (x.add (i * 2)) = some (.int .i64 (f i).1) ∧ w.cell? (x.add (i * 2 + 1)) = some (.slice (f i).2.1 (List.length (f i).2.2.2) (f i).2.2.1) ∧ TxOk w (f i) :=
      ⟨fun i => if h : i < m then Classical.choose (key i h) else tx0, fun i hi => by
        simp only [dif_pos hi]
        exact Classical.choose_spec (key i hi)⟩
    refine ⟨some x, len0, m, (List.range len0).map f, rfl, hl, hm, ⟨by simp, ?_⟩, ?_⟩
    · by_cases hz : len0 = 0
      · left; simp [hz]
      right
      have hp : 0 < m := by omega
      have hc0 := (hf' 0 hp).1
      have hs : x.spot = none := by
        have := World.cell?_spot hc0
        simpa [Addr.add] using this
      obtain ⟨b, off, spot⟩ := x
      simp at hs
      subst hs
      cases ho : w.heap[b]? with
      | none => rw [add_off] at hc0; simp [World.cell?, ho] at hc0
      | some o =>
        cases o with
        | cells c T fr =>
          refine ⟨b, off, c, T, fr, rfl, ho, fun i hi j hj => ?_⟩
          have hi' : i < len0 := by simpa using hi
          obtain ⟨k0, k1, -⟩ := hf' i (by omega)
          rw [add_off] at k0 k1
          simp only [World.cell?, ho] at k0 k1
          simp only [List.getElem_map, List.getElem_range]
          match j, hj with
          | 0, _ => simpa [tE] using k0
          | 1, _ => simpa [tE, Nat.add_assoc] using k1
        | _ => rw [add_off] at hc0; simp [World.cell?, ho] at hc0
    · intro y hy
      obtain ⟨i, hi, rfl⟩ := List.mem_map.1 hy
      exact (hf' i (by have := List.mem_range.1 hi; omega)).2.2
end
end Go.Proofs.Ytognbeejobfpfaa
