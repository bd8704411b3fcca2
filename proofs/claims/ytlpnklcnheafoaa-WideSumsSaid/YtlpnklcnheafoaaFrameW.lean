/- A slice of wide numbers that came in. No function of the program is named here. -/
import Derived.Test.YtlpnklcnheafoaaFrameF
import Derived.Test.YtlpnklcnheafoaaN9
import Derived.Test.YtlpnklcnheafoaaGoF
namespace Go.Proofs.Ytlpnklcnheafoaa
open Go.RowKit Go.WideShapes Go.ChangeShapes Go.ChangeAt Go.Deep
set_option linter.unusedVariables false
set_option linter.unusedSimpArgs false

def toWn : List Int → Int
  | [h, l] => h * 18446744073709551616 + l
  | _ => 0
theorem toWn_eq (a b : Int) : toWn [a, b] = a * 18446744073709551616 + b := rfl
theorem toWn_in {l : List Int} (h : Al2 Fits [.i64, .u64] l) : InW (toWn l) ∧ vals [.i64, .u64] l = wE (toWn l) := by
  rcases l with _ | ⟨a, _ | ⟨b, _ | ⟨c, l⟩⟩⟩
  · exact h.elim
  · exact h.2.elim
  · obtain ⟨h1, h2, -⟩ := h
    have i1 := fit_i64 h1
    have i2 := fit_u64 h2
    unfold InI at i1
    unfold InU at i2
    refine ⟨by rw [toWn_eq]; unfold InW; omega, ?_⟩
    have e1 : a = wHi (toWn [a, b]) := by rw [toWn_eq]; unfold wHi; omega
    have e2 : b = wLo (toWn [a, b]) := by rw [toWn_eq]; unfold wLo; omega
    unfold wE
    rw [← e1, ← e2]
    rfl
  · exact h.2.2.elim

section
variable {H : Type} {enc : TypeId × Value → H} {P : Program} {w : World}
theorem wides_in {t e : TypeId} {v : Value} {d : DataW H} {p : List MemPlace} (ht : P.underlying t = some (.slice e)) (hk : flatKinds P e = some [.i64, .u64]) (hc : P.cellsOf e = 2)
    {r : Reach} {b0 : Nat} (hv : Value.okWide P w r b0 t v) (h : DataW.Trod enc P w 0 (fun _ => true) true t v d p) :
    ∃ A n cap l, v = .slice A n cap ∧ n ≤ cap ∧ cap ≤ maxLen ∧ (n = l.length ∧ Rd wE 2 w A l) ∧ (∀ x ∈ l, InW x) := by
  obtain ⟨A, n, cap, L, h1, h2, h3, h4, h5, h6⟩ := flats_in ht hk (by simpa using hc) (by simp) hv h
  refine ⟨A, n, cap, L.map toWn, h1, h2, h3, ⟨by simp [h4], ?_⟩, ?_⟩
  · by_cases h0 : L = []
    · left; simp [h0]
    rcases h6 with h6 | ⟨b, off, h6, h7⟩
    · exact absurd h6 h0
    · right
      have hp := List.length_pos_iff.2 h0
      have hc0 := h7 0 hp 0 (by simp)
      have e0 := (toWn_in (h5 L[0] (List.getElem_mem hp))).2
      rw [e0] at hc0
      cases ho : w.heap[b]? with
      | none => simp [World.cell?, ho, wE] at hc0
      | some o =>
        cases o with
        | cells c T fr =>
          refine ⟨b, off, c, T, fr, h6, ho, fun i hi j hj => ?_⟩
          have hi' : i < L.length := by simpa using hi
          have k := h7 i hi' j (by simpa using hj)
          rw [(toWn_in (h5 L[i] (List.getElem_mem hi'))).2] at k
          simp only [World.cell?, ho] at k
          rw [List.getElem_map]
          simpa using k
        | _ => simp [World.cell?, ho, wE] at hc0
  · intro x hx
    obtain ⟨l, hl, rfl⟩ := List.mem_map.1 hx
    exact (toWn_in (h5 l hl)).1
end
end Go.Proofs.Ytlpnklcnheafoaa
