/- A struct of a number and a slice of places that came in (a texture). No function of the program is named here. -/
import Derived.Test.YtognbeejobfpfaaFrameF
import Derived.ChangeSame
namespace Go.Proofs.Ytognbeejobfpfaa
open Go.RowKit Go.WideShapes Go.ChangeShapes Go.ChangeAt Go.Deep
set_option linter.unusedVariables false
set_option linter.unusedSimpArgs false

section
variable {H : Type} {enc : TypeId × Value → H} {P : Program} {w : World}
theorem texture_in {t e : TypeId} {v : Value} {d : DataW H} {p : List MemPlace} {f0 f1 : Field} (ht : P.underlying t = some (.struct #[f0, f1])) (h0 : P.underlying f0.type = some (.int .i64)) (h1 : P.underlying f1.type = some (.slice e))
    (hk : flatKinds P e = some [.i64, .i64, .i64]) (hc : P.cellsOf e = 3) (hs : (P.cellsOf t, f0.offset, f1.offset, P.cellsOf f0.type, P.cellsOf f1.type) = (2, 0, 1, 1, 1)) (hct : P.cellTypes P.depth t = some [f0.type, f1.type])
    {r : Reach} {b0 : Nat} (hv : Value.okWide P w r b0 t v) (h : DataW.Trod enc P w 0 (fun _ => true) true t v d p) :
    ∃ s A n cap l, v = .agg #[.int .i64 s, .slice A n cap] ∧ InI s ∧ n ≤ cap ∧ cap ≤ maxLen ∧ RdV w A n l ∧ (∀ x ∈ l, InV x) := by
  simp only [Prod.mk.injEq] at hs
  obtain ⟨s1, s2, s3, s4, s5⟩ := hs
  unfold Value.okWide at hv
  rw [ht] at hv
  obtain ⟨cs, rfl, hsz, ts, hts, -, hcell⟩ := hv
  rw [hct] at hts
  simp only [Option.some.injEq] at hts
  subst hts
  obtain ⟨fuel, hx⟩ := h
  obtain ⟨y0, y1, n, -, -, g0, g1⟩ := trod_struct2 ht hx
  obtain ⟨l, rfl⟩ : ∃ l, cs = ⟨l⟩ := ⟨cs.toList, rfl⟩
  rw [s1] at hsz
  match l, hsz with
  | [c0, c1], _ =>
    simp only [Value.cells, s2, s3, s4, s5] at g0 g1
    have g0' : DataW.trod enc P w 0 (fun _ => true) true n f0.type [c0] = some y0 := g0
    have g1' : DataW.trod enc P w 0 (fun _ => true) true n f1.type [c1] = some y1 := g1
    obtain ⟨a, e1, -, hw⟩ := DataW.trod_int h0 g0'
    simp only [List.cons.injEq, and_true] at e1
    subst e1
    obtain ⟨u, hu, hok⟩ := hcell 1 c1 rfl
    have hu' : f1.type = u := by simpa using hu
    subst hu'
    have hv1 : Value.okWide P w r b0 f1.type c1 := by
      unfold Value.okWide
      rw [h1]
      exact hok
    obtain ⟨a0, l0, c0', rfl⟩ := okWide_slice h1 hv1
    obtain ⟨A, n', cap, l, e2, k1, k2, k3, k4⟩ := vecs_in (enc := enc) (d := y1.1) (p := y1.2) h1 hk hc hv1 ⟨n, g1'⟩
    rw [e2]
    exact ⟨a, A, n', cap, l, rfl, bounds_i64 hw, k1, k2, k3, k4⟩
end
end Go.Proofs.Ytognbeejobfpfaa
