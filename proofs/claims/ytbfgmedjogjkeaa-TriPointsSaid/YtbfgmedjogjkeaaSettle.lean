/- A world written out in stores and new blocks, put behind a name, with what is known of it. No program is named here. -/
import Derived.Test.YtbfgmedjogjkeaaFresh
import Derived.Deep.CutRange
namespace Go.Proofs.Ytbfgmedjogjkeaa
open Go.RowKit
set_option linter.unusedVariables false
set_option linter.unusedSimpArgs false

theorem code_settle {P : Program} {c : Code} {Q : Exit → Act → World → Prop} {a : Act} {w : World} (h : ∀ W, W = w → c.wp P Q a W) : c.wp P Q a w := h w rfl
theorem call_settle {P : Program} {f : FuncId} {args : Array Value} {w : World} {R : Ending → World → Prop} (h : ∀ W, W = w → Calls P f args W R) : Calls P f args w R := h w rfl

theorem cs_ne {w : World} {g o' b o : Nat} {x : Value} (h : b ≠ g) : (w.setCell ⟨g, o', none⟩ x).cell? ⟨b, o, none⟩ = w.cell? ⟨b, o, none⟩ :=
  World.cell?_setCell_other _ _ _ _ (fun e => h (by injection e with e1 _ _; exact e1.symm))
theorem cs_off {w : World} {g o' o : Nat} {x : Value} (h : o ≠ o') : (w.setCell ⟨g, o', none⟩ x).cell? ⟨g, o, none⟩ = w.cell? ⟨g, o, none⟩ :=
  World.cell?_setCell_other _ _ _ _ (fun e => h (by injection e with _ e2 _; exact e2.symm))
theorem cs_at {w : World} {g o : Nat} {x : Value} (h : (w.cell? ⟨g, o, none⟩).isSome = true) : (w.setCell ⟨g, o, none⟩ x).cell? ⟨g, o, none⟩ = some x := by
  obtain ⟨u, hu⟩ := Option.isSome_iff_exists.1 h
  exact World.cell?_setCell_same _ _ _ hu
theorem ca_lt {w : World} {b o : Nat} {x : Obj} (h : b < w.heap.size) : (w.alloc x).cell? ⟨b, o, none⟩ = w.cell? ⟨b, o, none⟩ := World.cell?_alloc_lt w x ⟨b, o, none⟩ h
theorem ca_at {w : World} {b i : Nat} {c : Array Value} {t : TypeId} (h : b = w.heap.size) : (w.alloc (.cells c t)).cell? ⟨b, i, none⟩ = c[i]? := World.cell?_alloc_at _ _ _ _ h
theorem fs_any {w : World} {g o' b o : Nat} {x : Value} : (w.setCell ⟨g, o', none⟩ x).frozen? ⟨b, o, none⟩ = w.frozen? ⟨b, o, none⟩ := by simp
theorem fa_lt {w : World} {b o : Nat} {x : Obj} (h : b < w.heap.size) : (w.alloc x).frozen? ⟨b, o, none⟩ = w.frozen? ⟨b, o, none⟩ := World.frozen?_alloc_past _ _ _ h
theorem fa_at {w : World} {b i : Nat} {c : Array Value} {t : TypeId} (h : b = w.heap.size) : (w.alloc (.cells c t)).frozen? ⟨b, i, none⟩ = false := World.frozen?_alloc_at _ _ _ _ h
theorem cd_any {w : World} {b o : Nat} : w.drew.cell? ⟨b, o, none⟩ = w.cell? ⟨b, o, none⟩ := rfl
theorem fd_any {w : World} {b o : Nat} : w.drew.frozen? ⟨b, o, none⟩ = w.frozen? ⟨b, o, none⟩ := rfl

end Go.Proofs.Ytbfgmedjogjkeaa
