/- Slices that came in, of a length that is not known: steps that read them; loops with an invariant. No program is named here. -/
import Derived.Test.YtognbeejobfpfaaGoK
import Derived.Test.YtognbeejobfpfaaFrameF
namespace Go.Proofs.Ytognbeejobfpfaa
open Go.RowKit Go.Sort
set_option linter.unusedVariables false
set_option linter.unusedSimpArgs false

/-- A slice that reads as a list: E says which cells an element has. -/
def Rd {α : Type} (E : α → List Value) (sz : Nat) (w : World) (A : Option Addr) (l : List α) : Prop :=
  l = [] ∨ ∃ b off c T fr, A = some ⟨b, off, none⟩ ∧ Has b (.cells c T fr) w ∧ ∀ i (h : i < l.length) j, j < sz → c.toList[off + i * sz + j]? = (E l[i])[j]?
def gd {α : Type} (d : α) (l : List α) (i : Int) : α := l.getD i.toNat d
theorem gd_lt {α : Type} (d : α) {l : List α} {i : Int} (h : 0 ≤ i ∧ i < l.length) : ∃ h' : i.toNat < l.length, gd d l i = l[i.toNat] := by
  have h' : i.toNat < l.length := by omega
  exact ⟨h', by simp [gd, h']⟩
theorem gd_mem {α : Type} (d : α) {l : List α} {i : Int} (h : 0 ≤ i ∧ i < l.length) : gd d l i ∈ l := by
  obtain ⟨h', e⟩ := gd_lt d h
  rw [e]; exact List.getElem_mem h'
theorem Rd.stay {α : Type} {E : α → List Value} {sz : Nat} {w w' : World} {A : Option Addr} {l : List α} (h : Rd E sz w A l) (hb : Below w.heap.size w w') : Rd E sz w' A l := by
  rcases h with h | ⟨b, off, c, T, fr, h1, h2, h3⟩
  · exact .inl h
  · exact .inr ⟨b, off, c, T, fr, h1, h2.stay hb, h3⟩
theorem Rd.cut {α : Type} {E : α → List Value} {sz : Nat} {w : World} {A : Option Addr} {l : List α} (h : Rd E sz w A l) (m : Nat) : Rd E sz w A (l.take m) := by
  rcases h with rfl | ⟨b, off, c, T, fr, h1, h2, h3⟩
  · left; simp
  · refine .inr ⟨b, off, c, T, fr, h1, h2, fun i hi j hj => ?_⟩
    rw [List.length_take] at hi
    rw [List.getElem_take]
    exact h3 i (by omega) j hj
theorem Rd.op {α : Type} {E : α → List Value} {sz : Nat} {w : World} {A : Option Addr} {l : List α} (h : Rd E sz w A l) {i : Int} (hi : 0 ≤ i ∧ i < l.length) : ∃ b off, A = some ⟨b, off, none⟩ := by
  rcases h with rfl | ⟨b, off, c, T, fr, h1, h2, h3⟩
  · simp at hi; omega
  · exact ⟨b, off, h1⟩
theorem ldVal_part {P : Program} {t : TypeId} {c : Array Value} {E : List Value} {o j : Nat} {v : Value} (h0 : 0 < E.length) (h : ∀ m, m < E.length → c.toList[o + m]? = E[m]?) (hv : ldVal P t ⟨E⟩ j = some v) : ldVal P t c (o + j) = some v := by
  have key : ∀ s, j + s ≤ E.length → (c.toList.drop (o + j)).take s = (E.drop j).take s ∧ o + j + s ≤ max (o + j) c.toList.length := by
    intro s hs
    constructor
    · apply List.ext_getElem?
      intro m
      by_cases hm : m < s
      · rw [List.getElem?_take_of_lt hm, List.getElem?_take_of_lt hm, List.getElem?_drop, List.getElem?_drop, Nat.add_assoc, h (j + m) (by omega)]
      · rw [List.getElem?_take_eq_none (by omega), List.getElem?_take_eq_none (by omega)]
    · by_cases h0 : s = 0
      · omega
      · have h1 := h (j + s - 1) (by omega)
        rw [List.getElem?_eq_getElem (show j + s - 1 < E.length by omega)] at h1
        have := (List.getElem?_eq_some_iff.1 h1).1
        omega
  unfold ldVal at hv ⊢
  cases hu : P.underlying t with
  | none => rw [hu] at hv; cases hv
  | some d =>
    rw [hu] at hv
    have agg : ∀ (hv : (match P.info? t with
        | some i => if Nat.ble (j + i.size) (⟨E⟩ : Array Value).toList.length then some (Value.agg ⟨((⟨E⟩ : Array Value).toList.drop j).take i.size⟩) else none
        | none => none) = some v), (match P.info? t with
        | some i => if Nat.ble (o + j + i.size) c.toList.length then some (Value.agg ⟨(c.toList.drop (o + j)).take i.size⟩) else none
        | none => none) = some v := by
      intro hv
      cases hi : P.info? t with
      | none => simp [hi] at hv
      | some i =>
        simp only [hi] at hv ⊢
        split at hv
        · rename_i h3
          rw [Nat.ble_eq] at h3
          have h3' : j + i.size ≤ E.length := h3
          obtain ⟨k1, k2⟩ := key i.size h3'
          have k3 : o + j + i.size ≤ c.toList.length ∨ i.size = 0 := by omega
          rcases k3 with k3 | k3
          · rw [if_pos (by rw [Nat.ble_eq]; exact k3), k1]
            exact hv
          · by_cases k4 : o + j + i.size ≤ c.toList.length
            · rw [if_pos (by rw [Nat.ble_eq]; exact k4), k1]
              exact hv
            · exfalso
              by_cases hj : j = 0
              · have h1 := h 0 h0
                rw [List.getElem?_eq_getElem (show 0 < E.length by omega)] at h1
                have := (List.getElem?_eq_some_iff.1 h1).1
                omega
              · have h1 := h (j - 1) (by omega)
                rw [List.getElem?_eq_getElem (show j - 1 < E.length by omega)] at h1
                have := (List.getElem?_eq_some_iff.1 h1).1
                omega
        · cases hv
    have one : ∀ (hv : (⟨E⟩ : Array Value).toList[j]? = some v), c.toList[o + j]? = some v := by
      intro hv
      have hj : j < E.length := (List.getElem?_eq_some_iff.1 hv).1
      rw [h j hj]; exact hv
    cases d
    case struct fs => exact agg hv
    case array n e => exact agg hv
    all_goals exact one hv

theorem Rd.ld {α : Type} {P : Program} {E : α → List Value} {sz : Nat} {w : World} {b off : Nat} {l : List α} (h : Rd E sz w (some ⟨b, off, none⟩) l) (hE : ∀ x, (E x).length = sz) (h0 : 0 < sz) (d : α) {i : Int} (hi : 0 ≤ i ∧ i < l.length)
    {t : TypeId} {j : Nat} {v : Value} (hv : ldVal P t ⟨E (gd d l i)⟩ j = some v) : (loadVar t ⟨b, off + i.toNat * sz + j, none⟩).run P w = .ok v w := by
  rcases h with rfl | ⟨b', off', c, T, fr, h1, h2, h3⟩
  · simp at hi; omega
  · simp only [Option.some.injEq, Addr.mk.injEq, and_true] at h1
    obtain ⟨rfl, rfl⟩ := h1
    obtain ⟨hlt, e⟩ := gd_lt d hi
    refine run_ld h2 (ldVal_part (by rw [hE]; exact h0) (fun m hm => ?_) hv)
    rw [hE] at hm
    rw [e]
    exact h3 _ hlt m hm
section
variable {P : Program} {ops : Array Oper} {Q : Exit → Act → World → Prop} {rest : List Oper} {a : Act} {w : World} {dst : Option Tmp} {ty : TypeId} {pos : String} {after : Array Edge} {guard : Option (Nat × Bool)}
def elSize (P : Program) (t : TypeId) : Option (TypeId × Nat) := match P.underlying t with
  | some (.slice e) => (P.info? e).map fun i => (e, i.size)
  | _ => none
theorem run_idx {P : Program} {w : World} {t e : TypeId} {sz b off n cap : Nat} {i : Int} (h : elSize P t = some (e, sz)) (hi : 0 ≤ i ∧ i < (n : Int)) :
    (Instr.indexAt t (.slice (some ⟨b, off, none⟩) n cap) (.int .i64 i)).run P w = .ok (.pointer (some ⟨b, off + i.toNat * sz, none⟩)) w := by
  unfold elSize at h
  cases hu : P.underlying t with
  | none => rw [hu] at h; cases h
  | some d =>
    rw [hu] at h
    cases d <;> try cases h
    rename_i e'
    simp only at h
    cases hi2 : P.info? e' with
    | none => rw [hi2] at h; cases h
    | some inf =>
      rw [hi2] at h
      simp only [Option.map_some, Option.some.injEq, Prod.mk.injEq] at h
      obtain ⟨rfl, rfl⟩ := h
      simp [Instr.indexAt, asIntOf, run_underlying hu, sizeOf, typeInfo, hi2, hi, add_off]

theorem ex_idx {t : TypeId} {x y : Operand} {e : TypeId} {sz b off n cap : Nat} {i : Int} (hi : 0 ≤ i ∧ i < (n : Int))
    (hc : (a.eval x, a.eval y, elSize P t) = (.slice (some ⟨b, off, none⟩) n cap, .int .i64 i, some (e, sz))) (w : World) :
    (execOp a.eval ⟨dst, .indexAddr t x y, ty, pos, after, guard⟩).run P w = .ok (.value (.pointer (some ⟨b, off + i.toNat * sz, none⟩))) w := by
  simp only [Prod.mk.injEq] at hc
  obtain ⟨h2, h3, h4⟩ := hc
  simp [execOp, h2, h3, run_idx h4 hi]
theorem S_idx {t : TypeId} {x y : Operand} (e : TypeId) (sz b off n cap : Nat) (i : Int) (hi : 0 ≤ i ∧ i < (n : Int))
    (hc : (Region.wanted ⟨dst, .indexAddr t x y, ty, pos, after, guard⟩ (yielded ops a.tmps), a.eval x, a.eval y, elSize P t) = (true, .slice (some ⟨b, off, none⟩) n cap, .int .i64 i, some (e, sz)))
    (h : Wp P ops Q rest (a.put dst (.pointer (some ⟨b, off + i.toNat * sz, none⟩))) w) : Wp P ops Q (⟨dst, .indexAddr t x y, ty, pos, after, guard⟩ :: rest) a w :=
  S_val _ (Prod.ext (Prod.mk.inj hc).1 (ex_idx hi (Prod.mk.inj hc).2 w)) h
theorem S_loadX {α : Type} (E : α → List Value) (sz : Nat) (d : α) (i : Int) (j b off : Nat) (v : Value) {w0 : Base} {L : List Blk} {l : List α} {t : TypeId} {x : Operand} (hM : St w0 L w) (hR : Rd E sz w0.w (some ⟨b, off, none⟩) l) (hE : ∀ x, (E x).length = sz) (hi : 0 ≤ i ∧ i < l.length)
    (hc : (Region.wanted ⟨dst, .load t x, ty, pos, after, guard⟩ (yielded ops a.tmps), Nat.blt 0 sz, a.eval x, ldVal P t ⟨E (gd d l i)⟩ j) = (true, true, .pointer (some ⟨b, off + i.toNat * sz + j, none⟩), some v))
    (h : Wp P ops Q rest (a.put dst v) w) : Wp P ops Q (⟨dst, .load t x, ty, pos, after, guard⟩ :: rest) a w := by
  simp only [Prod.mk.injEq] at hc
  obtain ⟨h1, h0, h2, h4⟩ := hc
  have hr := (hR.stay hM.below).ld (P := P) hE (by have := h0; simp [Nat.blt] at this; omega) d hi h4
  refine S_val v (Prod.ext h1 ?_) h
  simp [execOp, Instr.loadAt, Instr.sureAddr, h2, hr]
/-- The first so many of a slice. -/
theorem run_cut {t e : TypeId} (h : P.underlying t = some (.slice e)) {i : TypeInfo} (hi : P.info? e = some i) {A : Option Addr} {n cap : Nat} {k : Int} (hk : 0 ≤ k ∧ k ≤ (cap : Int)) (w : World) :
    (Instr.sliceAt t (.slice A n cap) none (some (.int .i64 k)) none).run P w = .ok (.slice A k.toNat cap) w := by
  have e1 : A.map (fun x => x.add 0) = A := by cases A <;> simp [Addr.add]
  simp [Instr.sliceAt, Instr.slice, Instr.sliceBounds, Instr.sliceBound, asIntOf, run_underlying h, sizeOf, typeInfo, hi, hk, e1]
theorem S_cut {t : TypeId} {x y : Operand} (e : TypeId) (A : Option Addr) (n cap : Nat) (k : Int) (hk : 0 ≤ k ∧ k ≤ (cap : Int))
    (hc : (Region.wanted ⟨dst, .slice t x none (some y) none, ty, pos, after, guard⟩ (yielded ops a.tmps), a.eval x, a.eval y, P.underlying t, (P.info? e).isSome) = (true, .slice A n cap, .int .i64 k, some (.slice e), true))
    (h : Wp P ops Q rest (a.put dst (.slice A k.toNat cap)) w) : Wp P ops Q (⟨dst, .slice t x none (some y) none, ty, pos, after, guard⟩ :: rest) a w := by
  simp only [Prod.mk.injEq] at hc
  obtain ⟨h1, h2, h3, h4, h5⟩ := hc
  obtain ⟨i, hi⟩ := Option.isSome_iff_exists.1 h5
  refine S_val _ (Prod.ext h1 ?_) h
  simp [execOp, h2, h3, run_cut h4 hi hk]
theorem Rd.cutE {α : Type} {E : α → List Value} {sz : Nat} {w : World} {A : Option Addr} {l l' : List α} {m : Nat} (h : Rd E sz w A l) (hl : l.take m = l') : Rd E sz w A l' := hl ▸ h.cut m
theorem S_cutX {α : Type} {t : TypeId} {x y : Operand} (e : TypeId) (A : Option Addr) (cap : Nat) (l : List α) (k : Int) (hk : (0 ≤ k ∧ k ≤ (l.length : Int)) ∧ l.length ≤ cap)
    (hc : (Region.wanted ⟨dst, .slice t x none (some y) none, ty, pos, after, guard⟩ (yielded ops a.tmps), a.eval x, a.eval y, P.underlying t, (P.info? e).isSome) = (true, .slice A l.length cap, .int .i64 k, some (.slice e), true))
    (h : ∀ l', l.take k.toNat = l' → Wp P ops Q rest (a.put dst (.slice A l'.length cap)) w) : Wp P ops Q (⟨dst, .slice t x none (some y) none, ty, pos, after, guard⟩ :: rest) a w := by
  refine S_cut e A l.length cap k (by omega) hc ?_
  have e : k.toNat = (l.take k.toNat).length := by rw [List.length_take]; omega
  rw [e]
  exact h _ rfl
end
section
variable {P : Program} {ops : Array Oper} {W : World} {Q : (World → Prop) → Act → Prop} {k : Nat} {rest : List Oper} {F : World → Prop} {U : Nat → Prop} {a : Act} {dst : Option Tmp} {ty : TypeId} {pos : String} {after : Array Edge} {guard : Option (Nat × Bool)}
theorem F_idx {t : TypeId} {x y : Operand} (e : TypeId) (sz b off n cap : Nat) (i : Int) (hi : 0 ≤ i ∧ i < (n : Int))
    (hc : (Region.wanted ⟨dst, .indexAddr t x y, ty, pos, after, guard⟩ (yielded ops a.tmps), a.eval x, a.eval y, elSize P t) = (true, .slice (some ⟨b, off, none⟩) n cap, .int .i64 i, some (e, sz)))
    (h : WlF P ops W Q (k + 1) rest F U (a.put dst (.pointer (some ⟨b, off + i.toNat * sz, none⟩)))) : WlF P ops W Q k (⟨dst, .indexAddr t x y, ty, pos, after, guard⟩ :: rest) F U a :=
  F_val _ (fun w => Prod.ext (Prod.mk.inj hc).1 (ex_idx hi (Prod.mk.inj hc).2 w)) h
theorem G_idx {t : TypeId} {x y : Operand} (e : TypeId) (sz b off n cap : Nat) (i : Int) (hi : 0 ≤ i ∧ i < (n : Int))
    (hc : (Region.wanted ⟨dst, .indexAddr t x y, ty, pos, after, guard⟩ (yielded ops a.tmps), a.eval x, a.eval y, elSize P t) = (true, .slice (some ⟨b, off, none⟩) n cap, .int .i64 i, some (e, sz)))
    (h : WlG P ops W Q (k + 1) rest F U (a.put dst (.pointer (some ⟨b, off + i.toNat * sz, none⟩)))) : WlG P ops W Q k (⟨dst, .indexAddr t x y, ty, pos, after, guard⟩ :: rest) F U a :=
  G_val _ (fun w => Prod.ext (Prod.mk.inj hc).1 (ex_idx hi (Prod.mk.inj hc).2 w)) h
theorem F_loadX {α : Type} (E : α → List Value) (sz : Nat) (d : α) (i : Int) (j b off : Nat) (v : Value) {w0 : Base} {L : List Blk} {l : List α} {t : TypeId} {x : Operand} (hM : St w0 L W) (hR : Rd E sz w0.w (some ⟨b, off, none⟩) l) (hE : ∀ x, (E x).length = sz) (hi : 0 ≤ i ∧ i < l.length)
    (hc : (Region.wanted ⟨dst, .load t x, ty, pos, after, guard⟩ (yielded ops a.tmps), Nat.blt 0 sz, a.eval x, ldVal P t ⟨E (gd d l i)⟩ j) = (true, true, .pointer (some ⟨b, off + i.toNat * sz + j, none⟩), some v))
    (h : WlF P ops W Q (k + 1) rest F U (a.put dst v)) : WlF P ops W Q k (⟨dst, .load t x, ty, pos, after, guard⟩ :: rest) F U a := by
  simp only [Prod.mk.injEq] at hc
  obtain ⟨h1, h0, h2, h4⟩ := hc
  refine ⟨.inl ⟨v, .inl ⟨h1, fun w' hb => ?_⟩, h.out⟩⟩
  have hr := ((hR.stay hM.below).stay hb).ld (P := P) hE (by have := h0; simp [Nat.blt] at this; omega) d hi h4
  simp [execOp, Instr.loadAt, Instr.sureAddr, h2, hr, plainUpon]
theorem G_loadX {α : Type} (E : α → List Value) (sz : Nat) (d : α) (i : Int) (j b off : Nat) (v : Value) {w0 : Base} {L : List Blk} {l : List α} {t : TypeId} {x : Operand} (hM : St w0 L W) (hR : Rd E sz w0.w (some ⟨b, off, none⟩) l) (hE : ∀ x, (E x).length = sz) (hi : 0 ≤ i ∧ i < l.length)
    (hc : (Region.wanted ⟨dst, .load t x, ty, pos, after, guard⟩ (yielded ops a.tmps), Nat.blt 0 sz, a.eval x, ldVal P t ⟨E (gd d l i)⟩ j) = (true, true, .pointer (some ⟨b, off + i.toNat * sz + j, none⟩), some v))
    (h : WlG P ops W Q (k + 1) rest F U (a.put dst v)) : WlG P ops W Q k (⟨dst, .load t x, ty, pos, after, guard⟩ :: rest) F U a := by
  simp only [Prod.mk.injEq] at hc
  obtain ⟨h1, h0, h2, h4⟩ := hc
  refine ⟨.inl ⟨v, .inl ⟨h1, fun w' hb => ?_⟩, h.out⟩⟩
  have hr := ((hR.stay hM.below).stay hb).ld (P := P) hE (by have := h0; simp [Nat.blt] at this; omega) d hi h4
  simp [execOp, Instr.loadAt, Instr.sureAddr, h2, hr, plainUpon]
end
section
variable {P : Program} {ops : Array Oper} {a : Act} {dst : Option Tmp} {ty : TypeId} {pos : String} {after : Array Edge} {guard : Option (Nat × Bool)}
theorem rem_run {t t' : TypeId} {x y : Operand} {n m : Int} (hm : m ≠ 0) (hc : (Region.wanted ⟨dst, .binOp .rem t x y t', ty, pos, after, guard⟩ (yielded ops a.tmps), a.eval x, a.eval y) = (true, .int .i64 n, .int .i64 m)) (w : World) :
    (Region.wanted ⟨dst, .binOp .rem t x y t', ty, pos, after, guard⟩ (yielded ops a.tmps), (execOp a.eval ⟨dst, .binOp .rem t x y t', ty, pos, after, guard⟩).run P w) = (true, .ok (.value (.int .i64 (Int.tmod n m))) w) := by
  simp only [Prod.mk.injEq] at hc
  obtain ⟨h1, h2, h3⟩ := hc
  refine Prod.ext h1 ?_
  simp [execOp, h2, h3, eqGuard, binOp, Op.intDiv, hm]
theorem quo_run {t t' : TypeId} {x y : Operand} {n m : Int} (hm : m ≠ 0) (hc : (Region.wanted ⟨dst, .binOp .quo t x y t', ty, pos, after, guard⟩ (yielded ops a.tmps), a.eval x, a.eval y) = (true, .int .i64 n, .int .i64 m)) (w : World) :
    (Region.wanted ⟨dst, .binOp .quo t x y t', ty, pos, after, guard⟩ (yielded ops a.tmps), (execOp a.eval ⟨dst, .binOp .quo t x y t', ty, pos, after, guard⟩).run P w) = (true, .ok (.value (.int .i64 (IntKind.i64.wrap (Int.tdiv n m)))) w) := by
  simp only [Prod.mk.injEq] at hc
  obtain ⟨h1, h2, h3⟩ := hc
  refine Prod.ext h1 ?_
  simp [execOp, h2, h3, eqGuard, binOp, Op.intDiv, hm]
end
theorem F_cutX {α : Type} {P : Program} {ops : Array Oper} {W : World} {Q : (World → Prop) → Act → Prop} {k : Nat} {rest : List Oper} {F : World → Prop} {U : Nat → Prop} {a : Act} {dst : Option Tmp} {ty : TypeId} {pos : String} {after : Array Edge} {guard : Option (Nat × Bool)} {t : TypeId} {x y : Operand} (e : TypeId) (A : Option Addr) (cap : Nat) (l : List α) (i : Int) (hk : (0 ≤ i ∧ i ≤ (l.length : Int)) ∧ l.length ≤ cap)
    (hc : (Region.wanted ⟨dst, .slice t x none (some y) none, ty, pos, after, guard⟩ (yielded ops a.tmps), a.eval x, a.eval y, P.underlying t, (P.info? e).isSome) = (true, .slice A l.length cap, .int .i64 i, some (.slice e), true))
    (h : ∀ l', l.take i.toNat = l' → WlF P ops W Q (k + 1) rest F U (a.put dst (.slice A l'.length cap))) : WlF P ops W Q k (⟨dst, .slice t x none (some y) none, ty, pos, after, guard⟩ :: rest) F U a := by
  have e1 : i.toNat = (l.take i.toNat).length := by rw [List.length_take]; omega
  simp only [Prod.mk.injEq] at hc
  obtain ⟨h1, h2, h3, h4, h5⟩ := hc
  obtain ⟨inf, hi⟩ := Option.isSome_iff_exists.1 h5
  have h' := h _ rfl
  rw [← e1] at h'
  refine F_val (.slice A i.toNat cap) (fun w => Prod.ext h1 ?_) h'
  simp [execOp, h2, h3, run_cut h4 hi (show 0 ≤ i ∧ i ≤ (cap : Int) by omega)]
def gv (u : List Value) (i : Nat) : Value := u.getD i undef
theorem R_fuel {P : Program} {fn : Func} {R : Ending → World → Prop} {k : List Item} {a : Act} {w : World} {c : Code} (I : Nat → Act → World → Prop) (m : Nat) (h0 : I m a w)
    (round : ∀ m a w, I m a w → (∀ m' a' w', m' < m → I m' a' w' → Run P fn R (.inLoop c :: k) a' w') → Run P fn R (.code c :: .inLoop c :: k) a w) : Run P fn R (.code (.loop c) :: k) a w := by
  refine R_loop ?_
  have key : ∀ m a w, I m a w → Run P fn R (.code c :: .inLoop c :: k) a w := by
    intro m
    induction m using Nat.strongRecOn with
    | _ m ih => exact fun a w hI => round m a w hI fun m' a' w' hlt hI' => R_inLoop (ih m' hlt a' w' hI')
  exact key m a w h0
/-- Blocks of a round that is over. -/
theorem St.off {w0 : Base} {w : World} {b : Blk} {L : List Blk} (h : St w0 (b :: L) w) : St w0 L w :=
  ⟨h.below, fun b hm => h.has b (List.mem_cons_of_mem _ hm), (List.nodup_cons.1 h.nd).2, fun b hm => h.own b (List.mem_cons_of_mem _ hm), fun m hm => (h.num m hm).part fun x hx hxo => ⟨x, List.mem_cons_of_mem _ hx, hxo, rfl⟩⟩
theorem cut_le {α : Type} {l l' : List α} {m : Nat} (h : l.take m = l') (hm : m ≤ 1000) : (l'.length : Int) ≤ 1000 := by subst h; rw [List.length_take]; omega
def v3c (x : T3) : List Value := [.int .i64 x.1, .int .i64 x.2.1, .int .i64 x.2.2]
theorem v3c_len (x : T3) : (v3c x).length = 3 := rfl
/-- What a frame says, as Rd. -/
theorem RdV.rd {w : World} {A : Option Addr} {n : Nat} {l : List T3} (h : RdV w A n l) : n = l.length ∧ Rd v3c 3 w A l := by
  obtain ⟨h1, h2⟩ := h
  refine ⟨h1, ?_⟩
  rcases h2 with h2 | ⟨b, off, h2, h3⟩
  · exact .inl h2
  · by_cases h0 : l = []
    · exact .inl h0
    · right
      have hp := List.length_pos_iff.2 h0
      have hc := (h3 0 hp).1
      cases ho : w.heap[b]? with
      | none => simp [World.cell?, ho] at hc
      | some o =>
        cases o with
        | cells c T fr =>
          refine ⟨b, off, c, T, fr, h2, ho, fun i hi j hj => ?_⟩
          obtain ⟨k0, k1, k2⟩ := h3 i hi
          simp only [World.cell?, ho] at k0 k1 k2
          match j, hj with
          | 0, _ => simpa [v3c] using k0
          | 1, _ => simpa [v3c] using k1
          | 2, _ => simpa [v3c] using k2
        | _ => simp [World.cell?, ho] at hc
end Go.Proofs.Ytognbeejobfpfaa
