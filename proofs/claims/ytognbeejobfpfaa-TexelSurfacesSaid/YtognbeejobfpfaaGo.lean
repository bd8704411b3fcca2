/- Walking a function by explicit steps: each operation one lemma, its run left to the kernel; memory as a list of known blocks. No program is named here. -/
import Derived.Test.YtognbeejobfpfaaFresh2
namespace Go.Proofs.Ytognbeejobfpfaa
open Go.RowKit Go.Sort
set_option linter.unusedVariables false
set_option linter.unusedSimpArgs false

/-- A known block: its number, its cells, its type, its frozen part, whether this call made it. -/
structure Blk where
  g : Nat
  c : Array Value
  T : TypeId
  fr : Nat × Nat
  own : Bool
def Blk.obj (b : Blk) : Obj := .cells b.c b.T b.fr
def nob : Blk := ⟨0, #[], 0, (0, 0), false⟩
def bAt (L : List Blk) (i : Nat) : Blk := L.getD i nob
def HasL (L : List Blk) (w : World) : Prop := ∀ b ∈ L, Has b.g b.obj w
/-- What is known from the start: the world, the slices that came in, the slices that are known by now (address, cells). -/
structure Base where
  w : World
  S : List (Option Addr × List Value)
  M : List (Option Addr × List Value)
instance : Coe World Base := ⟨fun w => ⟨w, [], []⟩⟩
/-- A slice reads as these cells. -/
def Ent (w : World) (m : Option Addr × List Value) : Prop :=
  m.2 = [] ∨ ∃ b off c T fr, m.1 = some ⟨b, off, none⟩ ∧ Has b (.cells c T fr) w ∧ ∀ i, i < m.2.length → c.toList[off + i]? = m.2[i]?
/-- A block is new, or one of a slice that came in. -/
def Prov (w0 : World) (S : List (Option Addr × List Value)) (b : Nat) : Prop := w0.heap.size ≤ b ∨ ∃ m ∈ S, m.2 ≠ [] ∧ ∃ o, m.1 = some ⟨b, o, none⟩
/-- .. and none of the call's own blocks is its. -/
def Fz (w0 : Base) (L : List Blk) (w : World) (m : Option Addr × List Value) : Prop :=
  m.2 = [] ∨ ∃ b off c T fr, m.1 = some ⟨b, off, none⟩ ∧ Has b (.cells c T fr) w ∧ (∀ i, i < m.2.length → c.toList[off + i]? = m.2[i]?) ∧ Prov w0.w w0.S b ∧ ∀ x ∈ L, x.own = true → x.g ≠ b
/-- The state of the memory: nothing below w0 has turned, these blocks are known, and these slices. -/
structure St (w0 : Base) (L : List Blk) (w : World) : Prop where
  below : Below w0.w.heap.size w0.w w
  has : HasL L w
  nd : (L.map Blk.g).Nodup
  own : ∀ b ∈ L, b.own = true → w0.w.heap.size ≤ b.g ∧ b.fr = (0, 0)
  num : ∀ m ∈ w0.M, Fz w0 L w m
theorem Fz.stay {w0 : Base} {L : List Blk} {w w' : World} {m : Option Addr × List Value} (h : Fz w0 L w m) (hb : Below w.heap.size w w') : Fz w0 L w' m := by
  rcases h with h | ⟨b, off, c, T, fr, h1, h2, h3, h4, h5⟩
  · exact .inl h
  · exact .inr ⟨b, off, c, T, fr, h1, h2.stay hb, h3, h4, h5⟩
theorem Fz.part {w0 : Base} {L L' : List Blk} {w : World} {m : Option Addr × List Value} (h : Fz w0 L w m) (hL : ∀ x ∈ L', x.own = true → ∃ y ∈ L, y.own = true ∧ y.g = x.g) : Fz w0 L' w m := by
  rcases h with h | ⟨b, off, c, T, fr, h1, h2, h3, h4, h5⟩
  · exact .inl h
  · refine .inr ⟨b, off, c, T, fr, h1, h2, h3, h4, fun x hx ho => ?_⟩
    obtain ⟨y, hy, hyo, e⟩ := hL x hx ho
    exact e ▸ h5 y hy hyo
theorem Fz.more {w0 : Base} {L : List Blk} {w : World} {m : Option Addr × List Value} (h : Fz w0 L w m) (N : List Blk) (hN : ∀ x ∈ N, w.heap.size ≤ x.g) : Fz w0 (N ++ L) w m := by
  rcases h with h | ⟨b, off, c, T, fr, h1, h2, h3, h4, h5⟩
  · exact .inl h
  · refine .inr ⟨b, off, c, T, fr, h1, h2, h3, h4, fun x hx ho => ?_⟩
    rcases List.mem_append.1 hx with hx | hx
    · have := hN x hx; have := h2.lt; omega
    · exact h5 x hx ho
theorem Fz.put {w0 : Base} {L : List Blk} {w : World} {m : Option Addr × List Value} (h : Fz w0 L w m) {x : Blk} (hx : x ∈ L) (ho : x.own = true) (c' : Array Value) : Fz w0 L (w.setRow x.g c') m := by
  rcases h with h | ⟨b, off, c, T, fr, h1, h2, h3, h4, h5⟩
  · exact .inl h
  · exact .inr ⟨b, off, c, T, fr, h1, (setRow_other w x.g b c' (Ne.symm (h5 x hx ho))).trans h2, h3, h4, h5⟩

theorem HasL.stay {L : List Blk} {w w' : World} (h : HasL L w) (hb : Below w.heap.size w w') : HasL L w' := fun b hm => (h b hm).stay hb
theorem St.start (w : World) : St w [] w := ⟨Below.refl _ _, fun _ h => absurd h List.not_mem_nil, List.nodup_nil, fun _ h => absurd h List.not_mem_nil, fun _ h => absurd h List.not_mem_nil⟩
theorem St.step {w0 : Base} {w w' : World} {L : List Blk} (h : St w0 L w) (hb : Below w.heap.size w w') : St w0 L w' := ⟨Below.next h.below hb, h.has.stay hb, h.nd, h.own, fun m hm => (h.num m hm).stay hb⟩
theorem St.get {w0 : Base} {w : World} {L : List Blk} (h : St w0 L w) {i : Nat} (hi : L[i]? = some (bAt L i)) : Has (bAt L i).g (bAt L i).obj w := h.has _ (List.mem_of_getElem? hi)
theorem St.alloc {w0 : Base} {w : World} {L : List Blk} (h : St w0 L w) (c : Array Value) (T : TypeId) : St w0 (⟨w.heap.size, c, T, (0, 0), true⟩ :: L) (w.alloc (.cells c T)) := by
  have hb : Below w.heap.size w (w.alloc (.cells c T)) := (Below.refl _ _).alloc (Nat.le_refl _) _
  refine ⟨Below.next h.below hb, ?_, ?_, ?_, fun m hm => ?_⟩
  · intro b hm
    rcases List.mem_cons.1 hm with rfl | hm
    · unfold Has; rw [alloc_eq_grow]; show (w.heap ++ #[_])[w.heap.size]? = some _; simp [Blk.obj]
    · exact (h.has b hm).stay hb
  · simp only [List.map_cons, List.nodup_cons]
    refine ⟨fun hm => ?_, h.nd⟩
    obtain ⟨b, hb, he⟩ := List.mem_map.1 hm
    have := (h.has b hb).lt
    omega
  · intro b hm ho
    rcases List.mem_cons.1 hm with rfl | hm
    · exact ⟨h.below.size, rfl⟩
    · exact h.own b hm ho
  · exact ((h.num m hm).more [⟨w.heap.size, c, T, (0, 0), true⟩] (fun x hx => by rcases List.mem_singleton.1 hx with rfl; exact Nat.le_refl _)).stay hb
/-- A block of the call's own gets new cells. -/
def setB (L : List Blk) (i : Nat) (c : Array Value) : List Blk := L.set i { bAt L i with c := c }
theorem St.put {w0 : Base} {w : World} {L : List Blk} (h : St w0 L w) {i : Nat} (hi : L[i]? = some (bAt L i)) (ho : (bAt L i).own = true) (c : Array Value) : St w0 (setB L i c) (w.setRow (bAt L i).g c) := by
  obtain ⟨o1, o2⟩ := h.own _ (List.mem_of_getElem? hi) ho
  have hh := h.get hi
  have hlt := (List.getElem?_eq_some_iff.1 hi).1
  have hL : L = L.take i ++ bAt L i :: L.drop (i + 1) := by
    have : L[i] = bAt L i := (List.getElem?_eq_some_iff.1 hi).2
    rw [← this]
    simp
  have hS : setB L i c = L.take i ++ { bAt L i with c := c } :: L.drop (i + 1) := by
    unfold setB
    rw [List.set_eq_take_append_cons_drop, if_pos hlt]
  have hnd := h.nd
  have hnum : ∀ m ∈ w0.M, Fz w0 L (w.setRow (bAt L i).g c) m := fun m hm => (h.num m hm).put (List.mem_of_getElem? hi) ho c
  generalize bAt L i = B at *
  generalize L.take i = X at *
  generalize L.drop (i + 1) = Y at *
  refine ⟨below_setRow h.below o1 c, ?_, ?_, ?_, fun m hm => (hnum m hm).part fun x hx hxo => ?_⟩
  · have hne : ∀ b ∈ X ++ Y, b.g ≠ B.g := by
      intro b hm he
      rw [hL] at hnd
      simp only [List.map_append, List.map_cons] at hnd
      have h1 := List.nodup_append.1 hnd
      obtain ⟨-, h2, h3⟩ := h1
      have h4 := List.nodup_cons.1 h2
      rcases List.mem_append.1 hm with hm | hm
      · exact h3 _ (List.mem_map_of_mem (f := Blk.g) hm) _ (by simp) he
      · exact h4.1 (he ▸ List.mem_map_of_mem (f := Blk.g) hm)
    intro b hm
    rw [hS] at hm
    rcases List.mem_append.1 hm with hm | hm
    · exact (setRow_other w B.g b.g c (hne b (by simp [hm]))).trans (h.has b (by rw [hL]; simp [hm]))
    · rcases List.mem_cons.1 hm with rfl | hm
      · exact setRow_heap w B.g B.c c B.T B.fr hh
      · exact (setRow_other w B.g b.g c (hne b (by simp [hm]))).trans (h.has b (by rw [hL]; simp [hm]))
  · rw [hS]
    have : (X ++ { B with c := c } :: Y).map Blk.g = L.map Blk.g := by rw [hL]; simp
    rw [this]
    exact hnd
  · intro b hm hbo
    rw [hS] at hm
    rcases List.mem_append.1 hm with hm | hm
    · exact h.own b (by rw [hL]; simp [hm]) hbo
    · rcases List.mem_cons.1 hm with rfl | hm
      · exact ⟨o1, o2⟩
      · exact h.own b (by rw [hL]; simp [hm]) hbo
  · rw [hS] at hx
    rcases List.mem_append.1 hx with hx | hx
    · exact ⟨x, by rw [hL]; simp [hx], hxo, rfl⟩
    · rcases List.mem_cons.1 hx with rfl | hx
      · exact ⟨B, by rw [hL]; simp, ho, rfl⟩
      · exact ⟨x, by rw [hL]; simp [hx], hxo, rfl⟩

/-- What a variable of type t at cell o of these cells holds. -/
def ldVal (P : Program) (t : TypeId) (c : Array Value) (o : Nat) : Option Value :=
  match P.underlying t with
  | some (.struct _) | some (.array _ _) => match P.info? t with
    | some i => if Nat.ble (o + i.size) c.toList.length then some (.agg ⟨(c.toList.drop o).take i.size⟩) else none
    | none => none
  | some _ => c.toList[o]?
  | none => none
def cells1 (l : List Value) : Bool := l.all Value.oneCell'
/-- The cells with a variable of type t at cell o turned to v. -/
def stVal (P : Program) (t : TypeId) (c : Array Value) (o : Nat) (v : Value) : Option (Array Value) :=
  match P.info? t with
  | some i => if Nat.beq v.cells.toList.length i.size && Nat.ble (o + i.size) c.toList.length && cells1 v.cells.toList then some ⟨c.toList.take o ++ v.cells.toList ++ c.toList.drop (o + i.size)⟩ else none
  | none => none
theorem add_off (g o i : Nat) : (⟨g, o, none⟩ : Addr).add i = ⟨g, o + i, none⟩ := by unfold Addr.add; split <;> simp_all
theorem run_loadCellsFrom {P : Program} {w : World} {g : Nat} {c : Array Value} {T : TypeId} {fr : Nat × Nat} (h : Has g (.cells c T fr) w) (o : Nat) : ∀ (n i : Nat) (acc : Array Value), o + i + n ≤ c.size →
    (loadCellsFrom ⟨g, o, none⟩ i n acc).run P w = .ok (acc ++ ⟨(c.toList.drop (o + i)).take n⟩) w
  | 0, i, acc, hn => by simp [loadCellsFrom]
  | n + 1, i, acc, hn => by
    have hc : w.cell? ⟨g, o + i, none⟩ = some (c[o + i]'(by omega)) := by unfold Has at h; simp [World.cell?, h, show o + i < c.size by omega]
    have ih := run_loadCellsFrom (P := P) h o n (i + 1) (acc.push (c[o + i]'(by omega))) (by omega)
    simp only [loadCellsFrom, Sem.run_bind, add_off, run_load, hc, Result.andThen_ok, ih]
    congr 1
    have e : c.toList.drop (o + i) = c[o + i]'(by omega) :: c.toList.drop (o + (i + 1)) := by
      rw [List.drop_eq_getElem_cons (by simpa using (show o + i < c.size by omega))]
      simp [Nat.add_assoc]
    rw [e]
    simp
theorem run_ld {P : Program} {w : World} {g : Nat} {c : Array Value} {T : TypeId} {fr : Nat × Nat} (h : Has g (.cells c T fr) w) {t : TypeId} {o : Nat} {v : Value} (hv : ldVal P t c o = some v) :
    (loadVar t ⟨g, o, none⟩).run P w = .ok v w := by
  unfold ldVal at hv
  have agg : ∀ i, P.info? t = some i → (if Nat.ble (o + i.size) c.toList.length then some (Value.agg ⟨(c.toList.drop o).take i.size⟩) else none) = some v →
      (loadCells ⟨g, o, none⟩ i.size).run P w = .ok ⟨(c.toList.drop o).take i.size⟩ w ∧ v = .agg ⟨(c.toList.drop o).take i.size⟩ := by
    intro i hi h2
    split at h2
    · rename_i h3
      rw [Nat.ble_eq] at h3
      simp only [Option.some.injEq] at h2
      refine ⟨?_, h2.symm⟩
      unfold loadCells
      rw [run_loadCellsFrom h o i.size 0 #[] (by simp at h3 ⊢; omega)]
      simp
    · cases h2
  cases hu : P.underlying t with
  | none => rw [hu] at hv; cases hv
  | some d =>
    rw [hu] at hv
    have one : ∀ (hv : c.toList[o]? = some v), (load ⟨g, o, none⟩).run P w = .ok v w := by
      intro hv
      have hc : w.cell? ⟨g, o, none⟩ = some v := by unfold Has at h; simp [World.cell?, h]; simpa using hv
      rw [run_load, hc]
    cases d
    case struct fs =>
      cases hi : P.info? t with
      | none => simp [hi] at hv
      | some i =>
        simp only [hi] at hv
        obtain ⟨h1, rfl⟩ := agg i hi hv
        simp [loadVar, isAgg, run_underlying hu, sizeOf, typeInfo, hi, h1]
    case array n e =>
      cases hi : P.info? t with
      | none => simp [hi] at hv
      | some i =>
        simp only [hi] at hv
        obtain ⟨h1, rfl⟩ := agg i hi hv
        simp [loadVar, isAgg, run_underlying hu, sizeOf, typeInfo, hi, h1]
    all_goals
      have := one hv
      simp only [loadVar, isAgg, Sem.run_bind, run_underlying hu, Result.andThen_ok, Sem.run_pure, Sem.run_ite, Bool.false_eq_true, if_false]
      exact this
theorem run_storeCells_at {P : Program} (g o : Nat) (t : TypeId) : ∀ (vs : List Value) (i : Nat) (cur : Array Value) (w : World), w.heap[g]? = some (.cells cur t (0, 0)) → o + i + vs.length ≤ cur.size → (∀ v ∈ vs, v.oneCell' = true) →
    (storeCells ⟨g, o, none⟩ vs i).run P w = .ok () (w.setRow g ⟨cur.toList.take (o + i) ++ vs ++ cur.toList.drop (o + i + vs.length)⟩)
  | [], i, cur, w, hg, hl, _ => by
    have hv : (⟨cur.toList.take (o + i) ++ [] ++ cur.toList.drop (o + i + 0)⟩ : Array Value) = cur := by simp
    show Result.ok () w = _
    simp only [List.length_nil]
    rw [hv]
    have hlt : g < w.heap.size := (Array.getElem?_eq_some_iff.1 hg).1
    have hv : w.heap[g] = .cells cur t (0, 0) := (Array.getElem?_eq_some_iff.1 hg).2
    congr 1
    unfold World.setRow
    cases w with
    | mk heap tape drawn os output =>
      congr 1
      apply Array.ext
      · simp
      · intro k h1 h2
        simp only [Array.getElem_modify]
        split
        · rename_i hk; subst hk; simp at hv; simp [hv]
        · rfl
  | v :: rest, i, cur, w, hg, hl, h1 => by
    have hi : o + i < cur.size := by simp at hl; omega
    have hcell : w.cell? ⟨g, o + i, none⟩ = some cur[o + i] := by simp [World.cell?, hg, hi]
    have hfro : w.frozen? ⟨g, o + i, none⟩ = false := by simp [World.frozen?, hg]
    have hst : (store ((⟨g, o, none⟩ : Addr).add i) v).run P w = .ok () (w.setRow g (cur.setIfInBounds (o + i) v)) := by
      rw [add_off, run_store P w _ v _ (h1 v (by simp)), hcell]
      simp [hfro, setCell_eq_setRow w g (o + i) cur t (0, 0) v hg]
    have ih := run_storeCells_at (P := P) g o t rest (i + 1) (cur.setIfInBounds (o + i) v) (w.setRow g (cur.setIfInBounds (o + i) v)) (setRow_heap w g cur _ t _ hg) (by simp at hl ⊢; omega) (fun x hx => h1 x (by simp [hx]))
    simp only [storeCells, Sem.run_bind, hst, Result.andThen_ok, ih, setRow_setRow]
    congr 3
    have e1 : (cur.toList.set (o + i) v).take (o + (i + 1)) = cur.toList.take (o + i) ++ [v] := by
      rw [show o + (i + 1) = (o + i) + 1 by omega, List.take_succ_eq_append_getElem (by simpa using hi), List.take_set, List.set_eq_of_length_le (by simp; omega)]
      simp
    have e2 : (cur.toList.set (o + i) v).drop (o + (i + 1) + rest.length) = cur.toList.drop (o + i + (rest.length + 1)) := by
      rw [List.drop_set, if_pos (by omega)]
      congr 1
      omega
    simp only [Array.toList_setIfInBounds, List.length_cons, e1, e2]
    simp
theorem run_st {P : Program} {w : World} {g : Nat} {c c' : Array Value} {T : TypeId} (h : Has g (.cells c T (0, 0)) w) {t : TypeId} {o : Nat} {v : Value} (hv : stVal P t c o v = some c') :
    (storeVar t ⟨g, o, none⟩ v).run P w = .ok () (w.setRow g c') := by
  unfold stVal at hv
  cases hi : P.info? t with
  | none => rw [hi] at hv; cases hv
  | some i =>
    rw [hi] at hv
    simp only at hv
    split at hv
    · rename_i hc
      simp only [Bool.and_eq_true, Nat.beq_eq, Nat.ble_eq] at hc
      obtain ⟨⟨h1, h2⟩, h3⟩ := hc
      simp only [Option.some.injEq] at hv
      subst hv
      have hs := run_storeCells_at (P := P) g o T v.cells.toList 0 c w h (by simp at h1 h2 ⊢; omega) (fun x hx => (List.all_eq_true.1 h3) x hx)
      have h1' : v.cells.size = i.size := by simpa using h1
      simp only [storeVar, Sem.run_bind, sizeOf, typeInfo]
      simp [hi, h1', hs, h1]
    · cases hv

/-- From a list of things to do the body comes to its end, and what the end asks holds. -/
structure Run (P : Program) (fn : Func) (R : Ending → World → Prop) (k : List Item) (a : Act) (w : World) : Prop where
  out : ∀ (b : Frame) (cs : List Frame), ∃ e a' w', bodyPost P fn R e a' w' ∧ Arrives P (lone (b.at a k) cs w) b [] cs e a' w'
section
variable {P : Program} {fn : Func} {R : Ending → World → Prop} {k : List Item} {a : Act} {w : World}
theorem Run.one {k k' : List Item} {a' : Act} {w' : World} (hs : ∀ (b : Frame) (cs : List Frame), step P (lone (b.at a k) cs w) = .next (lone (b.at a' k') cs w')) (h : Run P fn R k' a' w') : Run P fn R k a w := ⟨fun b cs => by
  obtain ⟨e, a2, w2, hq, harr⟩ := h.out b cs
  exact ⟨e, a2, w2, hq, .of_steps (.one (hs b cs)) harr⟩⟩
theorem calls_run {f : FuncId} {c : Code} {args : Array Value} (hf : P.funcs[f]? = some fn) (hb : fn.body = some c)
    (h : Run P fn R [.code c] { tmps := args ++ Array.replicate (fn.ntmps - args.size) undef, defers := [] } w) : Calls P f args w R := by
  intro cs
  let b : Frame := { (default : Frame) with fn := f, kind := .normal }
  have henter : Frame.enter P f args .normal = b.at { tmps := args ++ Array.replicate (fn.ntmps - args.size) undef, defers := [] } [.code c] := by
    simp [Frame.enter, Frame.at, hf, hb, b]
  obtain ⟨e, a', w', hq, harr⟩ := h.out b cs
  rw [← henter] at harr
  cases e with
  | normal =>
    obtain ⟨hd, v, hr, hR⟩ := hq
    exact ⟨.returned v, w', _, hR, Steps.trans harr (.one step_end), rfl, rfl, hd, rfl, fn, hf, hr⟩
  | ret =>
    obtain ⟨hd, v, hr, hR⟩ := hq
    obtain ⟨todo, hs⟩ := harr
    exact ⟨.returned v, w', _, hR, hs, rfl, rfl, hd, rfl, fn, hf, hr⟩
  | panic chain =>
    obtain ⟨hd, hR⟩ := hq
    obtain ⟨todo, hs⟩ := harr
    exact ⟨.panicked chain, w', _, hR, hs, rfl, rfl, hd, fn, hf⟩
  | exit id => exact hq.elim
  | goto l => exact hq.elim
  | outgrown => exact ⟨.outgrown, w', b, hq, harr.resolve_left (by simp [b]), rfl, trivial⟩
theorem R_seq {x y : Code} (h : Run P fn R (.code x :: .code y :: k) a w) : Run P fn R (.code (.seq x y) :: k) a w := Run.one (fun _ _ => step_seq) h
theorem R_skip (h : Run P fn R k a w) : Run P fn R (.code .skip :: k) a w := Run.one (fun _ _ => step_skip) h
theorem R_block {id : Nat} {c : Code} (h : Run P fn R (.code c :: .inBlock id :: k) a w) : Run P fn R (.code (.block id c) :: k) a w := Run.one (fun _ _ => step_block) h
theorem R_inBlock {id : Nat} (h : Run P fn R k a w) : Run P fn R (.inBlock id :: k) a w := Run.one (fun _ _ => step_inBlock) h
theorem R_exit {id : Nat} {k' : List Item} (hk : exitTo id k = some k') (h : Run P fn R k' a w) : Run P fn R (.code (.exit id) :: k) a w := Run.one (fun _ _ => step_exit hk) h
theorem R_yes {c : Operand} {x y : Code} (hc : a.eval c = .bool true) (h : Run P fn R (.code x :: k) a w) : Run P fn R (.code (.cond c x y) :: k) a w := Run.one (fun _ _ => step_cond hc) h
theorem R_no {c : Operand} {x y : Code} (hc : a.eval c = .bool false) (h : Run P fn R (.code y :: k) a w) : Run P fn R (.code (.cond c x y) :: k) a w := Run.one (fun _ _ => step_cond hc) h
theorem R_loop {c : Code} (h : Run P fn R (.code c :: .inLoop c :: k) a w) : Run P fn R (.code (.loop c) :: k) a w := Run.one (fun _ _ => step_loop) h
theorem R_inLoop {c : Code} (h : Run P fn R (.code c :: .inLoop c :: k) a w) : Run P fn R (.inLoop c :: k) a w := Run.one (fun _ _ => step_inLoop) h
theorem R_rounds {c : Code} (I : Act → World → Prop) (μ : Act → World → Nat) (h0 : I a w)
    (round : ∀ a w, I a w → (∀ a' w', I a' w' → μ a' w' < μ a w → Run P fn R (.inLoop c :: k) a' w') → Run P fn R (.code c :: .inLoop c :: k) a w) : Run P fn R (.code (.loop c) :: k) a w := by
  refine R_loop ?_
  have key : ∀ n a w, μ a w = n → I a w → Run P fn R (.code c :: .inLoop c :: k) a w := by
    intro n
    induction n using Nat.strongRecOn with
    | _ n ih =>
      intro a w hn hI
      exact round a w hI fun a' w' hI' hlt => R_inLoop (ih _ (hn ▸ hlt) a' w' rfl hI')
  exact key _ a w rfl h0
/-- An operation list, closed to whoever would unfold it. -/
structure Wp (P : Program) (ops : Array Oper) (Q : Exit → Act → World → Prop) (l : List Oper) (a : Act) (w : World) : Prop where
  out : wpList P ops Q l a w
/-- Where an operation list ends, the rest of the body goes on. -/
def QN (P : Program) (fn : Func) (R : Ending → World → Prop) (k : List Item) (e : Exit) (a : Act) (w : World) : Prop := match e with
  | .normal => Run P fn R k a w
  | _ => False
theorem R_wp {c : Code} (h : c.wp P (QN P fn R k) a w) : Run P fn R (.code c :: k) a w := ⟨fun b cs => by
  obtain ⟨e, a', w', hq, harr⟩ := h b k cs
  cases e with
  | normal =>
    obtain ⟨e2, a2, w2, hq2, h2⟩ := hq.out b cs
    exact ⟨e2, a2, w2, hq2, .of_steps harr h2⟩
  | exit id => exact hq.elim
  | goto l => exact hq.elim
  | ret => exact hq.elim
  | panic c => exact hq.elim
  | outgrown => exact hq.elim⟩
theorem R_region {id : Nat} {l : List Oper} (h : Wp P l.toArray (QN P fn R k) l a w) : Run P fn R (.code (.region id l.toArray false) :: k) a w := R_wp (wp_region_lit h.out)
theorem S_nil {ops : Array Oper} (h : Run P fn R k a w) : Wp P ops (QN P fn R k) [] a w := ⟨h⟩

/-- A result, out of its slot or its block. -/
inductive RV (P : Program) (L : List Blk) (a : Act) : ResultVar → Value → Prop
  | tmp (t : Tmp) (v : Value) (h : a.tmps.getD t undef = v) : RV P L a (.tmp t) v
  | cell (t : Tmp) (ty : TypeId) (i off : Nat) (v : Value) (h : (a.tmps.getD t undef, L[i]?, ldVal P ty (bAt L i).c off) = (.pointer (some ⟨(bAt L i).g, off, none⟩), some (bAt L i), some v)) : RV P L a (.cell t ty) v
inductive RVs (P : Program) (L : List Blk) (a : Act) : List ResultVar → List Value → Prop
  | nil : RVs P L a [] []
  | cons {r : ResultVar} {v : Value} {rs : List ResultVar} {vs : List Value} (h : RV P L a r v) (t : RVs P L a rs vs) : RVs P L a (r :: rs) (v :: vs)
def rvSem (tm : Array Value) (r : ResultVar) : Sem Value := match r with
  | .tmp t => pure (tm.getD t undef)
  | .cell x t => do loadVar t (← asAddr (tm.getD x undef))
theorem run_rv {w0 : Base} {L : List Blk} (hM : St w0 L w) {r : ResultVar} {v : Value} (h : RV P L a r v) : (rvSem a.tmps r).run P w = .ok v w := by
  cases h with
  | tmp t v h => simp [rvSem, h]
  | cell t ty i off v h =>
    simp only [Prod.mk.injEq] at h
    obtain ⟨h1, h2, h3⟩ := h
    have := run_ld (P := P) (hM.get h2) h3
    simp [rvSem, h1, asAddr, this]
theorem run_rvs {w0 : Base} {L : List Blk} (hM : St w0 L w) : ∀ (rs : List ResultVar) (vs : List Value), RVs P L a rs vs → (rs.mapM (rvSem a.tmps)).run P w = .ok vs w
  | [], _, .nil => by simp
  | r :: rs, v :: vs, .cons h t => by
    have ih := run_rvs hM rs vs t
    simp only [List.mapM_cons, Sem.run_bind, run_rv hM h, Result.andThen_ok, ih, Sem.run_pure]
def retV (vs : List Value) : Value := match vs with
  | [v] => v
  | vs => .tuple ⟨vs⟩
theorem results_eq (fn : Func) (tm : Array Value) : results fn tm = (do let vs ← fn.results.mapM (rvSem tm); pure (if h : vs.size = 1 then vs[0] else .tuple vs)) := by
  refine congrArg (fun f : ResultVar → Sem Value => (do let vs ← fn.results.mapM f; pure (if h : vs.size = 1 then vs[0] else .tuple vs) : Sem Value)) ?_
  funext r
  cases r <;> rfl
theorem run_results {w0 : Base} {L : List Blk} (hM : St w0 L w) {rs : List ResultVar} {vs : List Value} (hfn : fn.results = ⟨rs⟩) (h : RVs P L a rs vs) : (results fn a.tmps).run P w = .ok (retV vs) w := by
  have h1 := run_rvs hM rs vs h
  rw [results_eq, hfn]
  have h2 : Sem.run P (List.toArray <$> List.mapM (rvSem a.tmps) rs) w = .ok vs.toArray w := by
    show Sem.run P ((List.mapM (rvSem a.tmps) rs) >>= fun x => pure x.toArray) w = _
    simp [h1]
  simp only [Array.mapM_eq_mapM_toList, Sem.run_bind, h2, Result.andThen_ok, Sem.run_pure]
  congr 1
  match vs with
  | [] => rfl
  | [v] => rfl
  | v :: u :: vs => simp [retV]
theorem R_ret {w0 : Base} {L : List Blk} (hM : St w0 L w) {rs : List ResultVar} {vs : List Value} (hfn : fn.results = ⟨rs⟩) (h : RVs P L a rs vs) (hd : a.defers = []) (hR : R (.returned (retV vs)) w) : Run P fn R (.code .ret :: k) a w :=
  ⟨fun b cs => ⟨.ret, a, w, ⟨hd, _, run_results hM hfn h, hR⟩, _, .one step_ret⟩⟩
theorem R_end {w0 : Base} {L : List Blk} (hM : St w0 L w) {rs : List ResultVar} {vs : List Value} (hfn : fn.results = ⟨rs⟩) (h : RVs P L a rs vs) (hd : a.defers = []) (hR : R (.returned (retV vs)) w) : Run P fn R [] a w :=
  ⟨fun b cs => ⟨.normal, a, w, ⟨hd, _, run_results hM hfn h, hR⟩, Steps.refl _ _⟩⟩
end

section
variable {P : Program} {ops : Array Oper} {Q : Exit → Act → World → Prop} {rest : List Oper} {a : Act} {w : World} {dst : Option Tmp} {op : Op} {ty : TypeId} {pos : String} {after : Array Edge} {guard : Option (Nat × Bool)}
theorem S_val (v : Value) (hc : (Region.wanted ⟨dst, op, ty, pos, after, guard⟩ (yielded ops a.tmps), (execOp a.eval ⟨dst, op, ty, pos, after, guard⟩).run P w) = (true, .ok (.value v) w)) (h : Wp P ops Q rest (a.put dst (v)) w) : Wp P ops Q (⟨dst, op, ty, pos, after, guard⟩ :: rest) a w := by
  simp only [Prod.mk.injEq] at hc
  refine ⟨?_⟩
  unfold wpList
  rw [if_pos hc.1]
  refine .inl ?_
  unfold Oper.wp
  rw [hc.2]
  exact h.out
theorem S_skip (hc : Region.wanted ⟨dst, op, ty, pos, after, guard⟩ (yielded ops a.tmps) = false) (h : Wp P ops Q rest (a.put dst (undef)) w) : Wp P ops Q (⟨dst, op, ty, pos, after, guard⟩ :: rest) a w := by
  refine ⟨?_⟩
  unfold wpList
  rw [if_neg (by rw [hc]; exact Bool.false_ne_true)]
  exact h.out
theorem S_int (n : Int) (κ : IntKind) (hc : (Region.wanted ⟨dst, op, ty, pos, after, guard⟩ (yielded ops a.tmps), (execOp a.eval ⟨dst, op, ty, pos, after, guard⟩).run P w) = (true, .ok (.value (.int κ n)) w)) (h : ∀ m, n = m → Wp P ops Q rest (a.put dst (.int κ m)) w) : Wp P ops Q (⟨dst, op, ty, pos, after, guard⟩ :: rest) a w := S_val _ hc (h n rfl)
theorem S_dec (p : Prop) [Decidable p] (hc : (Region.wanted ⟨dst, op, ty, pos, after, guard⟩ (yielded ops a.tmps), (execOp a.eval ⟨dst, op, ty, pos, after, guard⟩).run P w) = (true, .ok (.value (.bool (decide p))) w)) (ht : p → Wp P ops Q rest (a.put dst (.bool true)) w) (hf : ¬ p → Wp P ops Q rest (a.put dst (.bool false)) w) : Wp P ops Q (⟨dst, op, ty, pos, after, guard⟩ :: rest) a w := S_val _ hc (by
  by_cases hp : p
  · rw [decide_eq_true hp]; exact ht hp
  · rw [decide_eq_false hp]; exact hf hp)
theorem S_decn (p : Prop) [Decidable p] (hc : (Region.wanted ⟨dst, op, ty, pos, after, guard⟩ (yielded ops a.tmps), (execOp a.eval ⟨dst, op, ty, pos, after, guard⟩).run P w) = (true, .ok (.value (.bool (!decide p))) w)) (ht : ¬ p → Wp P ops Q rest (a.put dst (.bool true)) w) (hf : p → Wp P ops Q rest (a.put dst (.bool false)) w) : Wp P ops Q (⟨dst, op, ty, pos, after, guard⟩ :: rest) a w := S_val _ hc (by
  by_cases hp : p
  · rw [decide_eq_true hp]; exact hf hp
  · rw [decide_eq_false hp]; exact ht hp)
theorem S_bool (b : Bool) (hc : (Region.wanted ⟨dst, op, ty, pos, after, guard⟩ (yielded ops a.tmps), (execOp a.eval ⟨dst, op, ty, pos, after, guard⟩).run P w) = (true, .ok (.value (.bool b)) w)) (ht : b = true → Wp P ops Q rest (a.put dst (.bool true)) w) (hf : b = false → Wp P ops Q rest (a.put dst (.bool false)) w) : Wp P ops Q (⟨dst, op, ty, pos, after, guard⟩ :: rest) a w := S_val _ hc (by
  cases b
  · exact hf rfl
  · exact ht rfl)
theorem S_load (i off : Nat) (v : Value) {w0 : Base} {L : List Blk} {t : TypeId} {x : Operand} (hM : St w0 L w)
    (hc : (Region.wanted ⟨dst, .load t x, ty, pos, after, guard⟩ (yielded ops a.tmps), a.eval x, L[i]?, ldVal P t (bAt L i).c off) = (true, .pointer (some ⟨(bAt L i).g, off, none⟩), some (bAt L i), some v)) (h : Wp P ops Q rest (a.put dst (v)) w) : Wp P ops Q (⟨dst, .load t x, ty, pos, after, guard⟩ :: rest) a w := by
  simp only [Prod.mk.injEq] at hc
  obtain ⟨h1, h2, h3, h4⟩ := hc
  have hr := run_ld (P := P) (hM.get h3) h4
  refine S_val v (Prod.ext h1 ?_) h
  simp [execOp, Instr.loadAt, Instr.sureAddr, h2, hr]
theorem S_store (i off : Nat) (c' : Array Value) {w0 : Base} {L : List Blk} {t : TypeId} {x y : Operand} (hM : St w0 L w)
    (hc : (Region.wanted ⟨dst, .store t x y, ty, pos, after, guard⟩ (yielded ops a.tmps), a.eval x, L[i]?, (bAt L i).own, stVal P t (bAt L i).c off (a.eval y)) = (true, .pointer (some ⟨(bAt L i).g, off, none⟩), some (bAt L i), true, some c')) (h : ∀ w', St w0 (setB L i c') w' → Wp P ops Q rest (a.put dst (undef)) w') : Wp P ops Q (⟨dst, .store t x y, ty, pos, after, guard⟩ :: rest) a w := by
  simp only [Prod.mk.injEq] at hc
  obtain ⟨h1, h2, h3, h4, h5⟩ := hc
  have hg := hM.get h3
  unfold Blk.obj at hg
  rw [(hM.own _ (List.mem_of_getElem? h3) h4).2] at hg
  have hr := run_st (P := P) hg h5
  refine ⟨?_⟩
  unfold wpList
  rw [if_pos h1]
  refine .inl ?_
  unfold Oper.wp
  simp [execOp, Instr.storeAt, Instr.sureAddr, h2, hr, Oper.upon]
  exact (h _ (hM.put h3 h4 c')).out
theorem S_fresh (m : Option Nat) (c : Array Value) (T : TypeId) {w0 : Base} {L : List Blk} (hM : St w0 L w)
    (hc : (Region.wanted ⟨dst, op, ty, pos, after, guard⟩ (yielded ops a.tmps), (execOp a.eval ⟨dst, op, ty, pos, after, guard⟩).run P w) = (true, .ok (.value (fval m w.heap.size)) (w.alloc (.cells c T)))) (h : ∀ g w', St w0 (⟨g, c, T, (0, 0), true⟩ :: L) w' → Wp P ops Q rest (a.put dst (fval m g)) w') : Wp P ops Q (⟨dst, op, ty, pos, after, guard⟩ :: rest) a w := by
  simp only [Prod.mk.injEq] at hc
  refine ⟨?_⟩
  unfold wpList
  rw [if_pos hc.1]
  refine .inl ?_
  unfold Oper.wp
  rw [hc.2]
  exact (h _ _ (hM.alloc c T)).out
theorem S_call {β : Type} (e : β) (enc : β → Value) {w0 : Base} {L : List Blk} (hM : St w0 L w) {f : FuncId} {args : Array Value} (K : Calls P f args w (Ret (enc e) w))
    (hc : (Region.wanted ⟨dst, op, ty, pos, after, guard⟩ (yielded ops a.tmps), (execOp a.eval ⟨dst, op, ty, pos, after, guard⟩).run P w) = (true, .ok (.enter f args) w)) (h : ∀ r, e = r → ∀ w', St w0 L w' → Wp P ops Q rest (a.put dst (enc r)) w') : Wp P ops Q (⟨dst, op, ty, pos, after, guard⟩ :: rest) a w := by
  simp only [Prod.mk.injEq] at hc
  refine ⟨?_⟩
  unfold wpList
  rw [if_pos hc.1]
  refine .inl ?_
  unfold Oper.wp
  rw [hc.2]
  refine Calls.mono K ?_
  rintro e' w' ⟨rfl, hb⟩
  exact (h e rfl w' (hM.step hb)).out
end

/-- What a region that draws has laid so far: N. -/
structure Led (W : World) (F : World → Prop) (U : Nat → Prop) (N : List Blk) : Prop where
  has : ∀ w', F w' → HasL N w'
  u : ∀ y, ¬ U y → ∀ b ∈ N, b.g ≠ y
  nd : (N.map Blk.g).Nodup
  own : ∀ b ∈ N, W.heap.size ≤ b.g ∧ b.fr = (0, 0)
structure WlF (P : Program) (ops : Array Oper) (W : World) (Q : (World → Prop) → Act → Prop) (k : Nat) (l : List Oper) (F : World → Prop) (U : Nat → Prop) (a : Act) : Prop where
  out : WL P ops W Q k l F U a
structure WlG (P : Program) (ops : Array Oper) (W : World) (Q : (World → Prop) → Act → Prop) (k : Nat) (l : List Oper) (F : World → Prop) (U : Nat → Prop) (a : Act) : Prop where
  out : WL2 P ops W Q k l F U a
theorem Led.start (W : World) (F : World → Prop) (U : Nat → Prop) : Led W F U [] := ⟨fun _ _ _ h => absurd h List.not_mem_nil, fun _ _ _ h => absurd h List.not_mem_nil, List.nodup_nil, fun _ h => absurd h List.not_mem_nil⟩
theorem Led.fresh {W : World} {F F' : World → Prop} {U U' : Nat → Prop} {N : List Blk} (h : Led W F U N) {g : Nat} (h1 : W.heap.size ≤ g) (h2 : ¬ U g) (c : Array Value) (T : TypeId) (h3 : ∀ w', F' w' → F w' ∧ Has g (.cells c T) w') (h4 : ∀ y, ¬ U' y → ¬ U y ∧ y ≠ g) :
    Led W F' U' (⟨g, c, T, (0, 0), true⟩ :: N) := by
  refine ⟨fun w' hF b hm => ?_, fun y hy b hm => ?_, ?_, fun b hm => ?_⟩
  · rcases List.mem_cons.1 hm with rfl | hm
    · exact (h3 w' hF).2
    · exact h.has w' (h3 w' hF).1 b hm
  · rcases List.mem_cons.1 hm with rfl | hm
    · exact Ne.symm (h4 y hy).2
    · exact h.u y (h4 y hy).1 b hm
  · simp only [List.map_cons, List.nodup_cons]
    refine ⟨fun hm => ?_, h.nd⟩
    obtain ⟨b, hb, he⟩ := List.mem_map.1 hm
    exact h.u g h2 b hb he
  · rcases List.mem_cons.1 hm with rfl | hm
    · exact ⟨h1, rfl⟩
    · exact h.own b hm
theorem Led.st {w0 : Base} {W : World} {F : World → Prop} {U : Nat → Prop} {N L : List Blk} (h : Led W F U N) (hM : St w0 L W) {w' : World} (hb : Below W.heap.size W w') (hF : F w') : St w0 (N ++ L) w' := by
  refine ⟨Below.next hM.below hb, fun b hm => ?_, ?_, fun b hm ho => ?_, fun m hm => ((hM.num m hm).more N fun x hx => (h.own x hx).1).stay hb⟩
  · rcases List.mem_append.1 hm with hm | hm
    · exact h.has w' hF b hm
    · exact (hM.has b hm).stay hb
  · rw [List.map_append]
    refine List.nodup_append.2 ⟨h.nd, hM.nd, fun x hx y hy he => ?_⟩
    obtain ⟨b, hb, rfl⟩ := List.mem_map.1 hx
    obtain ⟨b', hb', rfl⟩ := List.mem_map.1 hy
    have h1 := (h.own b hb).1
    have h2 := (hM.has b' hb').lt
    omega
  · rcases List.mem_append.1 hm with hm | hm
    · exact ⟨Nat.le_trans hM.below.size (h.own b hm).1, (h.own b hm).2⟩
    · exact hM.own b hm ho
section
variable {P : Program} {ops : Array Oper} {W : World} {Q : (World → Prop) → Act → Prop} {k : Nat} {rest : List Oper} {F : World → Prop} {U : Nat → Prop} {a : Act} {dst : Option Tmp} {op : Op} {ty : TypeId} {pos : String} {after : Array Edge} {guard : Option (Nat × Bool)}
theorem F_val (v : Value) (hc : ∀ w', (Region.wanted ⟨dst, op, ty, pos, after, guard⟩ (yielded ops a.tmps), (execOp a.eval ⟨dst, op, ty, pos, after, guard⟩).run P w') = (true, .ok (.value v) w')) (h : WlF P ops W Q (k + 1) rest F U (a.put dst (v))) : WlF P ops W Q k (⟨dst, op, ty, pos, after, guard⟩ :: rest) F U a :=
  ⟨.inl ⟨v, .inl ⟨(Prod.mk.inj (hc W)).1, fun w' _ => by rw [(Prod.mk.inj (hc w')).2]; exact ⟨rfl, rfl⟩⟩, h.out⟩⟩
theorem F_skip (hc : Region.wanted ⟨dst, op, ty, pos, after, guard⟩ (yielded ops a.tmps) = false) (h : WlF P ops W Q (k + 1) rest F U (a.put dst (undef))) : WlF P ops W Q k (⟨dst, op, ty, pos, after, guard⟩ :: rest) F U a := ⟨.inl ⟨undef, .inr ⟨hc, rfl⟩, h.out⟩⟩
theorem F_int (n : Int) (κ : IntKind) (hc : ∀ w', (Region.wanted ⟨dst, op, ty, pos, after, guard⟩ (yielded ops a.tmps), (execOp a.eval ⟨dst, op, ty, pos, after, guard⟩).run P w') = (true, .ok (.value (.int κ n)) w')) (h : ∀ m, n = m → WlF P ops W Q (k + 1) rest F U (a.put dst (.int κ m))) : WlF P ops W Q k (⟨dst, op, ty, pos, after, guard⟩ :: rest) F U a := F_val _ hc (h n rfl)
theorem F_dec (p : Prop) [Decidable p] (hc : ∀ w', (Region.wanted ⟨dst, op, ty, pos, after, guard⟩ (yielded ops a.tmps), (execOp a.eval ⟨dst, op, ty, pos, after, guard⟩).run P w') = (true, .ok (.value (.bool (decide p))) w')) (ht : p → WlF P ops W Q (k + 1) rest F U (a.put dst (.bool true))) (hf : ¬ p → WlF P ops W Q (k + 1) rest F U (a.put dst (.bool false))) : WlF P ops W Q k (⟨dst, op, ty, pos, after, guard⟩ :: rest) F U a := F_val _ hc (by
  by_cases hp : p
  · rw [decide_eq_true hp]; exact ht hp
  · rw [decide_eq_false hp]; exact hf hp)
theorem F_decn (p : Prop) [Decidable p] (hc : ∀ w', (Region.wanted ⟨dst, op, ty, pos, after, guard⟩ (yielded ops a.tmps), (execOp a.eval ⟨dst, op, ty, pos, after, guard⟩).run P w') = (true, .ok (.value (.bool (!decide p))) w')) (ht : ¬ p → WlF P ops W Q (k + 1) rest F U (a.put dst (.bool true))) (hf : p → WlF P ops W Q (k + 1) rest F U (a.put dst (.bool false))) : WlF P ops W Q k (⟨dst, op, ty, pos, after, guard⟩ :: rest) F U a := F_val _ hc (by
  by_cases hp : p
  · rw [decide_eq_true hp]; exact hf hp
  · rw [decide_eq_false hp]; exact ht hp)
theorem F_bool (b : Bool) (hc : ∀ w', (Region.wanted ⟨dst, op, ty, pos, after, guard⟩ (yielded ops a.tmps), (execOp a.eval ⟨dst, op, ty, pos, after, guard⟩).run P w') = (true, .ok (.value (.bool b)) w')) (ht : b = true → WlF P ops W Q (k + 1) rest F U (a.put dst (.bool true))) (hf : b = false → WlF P ops W Q (k + 1) rest F U (a.put dst (.bool false))) : WlF P ops W Q k (⟨dst, op, ty, pos, after, guard⟩ :: rest) F U a := F_val _ hc (by
  cases b
  · exact hf rfl
  · exact ht rfl)
theorem F_load (i off : Nat) (v : Value) {w0 : Base} {L : List Blk} {t : TypeId} {x : Operand} (hM : St w0 L W)
    (hc : (Region.wanted ⟨dst, .load t x, ty, pos, after, guard⟩ (yielded ops a.tmps), a.eval x, L[i]?, ldVal P t (bAt L i).c off) = (true, .pointer (some ⟨(bAt L i).g, off, none⟩), some (bAt L i), some v)) (h : WlF P ops W Q (k + 1) rest F U (a.put dst (v))) : WlF P ops W Q k (⟨dst, .load t x, ty, pos, after, guard⟩ :: rest) F U a := by
  simp only [Prod.mk.injEq] at hc
  obtain ⟨h1, h2, h3, h4⟩ := hc
  refine ⟨.inl ⟨v, .inl ⟨h1, fun w' hb => ?_⟩, h.out⟩⟩
  have hr := run_ld (P := P) ((hM.get h3).stay hb) h4
  simp [execOp, Instr.loadAt, Instr.sureAddr, h2, hr, plainUpon]
theorem F_fresh (m : Option Nat) (c : Array Value) (T : TypeId) {N : List Blk} (hL : Led W F U N) (hf : (isFresh ⟨dst, op, ty, pos, after, guard⟩, Region.wanted ⟨dst, op, ty, pos, after, guard⟩ (yielded ops a.tmps)) = (true, true))
    (hc : ∀ w', (execOp a.eval ⟨dst, op, ty, pos, after, guard⟩).run P w' = .ok (.value (fval m w'.heap.size)) (w'.alloc (.cells c T))) (h : ∀ g F U, Led W F U (⟨g, c, T, (0, 0), true⟩ :: N) → WlF P ops W Q (k + 1) rest F U (a.put dst (fval m g))) : WlF P ops W Q k (⟨dst, op, ty, pos, after, guard⟩ :: rest) F U a := by
  simp only [Prod.mk.injEq] at hf
  exact ⟨WL_fresh m (.cells c T) hf.1 hf.2 hc fun g F' U' h1 h2 h3 h4 => (h g F' U' (hL.fresh h1 h2 c T h3 h4)).out⟩
theorem F_call {β : Type} (e : β) (enc : β → Value) {w0 : Base} {L N : List Blk} (hM : St w0 L W) (hL : Led W F U N) {f : FuncId} {args : Array Value} (K : ∀ w', St w0 (N ++ L) w' → Calls P f args w' (Ret (enc e) w'))
    (hd : (depB ops k) = true) (hc : ∀ w', (Region.wanted ⟨dst, op, ty, pos, after, guard⟩ (yielded ops a.tmps), (execOp a.eval ⟨dst, op, ty, pos, after, guard⟩).run P w') = (true, .ok (.enter f args) w')) (h : ∀ r, e = r → WlF P ops W Q (k + 1) rest F U (a.put dst (enc r))) : WlF P ops W Q k (⟨dst, op, ty, pos, after, guard⟩ :: rest) F U a := by
  refine ⟨.inr (.inl ⟨hd, (Prod.mk.inj (hc W)).1, enc e, fun w' hb hF => ?_, (h e rfl).out⟩)⟩
  rw [(Prod.mk.inj (hc w')).2]
  exact ⟨rfl, K w' (hL.st hM hb hF)⟩
theorem F_nil {X : Act → World → Prop} {w0 : Base} {L N : List Blk} (hM : St w0 L W) (hL : Led W F U N) (h : ∀ w', St w0 (N ++ L) w' → X a w') : WlF P ops W (fun F a' => ∀ w', Below W.heap.size W w' → F w' → X a' w') k [] F U a :=
  ⟨fun w' hb hF => h w' (hL.st hM hb hF)⟩
theorem G_val (v : Value) (hc : ∀ w', (Region.wanted ⟨dst, op, ty, pos, after, guard⟩ (yielded ops a.tmps), (execOp a.eval ⟨dst, op, ty, pos, after, guard⟩).run P w') = (true, .ok (.value v) w')) (h : WlG P ops W Q (k + 1) rest F U (a.put dst (v))) : WlG P ops W Q k (⟨dst, op, ty, pos, after, guard⟩ :: rest) F U a :=
  ⟨.inl ⟨v, .inl ⟨(Prod.mk.inj (hc W)).1, fun w' _ => by rw [(Prod.mk.inj (hc w')).2]; exact ⟨rfl, rfl⟩⟩, h.out⟩⟩
theorem G_skip (hc : Region.wanted ⟨dst, op, ty, pos, after, guard⟩ (yielded ops a.tmps) = false) (h : WlG P ops W Q (k + 1) rest F U (a.put dst (undef))) : WlG P ops W Q k (⟨dst, op, ty, pos, after, guard⟩ :: rest) F U a := ⟨.inl ⟨undef, .inr ⟨hc, rfl⟩, h.out⟩⟩
theorem G_int (n : Int) (κ : IntKind) (hc : ∀ w', (Region.wanted ⟨dst, op, ty, pos, after, guard⟩ (yielded ops a.tmps), (execOp a.eval ⟨dst, op, ty, pos, after, guard⟩).run P w') = (true, .ok (.value (.int κ n)) w')) (h : ∀ m, n = m → WlG P ops W Q (k + 1) rest F U (a.put dst (.int κ m))) : WlG P ops W Q k (⟨dst, op, ty, pos, after, guard⟩ :: rest) F U a := G_val _ hc (h n rfl)
theorem G_dec (p : Prop) [Decidable p] (hc : ∀ w', (Region.wanted ⟨dst, op, ty, pos, after, guard⟩ (yielded ops a.tmps), (execOp a.eval ⟨dst, op, ty, pos, after, guard⟩).run P w') = (true, .ok (.value (.bool (decide p))) w')) (ht : p → WlG P ops W Q (k + 1) rest F U (a.put dst (.bool true))) (hf : ¬ p → WlG P ops W Q (k + 1) rest F U (a.put dst (.bool false))) : WlG P ops W Q k (⟨dst, op, ty, pos, after, guard⟩ :: rest) F U a := G_val _ hc (by
  by_cases hp : p
  · rw [decide_eq_true hp]; exact ht hp
  · rw [decide_eq_false hp]; exact hf hp)
theorem G_decn (p : Prop) [Decidable p] (hc : ∀ w', (Region.wanted ⟨dst, op, ty, pos, after, guard⟩ (yielded ops a.tmps), (execOp a.eval ⟨dst, op, ty, pos, after, guard⟩).run P w') = (true, .ok (.value (.bool (!decide p))) w')) (ht : ¬ p → WlG P ops W Q (k + 1) rest F U (a.put dst (.bool true))) (hf : p → WlG P ops W Q (k + 1) rest F U (a.put dst (.bool false))) : WlG P ops W Q k (⟨dst, op, ty, pos, after, guard⟩ :: rest) F U a := G_val _ hc (by
  by_cases hp : p
  · rw [decide_eq_true hp]; exact hf hp
  · rw [decide_eq_false hp]; exact ht hp)
theorem G_bool (b : Bool) (hc : ∀ w', (Region.wanted ⟨dst, op, ty, pos, after, guard⟩ (yielded ops a.tmps), (execOp a.eval ⟨dst, op, ty, pos, after, guard⟩).run P w') = (true, .ok (.value (.bool b)) w')) (ht : b = true → WlG P ops W Q (k + 1) rest F U (a.put dst (.bool true))) (hf : b = false → WlG P ops W Q (k + 1) rest F U (a.put dst (.bool false))) : WlG P ops W Q k (⟨dst, op, ty, pos, after, guard⟩ :: rest) F U a := G_val _ hc (by
  cases b
  · exact hf rfl
  · exact ht rfl)
theorem G_load (i off : Nat) (v : Value) {w0 : Base} {L : List Blk} {t : TypeId} {x : Operand} (hM : St w0 L W)
    (hc : (Region.wanted ⟨dst, .load t x, ty, pos, after, guard⟩ (yielded ops a.tmps), a.eval x, L[i]?, ldVal P t (bAt L i).c off) = (true, .pointer (some ⟨(bAt L i).g, off, none⟩), some (bAt L i), some v)) (h : WlG P ops W Q (k + 1) rest F U (a.put dst (v))) : WlG P ops W Q k (⟨dst, .load t x, ty, pos, after, guard⟩ :: rest) F U a := by
  simp only [Prod.mk.injEq] at hc
  obtain ⟨h1, h2, h3, h4⟩ := hc
  refine ⟨.inl ⟨v, .inl ⟨h1, fun w' hb => ?_⟩, h.out⟩⟩
  have hr := run_ld (P := P) ((hM.get h3).stay hb) h4
  simp [execOp, Instr.loadAt, Instr.sureAddr, h2, hr, plainUpon]
theorem G_fresh (m : Option Nat) (c : Array Value) (T : TypeId) {N : List Blk} (hL : Led W F U N) (hf : (depC2 ops k && isFresh ⟨dst, op, ty, pos, after, guard⟩, Region.wanted ⟨dst, op, ty, pos, after, guard⟩ (yielded ops a.tmps)) = (true, true))
    (hc : ∀ w', (execOp a.eval ⟨dst, op, ty, pos, after, guard⟩).run P w' = .ok (.value (fval m w'.heap.size)) (w'.alloc (.cells c T))) (h : ∀ g F U, Led W F U (⟨g, c, T, (0, 0), true⟩ :: N) → WlG P ops W Q (k + 1) rest F U (a.put dst (fval m g))) : WlG P ops W Q k (⟨dst, op, ty, pos, after, guard⟩ :: rest) F U a := by
  simp only [Prod.mk.injEq] at hf
  exact ⟨WL2_fresh m (.cells c T) hf.1 hf.2 hc fun g F' U' h1 h2 h3 h4 => (h g F' U' (hL.fresh h1 h2 c T h3 h4)).out⟩
theorem G_call {β : Type} (e : β) (enc : β → Value) {w0 : Base} {L N : List Blk} (hM : St w0 L W) (hL : Led W F U N) {f : FuncId} {args : Array Value} (K : ∀ w', St w0 (N ++ L) w' → Calls P f args w' (Ret (enc e) w'))
    (hd : (depB2 ops k && isCall ⟨dst, op, ty, pos, after, guard⟩) = true) (hc : ∀ w', (Region.wanted ⟨dst, op, ty, pos, after, guard⟩ (yielded ops a.tmps), (execOp a.eval ⟨dst, op, ty, pos, after, guard⟩).run P w') = (true, .ok (.enter f args) w')) (h : ∀ r, e = r → WlG P ops W Q (k + 1) rest F U (a.put dst (enc r))) : WlG P ops W Q k (⟨dst, op, ty, pos, after, guard⟩ :: rest) F U a := by
  rw [Bool.and_eq_true] at hd
  refine ⟨.inr (.inl ⟨hd.1, hd.2, (Prod.mk.inj (hc W)).1, enc e, fun w' hb hF => ?_, (h e rfl).out⟩)⟩
  rw [(Prod.mk.inj (hc w')).2]
  exact ⟨rfl, K w' (hL.st hM hb hF)⟩
theorem G_nil {X : Act → World → Prop} {w0 : Base} {L N : List Blk} (hM : St w0 L W) (hL : Led W F U N) (h : ∀ w', St w0 (N ++ L) w' → X a w') : WlG P ops W (fun F a' => ∀ w', Below W.heap.size W w' → F w' → X a' w') k [] F U a :=
  ⟨fun w' hb hF => h w' (hL.st hM hb hF)⟩
theorem F_loadN (i off : Nat) (v : Value) {N : List Blk} {t : TypeId} {x : Operand} (hL : Led W F U N) (hd : depB ops k = true)
    (hc : (Region.wanted ⟨dst, .load t x, ty, pos, after, guard⟩ (yielded ops a.tmps), a.eval x, N[i]?, ldVal P t (bAt N i).c off) = (true, .pointer (some ⟨(bAt N i).g, off, none⟩), some (bAt N i), some v)) (h : WlF P ops W Q (k + 1) rest F U (a.put dst v)) : WlF P ops W Q k (⟨dst, .load t x, ty, pos, after, guard⟩ :: rest) F U a := by
  simp only [Prod.mk.injEq] at hc
  obtain ⟨h1, h2, h3, h4⟩ := hc
  refine ⟨.inr (.inl ⟨hd, h1, v, fun w' hb hF => ?_, h.out⟩)⟩
  have hr := run_ld (P := P) (hL.has w' hF _ (List.mem_of_getElem? h3)) h4
  simp [execOp, Instr.loadAt, Instr.sureAddr, h2, hr, retUpon]
theorem G_store (i off : Nat) (c' : Array Value) {N : List Blk} {t : TypeId} {x y : Operand} (hL : Led W F U N) (hd : depD2 ops k = true)
    (hc : (Region.wanted ⟨dst, .store t x y, ty, pos, after, guard⟩ (yielded ops a.tmps), a.eval x, N[i]?, stVal P t (bAt N i).c off (a.eval y)) = (true, .pointer (some ⟨(bAt N i).g, off, none⟩), some (bAt N i), some c'))
    (h : ∀ F, Led W F U (setB N i c') → WlG P ops W Q (k + 1) rest F U (a.put dst undef)) : WlG P ops W Q k (⟨dst, .store t x y, ty, pos, after, guard⟩ :: rest) F U a := by
  simp only [Prod.mk.injEq] at hc
  obtain ⟨h1, h2, h3, h4⟩ := hc
  have hmem := List.mem_of_getElem? h3
  obtain ⟨o1, o2⟩ := hL.own _ hmem
  have hlt := (List.getElem?_eq_some_iff.1 h3).1
  have hN : N = N.take i ++ bAt N i :: N.drop (i + 1) := by
    have : N[i] = bAt N i := (List.getElem?_eq_some_iff.1 h3).2
    rw [← this]
    simp
  have hS : setB N i c' = N.take i ++ { bAt N i with c := c' } :: N.drop (i + 1) := by
    unfold setB
    rw [List.set_eq_take_append_cons_drop, if_pos hlt]
  have hmap : (setB N i c').map Blk.g = N.map Blk.g := by
    rw [hS]
    conv => rhs; rw [hN]
    simp
  have hnd := hL.nd
  have hne : ∀ b ∈ N.take i ++ N.drop (i + 1), b.g ≠ (bAt N i).g := by
    intro b hm he
    rw [hN] at hnd
    simp only [List.map_append, List.map_cons] at hnd
    obtain ⟨-, h2, h3⟩ := List.nodup_append.1 hnd
    have h4 := List.nodup_cons.1 h2
    rcases List.mem_append.1 hm with hm | hm
    · exact h3 _ (List.mem_map_of_mem (f := Blk.g) hm) _ (by simp) he
    · exact h4.1 (he ▸ List.mem_map_of_mem (f := Blk.g) hm)
  have hsub : ∀ b ∈ N.take i ++ N.drop (i + 1), b ∈ N := fun b hm => by rw [hN]; rcases List.mem_append.1 hm with hm | hm <;> simp [hm]
  have hmemS : ∀ b, b ∈ setB N i c' → b = { bAt N i with c := c' } ∨ b ∈ N.take i ++ N.drop (i + 1) := by
    intro b hm
    rw [hS] at hm
    rcases List.mem_append.1 hm with hm | hm
    · exact .inr (List.mem_append.2 (.inl hm))
    · rcases List.mem_cons.1 hm with hm | hm
      · exact .inl hm
      · exact .inr (List.mem_append.2 (.inr hm))
  refine ⟨.inr (.inr (.inr ⟨hd, rfl, h1, HasL (setB N i c'), fun w1 w2 hb hh => HasL.stay hh hb, fun w' hb hF => ?_, (h _ ⟨fun _ h => h, ?_, by rw [hmap]; exact hnd, ?_⟩).out⟩))⟩
  · have hg := hL.has w' hF _ hmem
    unfold Blk.obj at hg
    rw [o2] at hg
    have hr := run_st (P := P) hg h4
    refine ⟨w'.setRow (bAt N i).g c', ?_, below_setRow hb o1 _, by simp, fun b hm => ?_⟩
    · simp [execOp, Instr.storeAt, Instr.sureAddr, h2, hr]
    · rcases hmemS b hm with rfl | hm
      · have := setRow_heap w' (bAt N i).g _ c' _ _ hg
        unfold Has Blk.obj
        simp only [o2]
        exact this
      · exact (setRow_other w' _ b.g c' (hne b hm)).trans (hL.has w' hF b (hsub b hm))
  · intro y hy b hm
    rcases hmemS b hm with rfl | hm
    · exact fun e => hL.u y hy _ hmem e
    · exact hL.u y hy b (hsub b hm)
  · intro b hm
    rcases hmemS b hm with rfl | hm
    · exact ⟨o1, o2⟩
    · exact hL.own b (hsub b hm)
end
theorem R_drawF {P : Program} {fn : Func} {R : Ending → World → Prop} {k : List Item} {a : Act} {w : World} (n : Nat) {id : Nat} {l : List Oper} (hB : (P.follows .mixedOrders, freshB l.toArray n) = (true, true))
    (h : ∀ F U, Led w F U [] → WlF P l.toArray w (fun F a' => ∀ w', Below w.heap.size w w' → F w' → Wp P l.toArray (QN P fn R k) (l.drop n) a' w') 0 (l.take n) F U a) : Run P fn R (.code (.region id l.toArray true) :: k) a w := by
  simp only [Prod.mk.injEq] at hB
  refine R_wp (wp_region_fresh n hB.1 hB.2 ?_)
  have h1 := (h (fun _ => True) (fun _ => False) (Led.start _ _ _)).out
  have e : (fun (F : World → Prop) (a' : Act) => ∀ w', Below w.heap.size w w' → F w' → Wp P l.toArray (QN P fn R k) (l.drop n) a' w') = (fun F a' => ∀ w', Below w.heap.size w w' → F w' → wpList P l.toArray (QN P fn R k) (l.drop n) a' w') := by
    funext F a'
    exact propext ⟨fun h w' hb hF => (h w' hb hF).out, fun h w' hb hF => ⟨h w' hb hF⟩⟩
  rw [e] at h1
  exact h1
theorem R_drawG {P : Program} {fn : Func} {R : Ending → World → Prop} {k : List Item} {a : Act} {w : World} (n : Nat) {id : Nat} {l : List Oper} (hB : (P.follows .mixedOrders, freshB l.toArray n) = (true, true))
    (h : ∀ F U, Led w F U [] → WlG P l.toArray w (fun F a' => ∀ w', Below w.heap.size w w' → F w' → Wp P l.toArray (QN P fn R k) (l.drop n) a' w') 0 (l.take n) F U a) : Run P fn R (.code (.region id l.toArray true) :: k) a w := by
  simp only [Prod.mk.injEq] at hB
  refine R_wp (wp_region_fresh2 n hB.1 hB.2 ?_)
  have h1 := (h (fun _ => True) (fun _ => False) (Led.start _ _ _)).out
  have e : (fun (F : World → Prop) (a' : Act) => ∀ w', Below w.heap.size w w' → F w' → Wp P l.toArray (QN P fn R k) (l.drop n) a' w') = (fun F a' => ∀ w', Below w.heap.size w w' → F w' → wpList P l.toArray (QN P fn R k) (l.drop n) a' w') := by
    funext F a'
    exact propext ⟨fun h w' hb hF => (h w' hb hF).out, fun h w' hb hF => ⟨h w' hb hF⟩⟩
  rw [e] at h1
  exact h1

/-- All orders that a region's edges allow. -/
def extsGo (ops : Array Oper) : Nat → Array Bool → List Nat → List (List Nat)
  | 0, _, acc => [acc.reverse]
  | fuel + 1, listed, acc =>
    match (List.range ops.size).filter fun i => !listed.getD i true && ((ops[i]?).map (·.after.all fun e => !Region.binds .any e || listed.getD e.on false)).getD false with
    | [] => [acc.reverse]
    | r :: rs => (r :: rs).flatMap fun i => extsGo ops fuel (listed.setIfInBounds i true) (i :: acc)
def exts (ops : Array Oper) : List (List Nat) := extsGo ops ops.size (Array.replicate ops.size false) []
theorem go_mem (ops : Array Oper) : ∀ (fuel t : Nat) (listed : Array Bool) (acc : List Nat), Region.linearise.go .any ops fuel t listed acc ∈ extsGo ops fuel listed acc
  | 0, t, listed, acc => by simp [Region.linearise.go, extsGo]
  | fuel + 1, t, listed, acc => by
    unfold Region.linearise.go extsGo
    generalize ((List.range ops.size).filter fun i => !listed.getD i true && ((ops[i]?).map (·.after.all fun e => !Region.binds .any e || listed.getD e.on false)).getD false) = rs
    cases rs with
    | nil => simp
    | cons r rs =>
      have hlt : t % (r :: rs).length < (r :: rs).length := Nat.mod_lt _ (by simp)
      simp only [List.getElem?_eq_getElem hlt]
      exact List.mem_flatMap.2 ⟨_, List.getElem_mem hlt, go_mem ops fuel _ _ _⟩
def AllWp (P : Program) (ops : Array Oper) (Q : Exit → Act → World → Prop) (a : Act) (w : World) : List (List Nat) → Prop
  | [] => True
  | p :: l => Wp P ops Q (p.filterMap fun i => ops[i]?) a w ∧ AllWp P ops Q a w l
theorem AllWp.mem {P : Program} {ops : Array Oper} {Q : Exit → Act → World → Prop} {a : Act} {w : World} : ∀ {l : List (List Nat)}, AllWp P ops Q a w l → ∀ p ∈ l, Wp P ops Q (p.filterMap fun i => ops[i]?) a w
  | _ :: _, h, p, hp => (List.mem_cons.1 hp).elim (fun e => e ▸ h.1) (fun hp => AllWp.mem h.2 p hp)
theorem wpOps_list {P : Program} {ops : Array Oper} {Q : Exit → Act → World → Prop} (l : List Nat) : wpOps P ops Q l = wpList P ops Q (l.filterMap fun i => ops[i]?) := by
  induction l with
  | nil => funext a w; simp [wpOps, wpList]
  | cons i l ih =>
    funext a w
    cases ho : ops[i]? with
    | none => simp [wpOps, List.filterMap_cons, ho, ih]
    | some o => simp only [wpOps, List.filterMap_cons, ho, wpList, ih]
theorem St.drew {w0 : Base} {w : World} {L : List Blk} (h : St w0 L w) : St w0 L w.drew := ⟨h.below.drew, fun b hm => h.has b hm, h.nd, h.own, fun m hm => h.num m hm⟩
theorem R_drawE {P : Program} {fn : Func} {R : Ending → World → Prop} {k : List Item} {a : Act} {w : World} {id : Nat} {l : List Oper} {w0 : Base} {L : List Blk} (orders : List (List Nat)) (hM : St w0 L w) (hB : (P.follows .mixedOrders, exts l.toArray) = (true, orders))
    (h : ∀ w', St w0 L w' → AllWp P l.toArray (QN P fn R k) a w' orders) : Run P fn R (.code (.region id l.toArray true) :: k) a w := by
  simp only [Prod.mk.injEq] at hB
  refine R_wp (wp_region_draw fun t => ?_)
  have h1 := h w.drew hM.drew
  have h2 := go_mem l.toArray l.toArray.size t (Array.replicate l.toArray.size false) []
  unfold exts at hB
  rw [hB.2] at h2
  rw [hB.1]
  rw [wpOps_list]
  exact (h1.mem _ h2).out

/-- What is computed first, and what is made of it. -/
def lt {α β : Type} (e : β) (f : β → α) : α := f e
theorem hr_lt {α β γ : Type} {enc : α → γ} {e m : β} {f : β → α} {R : γ} (H : enc (lt e f) = R) (h : e = m) : enc (f m) = R := by subst h; exact H
theorem hr_pos {α γ : Type} {enc : α → γ} {c : Prop} [Decidable c] {x y : α} {R : γ} (H : enc (if c then x else y) = R) (h : c) : enc x = R := by rw [if_pos h] at H; exact H
theorem hr_neg {α γ : Type} {enc : α → γ} {c : Prop} [Decidable c] {x y : α} {R : γ} (H : enc (if c then x else y) = R) (h : ¬ c) : enc y = R := by rw [if_neg h] at H; exact H
theorem hq_lt {α β : Type} {e m : β} {f : β → α} {R : α} (H : lt e f = R) (h : e = m) : f m = R := by subst h; exact H
theorem hq_pos {α : Type} {c : Prop} [Decidable c] {x y R : α} (H : (if c then x else y) = R) (h : c) : x = R := by rw [if_pos h] at H; exact H
theorem hq_neg {α : Type} {c : Prop} [Decidable c] {x y R : α} (H : (if c then x else y) = R) (h : ¬ c) : y = R := by rw [if_neg h] at H; exact H
def gmax (x y : Int) : Int := if y > x then y else x
def gmin (x y : Int) : Int := if y < x then y else x
theorem gmax_eq (x y : Int) : gmax x y = max x y := by unfold gmax; omega
theorem gmin_eq (x y : Int) : gmin x y = min x y := by unfold gmin; omega
theorem kdT {α : Type} {p : Prop} [Decidable p] (h : p) {b : Bool} {r : α} {f : Bool → α} (hc : (b, r) = (true, f (decide p))) : (b, r) = (true, f true) := by rw [decide_eq_true h] at hc; exact hc
theorem kdF {α : Type} {p : Prop} [Decidable p] (h : ¬ p) {b : Bool} {r : α} {f : Bool → α} (hc : (b, r) = (true, f (decide p))) : (b, r) = (true, f false) := by rw [decide_eq_false h] at hc; exact hc

/-- One block that came in. -/
theorem St.start1 {w : World} {g : Nat} {c : Array Value} {T : TypeId} {fr : Nat × Nat} (h : Has g (.cells c T fr) w) : St w [⟨g, c, T, fr, false⟩] w :=
  ⟨Below.refl _ _, fun b hm => by rcases List.mem_singleton.1 hm with rfl; exact h, by simp, fun b hm ho => (by rcases List.mem_singleton.1 hm with rfl; cases ho), fun m hm => absurd hm List.not_mem_nil⟩
/-- .. and one more. -/
theorem St.start2 {w : World} {L : List Blk} {g : Nat} {c : Array Value} {T : TypeId} {fr : Nat × Nat} (hM : St w L w) (h : Has g (.cells c T fr) w) (hn : g ∉ L.map Blk.g) : St w (⟨g, c, T, fr, false⟩ :: L) w :=
  ⟨Below.refl _ _, fun b hm => (List.mem_cons.1 hm).elim (fun e => e ▸ h) (fun hm => hM.has b hm), by simp only [List.map_cons, List.nodup_cons]; exact ⟨hn, hM.nd⟩,
    fun b hm ho => (List.mem_cons.1 hm).elim (fun e => by rw [e] at ho; cases ho) (fun hm => hM.own b hm ho), fun m hm => absurd hm List.not_mem_nil⟩
theorem St.at {w0 : Base} {w : World} {L : List Blk} (h : St w0 L w) (i : Nat) {g : Nat} {c : Array Value} {T : TypeId} {fr : Nat × Nat} {own : Bool} (hi : L[i]? = some ⟨g, c, T, fr, own⟩) : Has g (.cells c T fr) w := h.has _ (List.mem_of_getElem? hi)

theorem tr {α : Type} {P : α → Prop} {e r : α} (h : e = r) (k : P e) : Hid (P r) := h ▸ k
def InU32 (n : Int) : Prop := 0 ≤ n ∧ n ≤ 4294967295
def InU16 (n : Int) : Prop := 0 ≤ n ∧ n ≤ 65535
def InU8 (n : Int) : Prop := 0 ≤ n ∧ n ≤ 255
theorem lt_P {α β : Type} {P : α → Prop} {e : β} {f : β → α} (h : ∀ m, e = m → P (f m)) : P (lt e f) := h e rfl
theorem ite_P {α : Type} {P : α → Prop} {c : Prop} [Decidable c] {x y : α} (hx : c → P x) (hy : ¬ c → P y) : P (if c then x else y) := by
  by_cases h : c
  · rw [if_pos h]; exact hx h
  · rw [if_neg h]; exact hy h
theorem wrI (n : Int) : IntKind.i64.wrap n = wrap64 n := IntWalk.i64_left n

end Go.Proofs.Ytognbeejobfpfaa
