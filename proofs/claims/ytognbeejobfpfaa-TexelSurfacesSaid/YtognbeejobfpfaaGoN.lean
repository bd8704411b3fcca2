/- Numbers in digits: slices whose address is not known ahead; arrays of the call's own, of a length that is not known. No program is named here. -/
import Derived.Test.YtognbeejobfpfaaGoX
import Derived.Test.YtognbeejobfpfaaGoM
import Derived.Laws.MakeOwn
namespace Go.Proofs.Ytognbeejobfpfaa
open Go.RowKit Go.Sort
set_option linter.unusedVariables false
set_option linter.unusedSimpArgs false

/-- Numbers as cells. -/
def nv (l : List Int) : List Value := l.map (Value.int .i64)
def iE (x : Int) : List Value := [.int .i64 x]
theorem iE_len (x : Int) : (iE x).length = 1 := rfl
theorem nv_len (l : List Int) : (nv l).length = l.length := by simp [nv]
theorem nv_get (l : List Int) (i : Nat) : (nv l)[i]? = (l[i]?).map (Value.int .i64) := by simp [nv]
theorem nv_app (l k : List Int) : nv (l ++ k) = nv l ++ nv k := by simp [nv]
theorem nv_nil {l : List Int} : nv l = [] ↔ l = [] := by simp [nv]
theorem nv_set (l : List Int) (i : Nat) (v : Int) : nv (l.set i v) = (nv l).set i (.int .i64 v) := by simp [nv, List.map_set]
theorem nv_take (l : List Int) (k : Nat) : nv (l.take k) = (nv l).take k := by simp [nv, List.map_take]

theorem St.startN {w : World} (S : List (Option Addr × List Value)) (h : ∀ m ∈ S, Ent w m) : St ⟨w, S, (none, nv []) :: S⟩ [] w :=
  ⟨Below.refl _ _, fun _ h => absurd h List.not_mem_nil, List.nodup_nil, fun _ h => absurd h List.not_mem_nil, fun m hm => by
    rcases List.mem_cons.1 hm with rfl | hm
    · exact .inl rfl
    by_cases h0 : m.2 = []
    · exact .inl h0
    · rcases h m hm with h1 | ⟨b, off, c, T, fr, h1, h2, h3⟩
      · exact .inl h1
      · exact .inr ⟨b, off, c, T, fr, h1, h2, h3, .inr ⟨m, hm, h0, off, h1⟩, fun _ hx => absurd hx List.not_mem_nil⟩⟩
theorem sub0 {M : List (Option Addr × List Value)} : ∀ x ∈ ([] : List (Option Addr × List Value)), x ∈ M := fun _ h => absurd h List.not_mem_nil
theorem subc {M l : List (Option Addr × List Value)} {m : Option Addr × List Value} (i : Nat) (h : M[i]? = some m) (r : ∀ x ∈ l, x ∈ M) : ∀ x ∈ m :: l, x ∈ M := fun x hx => (List.mem_cons.1 hx).elim (fun e => e ▸ List.mem_of_getElem? h) (r x)
theorem ents0 {w : World} : ∀ m ∈ ([] : List (Option Addr × List Value)), Ent w m := fun _ h => absurd h List.not_mem_nil
theorem ents {w : World} {l : List (Option Addr × List Value)} {m : Option Addr × List Value} (h : Ent w m) (r : ∀ x ∈ l, Ent w x) : ∀ x ∈ m :: l, Ent w x := fun x hx => (List.mem_cons.1 hx).elim (fun e => e ▸ h) (r x)
theorem Fz.ent {w0 : Base} {L : List Blk} {w : World} {m : Option Addr × List Value} (h : Fz w0 L w m) : Ent w m := by
  rcases h with h | ⟨b, off, c, T, fr, h1, h2, h3, -, -⟩
  · exact .inl h
  · exact .inr ⟨b, off, c, T, fr, h1, h2, h3⟩
theorem St.ent {w0 : Base} {L : List Blk} {w : World} (h : St w0 L w) (j : Nat) {m : Option Addr × List Value} (hj : w0.M[j]? = some m) : Ent w m := (h.num m (List.mem_of_getElem? hj)).ent
theorem Ent.rd {w : World} {A : Option Addr} {l : List Int} (h : Ent w (A, nv l)) : Rd iE 1 w A l := by
  rcases h with h | ⟨b, off, c, T, fr, h1, h2, h3⟩
  · exact .inl (nv_nil.1 h)
  · refine .inr ⟨b, off, c, T, fr, h1, h2, fun i hi j hj => ?_⟩
    obtain rfl : j = 0 := by omega
    have := h3 i (by rw [nv_len]; exact hi)
    rw [nv_get, List.getElem?_eq_getElem hi] at this
    simpa [iE] using this
theorem St.rd {w0 : Base} {L : List Blk} {w : World} (h : St w0 L w) (j : Nat) {A : Option Addr} {l : List Int} (hj : w0.M[j]? = some (A, nv l)) : Rd iE 1 w A l := (h.ent j hj).rd
/-- More slices are known; fewer; blocks in another order. -/
theorem St.know {w0 : Base} {L : List Blk} {w : World} (h : St w0 L w) {m : Option Addr × List Value} (hm : Fz w0 L w m) : St ⟨w0.w, w0.S, m :: w0.M⟩ L w :=
  ⟨h.below, h.has, h.nd, h.own, fun x hx => by
    rcases List.mem_cons.1 hx with rfl | hx
    · exact hm
    · exact h.num x hx⟩
theorem St.pick {w0 : Base} {L : List Blk} {w : World} (h : St w0 L w) (M : List (Option Addr × List Value)) (hM : ∀ m ∈ M, m ∈ w0.M) : St ⟨w0.w, w0.S, M⟩ L w :=
  ⟨h.below, h.has, h.nd, h.own, fun x hx => h.num x (hM x hx)⟩
theorem St.re {w0 : Base} {L : List Blk} {w : World} (h : St w0 L w) (idx : List Nat) (hi : idx.Nodup) (hl' : (idx.all fun i => Nat.blt i L.length) = true) : St w0 (idx.map fun i => bAt L i) w := by
  have hl : ∀ i ∈ idx, i < L.length := fun i hm => by have := List.all_eq_true.1 hl' i hm; simp [Nat.blt] at this; omega
  have hmem : ∀ i ∈ idx, L[i]? = some (bAt L i) := fun i hm => by
    have := hl i hm
    unfold bAt
    simp [List.getD_eq_getElem?_getD, List.getElem?_eq_getElem this]
  have hin : ∀ x ∈ idx.map (fun i => bAt L i), x ∈ L := fun x hx => by
    obtain ⟨i, hm, rfl⟩ := List.mem_map.1 hx
    exact List.mem_of_getElem? (hmem i hm)
  refine ⟨h.below, fun b hm => h.has b (hin b hm), ?_, fun b hm => h.own b (hin b hm), fun m hm => (h.num m hm).part fun x hx hxo => ⟨x, hin x hx, hxo, rfl⟩⟩
  rw [List.map_map]
  unfold List.Nodup
  rw [List.pairwise_map]
  refine List.Pairwise.imp_of_mem ?_ hi
  intro i j hmi hmj hij he
  have h1 : (L.map Blk.g)[i]? = some (bAt L i).g := by rw [List.getElem?_map, hmem i hmi]; rfl
  have h2 : (L.map Blk.g)[j]? = some (bAt L j).g := by rw [List.getElem?_map, hmem j hmj]; rfl
  have hlt : i < (L.map Blk.g).length := (List.getElem?_eq_some_iff.1 h1).1
  have he' : (bAt L i).g = (bAt L j).g := he
  exact hij ((List.getElem?_inj hlt h.nd).1 (h1.trans (by rw [he', h2])))
theorem Fz.nil {w0 : Base} {L : List Blk} {w : World} (A : Option Addr) : Fz w0 L w (A, nv []) := .inl rfl
theorem Fz.cut {w0 : Base} {L : List Blk} {w : World} {A : Option Addr} {l : List Int} (h : Fz w0 L w (A, nv l)) (k : Nat) : Fz w0 L w (A, nv (l.take k)) := by
  rcases h with h | ⟨b, off, c, T, fr, h1, h2, h3, h4, h5⟩
  · left; rw [nv_nil.1 h]; simp [nv]
  · refine .inr ⟨b, off, c, T, fr, h1, h2, fun i hi => ?_, h4, h5⟩
    have hi' : i < (nv (l.take k)).length := hi
    rw [nv_take, List.length_take] at hi'
    have := h3 i (show i < (nv l).length by omega)
    rw [this]
    show (nv l)[i]? = (nv (l.take k))[i]?
    rw [nv_take, List.getElem?_take_of_lt (by omega)]
theorem St.fz {w0 : Base} {L : List Blk} {w : World} (h : St w0 L w) (j : Nat) {m : Option Addr × List Value} (hj : w0.M[j]? = some m) : Fz w0 L w m := h.num m (List.mem_of_getElem? hj)
/-- A block of the call's own is no longer written to: it becomes a slice that is known. -/
theorem St.freeze {w0 : Base} {L : List Blk} {w : World} (h : St w0 L w) (i : Nat) (l : List Int) (rest : List Value) (hi : (L[i]?, (bAt L i).own, (bAt L i).c) = (some (bAt L i), true, ⟨nv l ++ rest⟩)) :
    St ⟨w0.w, w0.S, (some ⟨(bAt L i).g, 0, none⟩, nv l) :: w0.M⟩ (L.eraseIdx i) w := by
  simp only [Prod.mk.injEq] at hi
  obtain ⟨h1, h2, h3⟩ := hi
  obtain ⟨o1, o2⟩ := h.own _ (List.mem_of_getElem? h1) h2
  have hg := h.get h1
  unfold Blk.obj at hg
  have hd := h.drop i
  refine hd.know (.inr ⟨_, 0, _, _, _, rfl, hg, fun j hj => ?_, .inl o1, fun x hx hxo he => ?_⟩)
  · rw [h3]
    show (nv l ++ rest)[0 + j]? = _
    rw [Nat.zero_add, List.getElem?_append_left hj]
  · rw [List.mem_eraseIdx_iff_getElem] at hx
    obtain ⟨j, hj, hne, rfl⟩ := hx
    have k1 : (L.map Blk.g)[i]? = some (bAt L i).g := by rw [List.getElem?_map, h1]; rfl
    have k2 : (L.map Blk.g)[j]? = some (L[j]).g := by rw [List.getElem?_map, List.getElem?_eq_getElem hj]; rfl
    have hlt : j < (L.map Blk.g).length := by simpa using hj
    exact hne ((List.getElem?_inj hlt h.nd).1 (by rw [k1, k2, he]))

/-- What a call that returns a number has done. -/
def RetN (w : World) (S : List (Option Addr × List Value)) (r : Bool × List Int) (e : Ending) (w' : World) : Prop :=
  ∃ A cap, e = .returned (.agg #[.bool r.1, .slice A (List.length r.2) cap]) ∧ r.2.length ≤ cap ∧ Below w.heap.size w w' ∧
    (nv r.2 = [] ∨ ∃ b off c T fr, A = some ⟨b, off, none⟩ ∧ Has b (.cells c T fr) w' ∧ (∀ i, i < (nv r.2).length → c.toList[off + i]? = (nv r.2)[i]?) ∧ Prov w S b)
theorem St.retN {w0 : Base} {L : List Blk} {w : World} (hM : St w0 L w) (j : Nat) {A : Option Addr} {b : Bool} {l : List Int} {n cap : Nat} {r : Bool × List Int} (hj : w0.M[j]? = some (A, nv l)) (hn : n = l.length) (hcap : n ≤ cap) (hr : (b, l) = r) :
    RetN w0.w w0.S r (.returned (.agg #[.bool b, .slice A n cap])) w := by
  subst hr hn
  refine ⟨A, cap, rfl, hcap, hM.below, ?_⟩
  rcases hM.fz j hj with h | ⟨b, off, c, T, fr, h1, h2, h3, h4, h5⟩
  · exact .inl h
  · exact .inr ⟨b, off, c, T, fr, h1, h2, h3, h4⟩
theorem fz_of {w0 : Base} {L : List Blk} {w w' : World} (hM : St w0 L w) {A : Option Addr} {l : List Int} {S : List (Option Addr × List Value)} (hS : ∀ m ∈ S, m ∈ w0.M)
    (h : nv l = [] ∨ ∃ b off c T fr, A = some ⟨b, off, none⟩ ∧ Has b (.cells c T fr) w' ∧ (∀ i, i < (nv l).length → c.toList[off + i]? = (nv l)[i]?) ∧ Prov w S b) : Fz w0 L w' (A, nv l) := by
  rcases h with h | ⟨b, off, c, T, fr, h1, h2, h3, h4⟩
  · exact .inl h
  · have : Prov w0.w w0.S b ∧ ∀ x ∈ L, x.own = true → x.g ≠ b := by
      rcases h4 with h4 | ⟨m, hm, h0, o, ho⟩
      · exact ⟨.inl (Nat.le_trans hM.below.size h4), fun x hx _ he => by have := (hM.has x hx).lt; omega⟩
      · rcases hM.num m (hS m hm) with k | ⟨b', off', c', T', fr', k1, k2, k3, k4, k5⟩
        · exact absurd k h0
        · rw [ho] at k1
          simp only [Option.some.injEq, Addr.mk.injEq, and_true] at k1
          obtain ⟨rfl, -⟩ := k1
          exact ⟨k4, k5⟩
    exact .inr ⟨b, off, c, T, fr, h1, h2, h3, this.1, this.2⟩
/-- .. and two numbers. -/
def RetNN (w : World) (S : List (Option Addr × List Value)) (r : (Bool × List Int) × (Bool × List Int)) (e : Ending) (w' : World) : Prop :=
  ∃ A cap A' cap', e = .returned (.tuple #[.agg #[.bool r.1.1, .slice A (List.length r.1.2) cap], .agg #[.bool r.2.1, .slice A' (List.length r.2.2) cap']]) ∧ r.1.2.length ≤ cap ∧ r.2.2.length ≤ cap' ∧ Below w.heap.size w w' ∧
    (nv r.1.2 = [] ∨ ∃ b off c T fr, A = some ⟨b, off, none⟩ ∧ Has b (.cells c T fr) w' ∧ (∀ i, i < (nv r.1.2).length → c.toList[off + i]? = (nv r.1.2)[i]?) ∧ Prov w S b) ∧
    (nv r.2.2 = [] ∨ ∃ b off c T fr, A' = some ⟨b, off, none⟩ ∧ Has b (.cells c T fr) w' ∧ (∀ i, i < (nv r.2.2).length → c.toList[off + i]? = (nv r.2.2)[i]?) ∧ Prov w S b)
theorem St.retNN {w0 : Base} {L : List Blk} {w : World} (hM : St w0 L w) (j j' : Nat) {A A' : Option Addr} {b b' : Bool} {l l' : List Int} {n cap n' cap' : Nat} {r : (Bool × List Int) × (Bool × List Int)} (hj : w0.M[j]? = some (A, nv l)) (hn : n = l.length) (hcap : n ≤ cap)
    (hj' : w0.M[j']? = some (A', nv l')) (hn' : n' = l'.length) (hcap' : n' ≤ cap') (hr : ((b, l), (b', l')) = r) :
    RetNN w0.w w0.S r (.returned (.tuple #[.agg #[.bool b, .slice A n cap], .agg #[.bool b', .slice A' n' cap']])) w := by
  subst hr hn hn'
  refine ⟨A, cap, A', cap', rfl, hcap, hcap', hM.below, ?_, ?_⟩
  · rcases hM.fz j hj with h | ⟨b, off, c, T, fr, h1, h2, h3, h4, h5⟩
    · exact .inl h
    · exact .inr ⟨b, off, c, T, fr, h1, h2, h3, h4⟩
  · rcases hM.fz j' hj' with h | ⟨b, off, c, T, fr, h1, h2, h3, h4, h5⟩
    · exact .inl h
    · exact .inr ⟨b, off, c, T, fr, h1, h2, h3, h4⟩
section
variable {P : Program} {ops : Array Oper} {Q : Exit → Act → World → Prop} {rest : List Oper} {a : Act} {w : World} {dst : Option Tmp} {op : Op} {ty : TypeId} {pos : String} {after : Array Edge} {guard : Option (Nat × Bool)}
theorem S_callN (e : Bool × List Int) (S : List (Option Addr × List Value)) {w0 : Base} {L : List Blk} (hM : St w0 L w) {f : FuncId} {args : Array Value} (K : Calls P f args w (RetN w S e)) (hS : ∀ m ∈ S, m ∈ w0.M)
    (hc : (Region.wanted ⟨dst, op, ty, pos, after, guard⟩ (yielded ops a.tmps), (execOp a.eval ⟨dst, op, ty, pos, after, guard⟩).run P w) = (true, .ok (.enter f args) w))
    (h : ∀ r, e = r → ∀ A cap, r.2.length ≤ cap → ∀ w', St ⟨w0.w, w0.S, (A, nv r.2) :: w0.M⟩ L w' → Wp P ops Q rest (a.put dst (.agg #[.bool r.1, .slice A (List.length r.2) cap])) w') : Wp P ops Q (⟨dst, op, ty, pos, after, guard⟩ :: rest) a w := by
  simp only [Prod.mk.injEq] at hc
  refine ⟨?_⟩
  unfold wpList
  rw [if_pos hc.1]
  refine .inl ?_
  unfold Oper.wp
  rw [hc.2]
  refine Calls.mono K ?_
  rintro e' w' ⟨A, cap, rfl, h1, hb, h2⟩
  exact (h e rfl A cap h1 w' ((hM.step hb).know (fz_of hM hS h2))).out
theorem S_callNN (e : (Bool × List Int) × (Bool × List Int)) (S : List (Option Addr × List Value)) {w0 : Base} {L : List Blk} (hM : St w0 L w) {f : FuncId} {args : Array Value} (K : Calls P f args w (RetNN w S e)) (hS : ∀ m ∈ S, m ∈ w0.M)
    (hc : (Region.wanted ⟨dst, op, ty, pos, after, guard⟩ (yielded ops a.tmps), (execOp a.eval ⟨dst, op, ty, pos, after, guard⟩).run P w) = (true, .ok (.enter f args) w))
    (h : ∀ r, e = r → ∀ A cap A' cap', r.1.2.length ≤ cap → r.2.2.length ≤ cap' → ∀ w', St ⟨w0.w, w0.S, (A, nv r.1.2) :: (A', nv r.2.2) :: w0.M⟩ L w' → Wp P ops Q rest (a.put dst (.tuple #[.agg #[.bool r.1.1, .slice A (List.length r.1.2) cap], .agg #[.bool r.2.1, .slice A' (List.length r.2.2) cap']])) w') : Wp P ops Q (⟨dst, op, ty, pos, after, guard⟩ :: rest) a w := by
  simp only [Prod.mk.injEq] at hc
  refine ⟨?_⟩
  unfold wpList
  rw [if_pos hc.1]
  refine .inl ?_
  unfold Oper.wp
  rw [hc.2]
  refine Calls.mono K ?_
  rintro e' w' ⟨A, cap, A', cap', rfl, h1, h1', hb, h2, h2'⟩
  have k1 := (hM.step hb).know (fz_of hM hS h2')
  exact (h e rfl A cap A' cap' h1 h1' w' (k1.know (fz_of hM hS h2))).out
/-- A load by a fact. -/
theorem ex_loadR {α : Type} (E : α → List Value) (sz : Nat) (d : α) (i : Int) (j b off : Nat) (v : Value) {l : List α} {t : TypeId} {x : Operand} (hR : Rd E sz w (some ⟨b, off, none⟩) l) (hE : ∀ x, (E x).length = sz) (hi : 0 ≤ i ∧ i < l.length)
    (hc : (Nat.blt 0 sz, a.eval x, ldVal P t ⟨E (gd d l i)⟩ j) = (true, .pointer (some ⟨b, off + i.toNat * sz + j, none⟩), some v)) :
    (execOp a.eval ⟨dst, .load t x, ty, pos, after, guard⟩).run P w = .ok (.value v) w := by
  simp only [Prod.mk.injEq] at hc
  obtain ⟨h0, h2, h4⟩ := hc
  have hr := hR.ld (P := P) hE (by have := h0; simp [Nat.blt] at this; omega) d hi h4
  simp [execOp, Instr.loadAt, Instr.sureAddr, h2, hr]
theorem S_loadR {α : Type} (E : α → List Value) (sz : Nat) (d : α) (i : Int) (j b off : Nat) (v : Value) {l : List α} {t : TypeId} {x : Operand} (hR : Rd E sz w (some ⟨b, off, none⟩) l) (hE : ∀ x, (E x).length = sz) (hi : 0 ≤ i ∧ i < l.length)
    (hc : (Region.wanted ⟨dst, .load t x, ty, pos, after, guard⟩ (yielded ops a.tmps), Nat.blt 0 sz, a.eval x, ldVal P t ⟨E (gd d l i)⟩ j) = (true, true, .pointer (some ⟨b, off + i.toNat * sz + j, none⟩), some v))
    (h : Wp P ops Q rest (a.put dst v) w) : Wp P ops Q (⟨dst, .load t x, ty, pos, after, guard⟩ :: rest) a w :=
  S_val v (Prod.ext (Prod.mk.inj hc).1 (ex_loadR E sz d i j b off v hR hE hi (Prod.mk.inj hc).2)) h
/-- Arrays of the call's own, of a length that is not known. -/
theorem St.rdO {w0 : Base} {L : List Blk} (h : St w0 L w) (i : Nat) (l : List Int) (rest : List Value) (hi : (L[i]?, (bAt L i).c) = (some (bAt L i), ⟨nv l ++ rest⟩)) : Rd iE 1 w (some ⟨(bAt L i).g, 0, none⟩) l := by
  simp only [Prod.mk.injEq] at hi
  have hg := h.get hi.1
  unfold Blk.obj at hg
  rw [hi.2] at hg
  refine .inr ⟨_, _, _, _, _, rfl, hg, fun k hk j hj => ?_⟩
  obtain rfl : j = 0 := by omega
  show (nv l ++ rest)[0 + k * 1 + 0]? = _
  rw [Nat.zero_add, Nat.mul_one, Nat.add_zero, List.getElem?_append_left (by rw [nv_len]; exact hk), nv_get, List.getElem?_eq_getElem hk]
  rfl
theorem S_make {t : TypeId} {x y : Operand} (e : TypeId) (n : Int) {w0 : Base} {L : List Blk} (hM : St w0 L w) (hn : 0 ≤ n ∧ n ≤ 1000000)
    (hc : (Region.wanted ⟨dst, .makeSlice t x y, ty, pos, after, guard⟩ (yielded ops a.tmps), a.eval x, a.eval y, P.underlying t, elemOf' P e) = (true, .int .i64 n, .int .i64 n, some (.slice e), some (1, 8, .int .i64 0)))
    (h : ∀ g l, List.replicate n.toNat 0 = l → ∀ w', St w0 (⟨g, ⟨nv l ++ []⟩, e, (0, 0), true⟩ :: L) w' → Wp P ops Q rest (a.put dst (.slice (some ⟨g, 0, none⟩) (Int.toNat n) (Int.toNat n))) w') : Wp P ops Q (⟨dst, .makeSlice t x y, ty, pos, after, guard⟩ :: rest) a w := by
  simp only [Prod.mk.injEq] at hc
  obtain ⟨h1, h2, h3, h4, h5⟩ := hc
  obtain ⟨i, hi, hz, hs, hby⟩ := elemOf'_spec h5
  have hr := run_make (P := P) w t e i _ h4 hi hz .i64 .i64 n n hn.1 (Int.le_refl _) (by rw [hby]; omega) (by omega)
  have hcells : madeCells (Value.int .i64 0).cells (n.toNat * i.size) = ⟨nv (List.replicate n.toNat 0) ++ []⟩ := by
    rw [List.append_nil]
    rw [hs, Nat.mul_one]
    apply Array.ext'
    simp only [madeCells, nv, List.map_replicate]
    apply List.ext_getElem
    · simp
    · intro k k1 k2
      simp [Value.cells, Nat.mod_one]
  rw [hcells] at hr
  refine ⟨?_⟩
  unfold wpList
  rw [if_pos h1]
  refine .inl ?_
  unfold Oper.wp
  simp [execOp, h2, h3, hr, Oper.upon]
  have hk := (h w.heap.size _ rfl _ (hM.alloc ⟨nv (List.replicate n.toNat 0) ++ []⟩ e)).out
  simp only [List.append_nil] at hk
  exact hk
theorem S_storeO {t : TypeId} {x y : Operand} (i : Nat) (k : Int) (l : List Int) (tail : List Value) (v : Int) {w0 : Base} {L : List Blk} (hM : St w0 L w) (hk : 0 ≤ k ∧ k < l.length)
    (hc : (Region.wanted ⟨dst, .store t x y, ty, pos, after, guard⟩ (yielded ops a.tmps), a.eval x, a.eval y, L[i]?, (bAt L i).own, (bAt L i).c, (P.info? t).map (·.size)) = (true, .pointer (some ⟨(bAt L i).g, 0 + k.toNat * 1, none⟩), .int .i64 v, some (bAt L i), true, ⟨nv l ++ tail⟩, some 1))
    (h : ∀ l', List.set l (Int.toNat k) v = l' → ∀ w', St w0 (setB L i ⟨nv l' ++ tail⟩) w' → Wp P ops Q rest (a.put dst undef) w') : Wp P ops Q (⟨dst, .store t x y, ty, pos, after, guard⟩ :: rest) a w := by
  simp only [Prod.mk.injEq] at hc
  obtain ⟨h1, h2, h3, h4, h5, h6, h7⟩ := hc
  have hg := hM.get h4
  unfold Blk.obj at hg
  rw [(hM.own _ (List.mem_of_getElem? h4) h5).2, h6] at hg
  have hsv : stVal P t ⟨nv l ++ tail⟩ (0 + k.toNat * 1) (.int .i64 v) = some ⟨nv (l.set k.toNat v) ++ tail⟩ := by
    obtain ⟨inf, hi, hs⟩ := Option.map_eq_some_iff.1 h7
    unfold stVal
    rw [hi]
    simp only [Value.cells, hs]
    have hlt : k.toNat < l.length := by omega
    have e1 : Nat.ble (k.toNat + 1) (l.length + tail.length) = true := by rw [Nat.ble_eq]; omega
    have e2 : cells1 [Value.int .i64 v] = true := by simp [cells1, Value.oneCell']
    simp only [Nat.zero_add, Nat.mul_one, List.length_append, nv_len, e1, e2]
    simp only [List.length_singleton, Nat.beq_refl, Bool.and_self, if_true, Option.some.injEq]
    congr 1
    rw [nv_set]
    have hlt' : k.toNat < (nv l).length := by rw [nv_len]; exact hlt
    rw [List.take_append_of_le_length (by omega), List.drop_append_of_le_length (by omega), List.set_eq_take_append_cons_drop, if_pos hlt']
    simp
  have hr := run_st (P := P) hg hsv
  refine ⟨?_⟩
  unfold wpList
  rw [if_pos h1]
  refine .inl ?_
  unfold Oper.wp
  simp only [Nat.zero_add, Nat.mul_one] at h2 hr
  simp [execOp, Instr.storeAt, Instr.sureAddr, h2, h3, hr, Oper.upon]
  exact (h _ rfl _ (hM.put h4 h5 _)).out
end
section
variable {P : Program} {ops : Array Oper} {W : World} {Q : (World → Prop) → Act → Prop} {k : Nat} {rest : List Oper} {F : World → Prop} {U : Nat → Prop} {a : Act} {dst : Option Tmp} {ty : TypeId} {pos : String} {after : Array Edge} {guard : Option (Nat × Bool)}
theorem F_loadR {α : Type} (E : α → List Value) (sz : Nat) (d : α) (i : Int) (j b off : Nat) (v : Value) {l : List α} {t : TypeId} {x : Operand} (hR : Rd E sz W (some ⟨b, off, none⟩) l) (hE : ∀ x, (E x).length = sz) (hi : 0 ≤ i ∧ i < l.length)
    (hc : (Region.wanted ⟨dst, .load t x, ty, pos, after, guard⟩ (yielded ops a.tmps), Nat.blt 0 sz, a.eval x, ldVal P t ⟨E (gd d l i)⟩ j) = (true, true, .pointer (some ⟨b, off + i.toNat * sz + j, none⟩), some v))
    (h : WlF P ops W Q (k + 1) rest F U (a.put dst v)) : WlF P ops W Q k (⟨dst, .load t x, ty, pos, after, guard⟩ :: rest) F U a := by
  refine ⟨.inl ⟨v, .inl ⟨(Prod.mk.inj hc).1, fun w' hb => ?_⟩, h.out⟩⟩
  rw [ex_loadR E sz d i j b off v (hR.stay hb) hE hi (Prod.mk.inj hc).2]
  exact ⟨rfl, rfl⟩
end
section
variable {P : Program} {ops : Array Oper} {Q : Exit → Act → World → Prop} {restO : List Oper} {a : Act} {w : World} {dst : Option Tmp} {ty : TypeId} {pos : String} {after : Array Edge} {guard : Option (Nat × Bool)}
/-- One number more behind a slice of the call's own. -/
theorem S_appL {w0 : Base} {L : List Blk} {s x : Operand} {t : TypeId} (i j n cap c : Nat) (e : TypeId) (l : List Int) (rest : List Value) (v : Int) (hM : St w0 L w) (hok : SlOk 1 n cap rest) (hn : n = l.length) (hb : n ≤ 1000000)
    (hc : (Region.wanted ⟨dst, .call { callee := .builtin .append, args := #[s, x], argTypes := #[t, t] }, ty, pos, after, guard⟩ (yielded ops a.tmps), a.eval s, a.eval x, L[j]?, P.underlying t, elemOf' P e, (bAt L j).c.toList.take (1 * 1), L[i]?, (bAt L i).T, (bAt L i).own, (bAt L i).c) =
      (true, .slice (some ⟨(bAt L i).g, 0, none⟩) n cap, .slice (some ⟨(bAt L j).g, 0, none⟩) 1 c, some (bAt L j), some (.slice e), some (1, 8, .int .i64 0), [.int .i64 v], some (bAt L i), e, true, ⟨nv l ++ rest⟩))
    (h : ∀ g l', l ++ [v] = l' → ∀ cap' rest' w', SlOk 1 (List.length l') cap' rest' → St w0 (⟨g, ⟨nv l' ++ rest'⟩, e, (0, 0), true⟩ :: L.eraseIdx i) w' → Wp P ops Q restO (a.put dst (.slice (some ⟨g, 0, none⟩) (List.length l') cap')) w') :
    Wp P ops Q (⟨dst, .call { callee := .builtin .append, args := #[s, x], argTypes := #[t, t] }, ty, pos, after, guard⟩ :: restO) a w := by
  subst hn
  refine S_appN i j l.length cap 1 c e 1 8 (.int .i64 0) (nv l) rest [.int .i64 v] hM hok hc ?_ (by omega) (fun g cap' rest' w' ok hM' => ?_)
  · simp [nv_len, cells1, Value.cells, Value.oneCell']
  · have e1 : l.length + 1 = (l ++ [v]).length := by simp
    have e2 : nv l ++ [Value.int .i64 v] = nv (l ++ [v]) := by simp [nv]
    rw [e1] at ok ⊢
    rw [e2] at hM'
    exact h g _ rfl cap' rest' w' ok hM'
theorem S_shl {x y : Operand} {t t' : TypeId} (m : Int) (hm : 0 ≤ m ∧ m < 16) (hc : (Region.wanted ⟨dst, .binOp .shl t x y t', ty, pos, after, guard⟩ (yielded ops a.tmps), a.eval x, a.eval y) = (true, .int .i64 1, .int .i64 m))
    (h : ∀ r, (2 : Int) ^ Int.toNat m = r → Wp P ops Q restO (a.put dst (.int .i64 r)) w) : Wp P ops Q (⟨dst, .binOp .shl t x y t', ty, pos, after, guard⟩ :: restO) a w := by
  simp only [Prod.mk.injEq] at hc
  obtain ⟨h1, h2, h3⟩ := hc
  refine S_val (.int .i64 (2 ^ Int.toNat m)) (Prod.ext h1 ?_) (h _ rfl)
  obtain ⟨n, rfl⟩ := Int.eq_ofNat_of_zero_le hm.1
  have hn : n < 16 := by omega
  have e1 : min n IntKind.i64.bits = n := by show min n 64 = n; omega
  have e2 : IntKind.i64.wrap (1 * 2 ^ n) = (2 : Int) ^ n := by
    have : ∀ n, n < 16 → IntKind.i64.wrap (1 * 2 ^ n) = (2 : Int) ^ n := by decide +kernel
    exact this n hn
  simp [execOp, h2, h3, eqGuard, binOp, Op.shift, e1]
  simpa using e2
end
/-- A loop, from its second round on. -/
theorem R_fuelI {P : Program} {fn : Func} {R : Ending → World → Prop} {k : List Item} {a : Act} {w : World} {c : Code} (I : Nat → Act → World → Prop) (m : Nat) (h0 : I m a w)
    (round : ∀ m a w, I m a w → (∀ m' a' w', m' < m → I m' a' w' → Run P fn R (.inLoop c :: k) a' w') → Run P fn R (.code c :: .inLoop c :: k) a w) : Run P fn R (.inLoop c :: k) a w := by
  refine R_inLoop ?_
  have key : ∀ m a w, I m a w → Run P fn R (.code c :: .inLoop c :: k) a w := by
    intro m
    induction m using Nat.strongRecOn with
    | _ m ih => exact fun a w hI => round m a w hI fun m' a' w' hlt hI' => R_inLoop (ih m' hlt a' w' hI')
  exact key m a w h0
theorem R_if {P : Program} {fn : Func} {R : Ending → World → Prop} {k : List Item} {a : Act} {w : World} {c : Operand} {x y : Code} (b : Bool) (hc : a.eval c = .bool b) (h1 : b = true → Run P fn R (.code x :: k) a w) (h2 : b = false → Run P fn R (.code y :: k) a w) : Run P fn R (.code (.cond c x y) :: k) a w := by
  cases b
  · exact R_no hc (h2 rfl)
  · exact R_yes hc (h1 rfl)
end Go.Proofs.Ytognbeejobfpfaa
