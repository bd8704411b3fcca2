/- Steps in a region that draws its order, in an order of one's choice, with stores into its own blocks and calls that give one number or two. No program is named here. More steps in an order of one's choice: tests, numbers, loads of slices, calls that give a value. No program is named here. Ways that meet again: what stands behind is walked once. No program is named here. -/
import Derived.Test.YtognbeejobfpfaaGoH
import Derived.Test.YtognbeejobfpfaaFresh4
namespace Go.Proofs.Ytognbeejobfpfaa
open Go.RowKit Go.Sort
set_option linter.unusedVariables false
set_option linter.unusedSimpArgs false

def zipO (ops : Array Oper) (ord : List Nat) : List (Nat × Oper) := ord.filterMap fun j => (ops[j]?).map fun o => (j, o)
def WLJ (P : Program) (ops : Array Oper) (W : World) (ord : List Nat) (Q : (World → Prop) → Act → Prop) : List (Nat × Oper) → (World → Prop) → (Nat → Prop) → Act → Prop
  | [], F, _, a => Q F a
  | p :: l, F, U, a => StF4 P ops W (depE4 ops ord p.1) (depE4 ops ord p.1) p.2 F U a (WLJ P ops W ord Q l)
theorem WF_of_WLJ {P : Program} {ops : Array Oper} {W : World} {ord : List Nat} {Q : (World → Prop) → Act → Prop} : ∀ (js : List Nat) (F : World → Prop) (U : Nat → Prop) (a : Act), Ends U → WLJ P ops W ord Q (zipO ops js) F U a → WF4 P ops W ord Q js F U a
  | [], F, U, a, hU, h => h
  | j :: js, F, U, a, hU, h => by
    unfold zipO at h
    rw [List.filterMap_cons] at h
    cases ho : ops[j]? with
    | none =>
      simp only [ho, Option.map_none] at h
      simp only [WF4, ho]
      exact WF_of_WLJ js F U a hU h
    | some o =>
      simp only [ho, Option.map_some] at h
      simp only [WF4, ho]
      exact StF4.mono hU (fun F U a hU hh => WF_of_WLJ js F U a hU hh) h
structure WlJ (P : Program) (ops : Array Oper) (W : World) (ord : List Nat) (Q : (World → Prop) → Act → Prop) (l : List (Nat × Oper)) (F : World → Prop) (U : Nat → Prop) (a : Act) : Prop where
  out : WLJ P ops W ord Q l F U a
theorem ends_some (g : Option Nat) : Ends (fun y => g = some y) := by
  cases g with
  | none => exact ⟨0, fun x hx => by cases hx⟩
  | some g => exact ⟨g + 1, fun x hx => by have := some_le hx; cases hx; omega⟩
/-- What may come back as the number e. -/
def AdmN (S : List (Option Addr × List Value)) (e : Bool × List Int) (p : Option Addr × Nat × Option Nat) : Prop :=
  e.2.length ≤ p.2.1 ∧ (nv e.2 = [] ∨ ∃ b off, p.1 = some ⟨b, off, none⟩ ∧ (p.2.2 = some b ∨ ∃ m ∈ S, m.2 ≠ [] ∧ ∃ o, m.1 = some ⟨b, o, none⟩))
def FactN (e : Bool × List Int) (p : Option Addr × Nat × Option Nat) (w2 : World) : Prop :=
  ∀ b off, nv e.2 ≠ [] → p.1 = some ⟨b, off, none⟩ → ∃ c T fr, Has b (.cells c T fr) w2 ∧ ∀ i, i < (nv e.2).length → c.toList[off + i]? = (nv e.2)[i]?
def valN (e : Bool × List Int) (p : Option Addr × Nat × Option Nat) : Value := .agg #[.bool e.1, .slice p.1 (List.length e.2) p.2.1]
theorem FactN.stay (e : Bool × List Int) (p : Option Addr × Nat × Option Nat) : Stay (FactN e p) := fun w1 w2 hb hp b off hz hA => by
  obtain ⟨c, T, fr, k2, k3⟩ := hp b off hz hA
  exact ⟨c, T, fr, k2.stay hb, k3⟩
theorem AdmN.any (S : List (Option Addr × List Value)) (e : Bool × List Int) (M : Nat) : AdmN S e (some ⟨M, 0, none⟩, e.2.length, some M) := ⟨Nat.le_refl _, .inr ⟨M, 0, rfl, .inl rfl⟩⟩
theorem outN {w w2 : World} {S : List (Option Addr × List Value)} {e : Bool × List Int} {A : Option Addr} {cap : Nat} (q1 : e.2.length ≤ cap)
    (q3 : nv e.2 = [] ∨ ∃ b off c T fr, A = some ⟨b, off, none⟩ ∧ Has b (.cells c T fr) w2 ∧ (∀ i, i < (nv e.2).length → c.toList[off + i]? = (nv e.2)[i]?) ∧ Prov w S b) :
    ∃ g, AdmN S e (A, cap, g) ∧ (∀ y, g = some y → w.heap.size ≤ y ∧ y < w2.heap.size) ∧ FactN e (A, cap, g) w2 := by
  rcases q3 with z | ⟨b, off, c, T, fr, k1, k2, k3, k4⟩
  · exact ⟨none, ⟨q1, .inl z⟩, fun y hy => (by cases hy), fun b off hz => absurd z hz⟩
  · subst k1
    have kf : ∀ g, FactN e (some ⟨b, off, none⟩, cap, g) w2 := fun g b' off' _ hA => by
      simp only [Option.some.injEq, Addr.mk.injEq, and_true] at hA
      obtain ⟨rfl, rfl⟩ := hA
      exact ⟨c, T, fr, k2, k3⟩
    rcases k4 with k4 | k4
    · exact ⟨some b, ⟨q1, .inr ⟨b, off, rfl, .inl rfl⟩⟩, fun y hy => some_in (P := fun y => w.heap.size ≤ y ∧ y < w2.heap.size) hy ⟨k4, k2.lt⟩, kf _⟩
    · exact ⟨none, ⟨q1, .inr ⟨b, off, rfl, .inr k4⟩⟩, fun y hy => (by cases hy), kf _⟩
theorem LedN.knowN {W : World} {F : World → Prop} {U : Nat → Prop} {N : List Blk} {w0 : Base} {M' : List (Option Addr × List Value)} (h : LedN W F U N w0 M') {S : List (Option Addr × List Value)} {e : Bool × List Int} {p : Option Addr × Nat × Option Nat} (ha : AdmN S e p)
    (hg : ∀ y, p.2.2 = some y → W.heap.size ≤ y ∧ ¬ U y) (hS : ∀ m ∈ S, m ∈ M' ++ w0.M) {F' : World → Prop} (hF : ∀ w', F' w' → F w' ∧ FactN e p w') : LedN W F' (fun y => U y ∨ p.2.2 = some y) N w0 ((p.1, nv e.2) :: M') := by
  refine h.know hg hS (fun w' hw => (hF w' hw).1) ?_
  by_cases hz : nv e.2 = []
  · exact .inl hz
  · rcases ha.2 with z | ⟨b, off, k1, k4⟩
    · exact absurd z hz
    · exact .inr ⟨b, off, k1, fun w' hw => (hF w' hw).2 b off hz k1, k4⟩
theorem LedN.put {W : World} {F : World → Prop} {U : Nat → Prop} {N L : List Blk} {w0 : Base} {M' : List (Option Addr × List Value)} (h : LedN W F U N w0 M') (hM : St w0 L W) {i : Nat} (hi : N[i]? = some (bAt N i)) (c' : Array Value) :
    LedN W (upd F (bAt N i).g (bAt N i).c c' (bAt N i).T) U (setB N i c') w0 M' := by
  obtain ⟨o1, o2⟩ := h.own _ (List.mem_of_getElem? hi)
  have hlt := (List.getElem?_eq_some_iff.1 hi).1
  have hN : N = N.take i ++ bAt N i :: N.drop (i + 1) := by
    have : N[i] = bAt N i := (List.getElem?_eq_some_iff.1 hi).2
    rw [← this]
    simp
  have hS : setB N i c' = N.take i ++ { bAt N i with c := c' } :: N.drop (i + 1) := by
    unfold setB
    rw [List.set_eq_take_append_cons_drop, if_pos hlt]
  have hmap : (setB N i c').map Blk.g = N.map Blk.g := by
    rw [hS]
    conv => rhs; rw [hN]
    simp
  have hnd := h.nd
  have hne : ∀ b ∈ N.take i ++ N.drop (i + 1), b.g ≠ (bAt N i).g := by
    intro b hm he
    rw [hN] at hnd
    simp only [List.map_append, List.map_cons] at hnd
    obtain ⟨-, h2, h3⟩ := List.nodup_append.1 hnd
    have h4 := List.nodup_cons.1 h2
    rcases List.mem_append.1 hm with hm | hm
    · exact h3 _ (List.mem_map_of_mem (f := Blk.g) hm) _ (by simp) he
    · exact h4.1 (he ▸ List.mem_map_of_mem (f := Blk.g) hm)
  have hsub : ∀ b ∈ N.take i ++ N.drop (i + 1), b ∈ N := fun b hm => by rw [hN]; rcases List.mem_append.1 hm with hm | hm <;> simp [hm]
  have hmemS : ∀ b, b ∈ setB N i c' → b = { bAt N i with c := c' } ∨ b ∈ N.take i ++ N.drop (i + 1) := by
    intro b hm
    rw [hS] at hm
    rcases List.mem_append.1 hm with hm | hm
    · exact .inr (List.mem_append.2 (.inl hm))
    · rcases List.mem_cons.1 hm with hm | hm
      · exact .inl hm
      · exact .inr (List.mem_append.2 (.inr hm))
  have hg : ∀ b ∈ setB N i c', ∃ b' ∈ N, b'.g = b.g := fun b hm => by
    rcases hmemS b hm with rfl | hm
    · exact ⟨_, List.mem_of_getElem? hi, rfl⟩
    · exact ⟨b, hsub b hm, rfl⟩
  refine ⟨fun w' hF b hm => ?_, fun b hm => ?_, by rw [hmap]; exact hnd, fun b hm => ?_, fun m hm => ?_⟩
  · obtain ⟨f1, f2⟩ := hF
    rcases hmemS b hm with rfl | hm
    · unfold Has Blk.obj
      simp only [o2]
      exact f1
    · have := h.has _ f2 b (hsub b hm)
      unfold Has at this ⊢
      rw [setRow_other _ _ _ _ (hne b hm)] at this
      exact this
  · obtain ⟨b', hb', e⟩ := hg b hm
    exact e ▸ h.u b' hb'
  · rcases hmemS b hm with rfl | hm
    · exact ⟨o1, o2⟩
    · exact h.own b (hsub b hm)
  · rcases h.num m hm with z | ⟨b, off, k1, k2, k3⟩
    · exact .inl z
    · have hbg : b ≠ (bAt N i).g := by
        rcases k3 with ⟨-, -, a3⟩ | ⟨m', hm', n0, o, ho⟩
        · exact fun e => a3 _ (List.mem_of_getElem? hi) e.symm
        · rcases hM.num m' hm' with q | ⟨b', off', c2, T', fr', q1, q2, -, -, -⟩
          · exact absurd q n0
          · rw [ho] at q1
            simp only [Option.some.injEq, Addr.mk.injEq, and_true] at q1
            obtain ⟨rfl, -⟩ := q1
            have := q2.lt
            omega
      refine .inr ⟨b, off, k1, fun w' hF => ?_, ?_⟩
      · obtain ⟨c2, T2, fr2, j1, j2⟩ := k2 _ hF.2
        unfold Has at j1
        rw [setRow_other _ _ _ _ hbg] at j1
        exact ⟨c2, T2, fr2, j1, j2⟩
      · rcases k3 with ⟨a1, a2, a3⟩ | k3
        · refine .inl ⟨a1, a2, fun x hx he => ?_⟩
          obtain ⟨b', hb', e⟩ := hg x hx
          exact a3 b' hb' (e.trans he)
        · exact .inr k3
section
variable {P : Program} {ops : Array Oper} {W : World} {ord : List Nat} {Q : (World → Prop) → Act → Prop} {j : Nat} {rest : List (Nat × Oper)} {F : World → Prop} {U : Nat → Prop} {a : Act} {dst : Option Tmp} {op : Op} {ty : TypeId} {pos : String} {after : Array Edge} {guard : Option (Nat × Bool)}
theorem J_val (v : Value) (hc : ∀ w', (Region.wanted ⟨dst, op, ty, pos, after, guard⟩ (yielded ops a.tmps), (execOp a.eval ⟨dst, op, ty, pos, after, guard⟩).run P w') = (true, .ok (.value v) w')) (h : WlJ P ops W ord Q rest F U (a.put dst (v))) : WlJ P ops W ord Q ((j, ⟨dst, op, ty, pos, after, guard⟩) :: rest) F U a :=
  ⟨.inl ⟨v, .inl ⟨(Prod.mk.inj (hc W)).1, fun w' _ => by rw [(Prod.mk.inj (hc w')).2]; exact ⟨rfl, rfl⟩⟩, h.out⟩⟩
theorem J_load (i off : Nat) (v : Value) {w0 : Base} {L : List Blk} {t : TypeId} {x : Operand} (hM : St w0 L W)
    (hc : (Region.wanted ⟨dst, .load t x, ty, pos, after, guard⟩ (yielded ops a.tmps), a.eval x, L[i]?, ldVal P t (bAt L i).c off) = (true, .pointer (some ⟨(bAt L i).g, off, none⟩), some (bAt L i), some v)) (h : WlJ P ops W ord Q rest F U (a.put dst (v))) : WlJ P ops W ord Q ((j, ⟨dst, .load t x, ty, pos, after, guard⟩) :: rest) F U a := by
  simp only [Prod.mk.injEq] at hc
  obtain ⟨h1, h2, h3, h4⟩ := hc
  refine ⟨.inl ⟨v, .inl ⟨h1, fun w' hb => ?_⟩, h.out⟩⟩
  have hr := run_ld (P := P) ((hM.get h3).stay hb) h4
  simp [execOp, Instr.loadAt, Instr.sureAddr, h2, hr, plainUpon]
theorem J_fresh (m : Option Nat) (c : Array Value) (T : TypeId) {N : List Blk} {w0 : Base} {M' : List (Option Addr × List Value)} (hL : LedN W F U N w0 M') (hf : (isFresh ⟨dst, op, ty, pos, after, guard⟩, Region.wanted ⟨dst, op, ty, pos, after, guard⟩ (yielded ops a.tmps)) = (true, true))
    (hc : ∀ w', (execOp a.eval ⟨dst, op, ty, pos, after, guard⟩).run P w' = .ok (.value (fval m w'.heap.size)) (w'.alloc (.cells c T))) (h : ∀ g F U, LedN W F U (⟨g, c, T, (0, 0), true⟩ :: N) w0 M' → WlJ P ops W ord Q rest F U (a.put dst (fval m g))) : WlJ P ops W ord Q ((j, ⟨dst, op, ty, pos, after, guard⟩) :: rest) F U a := by
  simp only [Prod.mk.injEq] at hf
  exact ⟨.inr (.inr (.inl ⟨hf.1, hf.2, m, _, fun w' _ => hc w', fun g h1 h2 => (h g _ _ (hL.fresh h1 h2 c T)).out⟩))⟩
theorem J_store (i off : Nat) (c' : Array Value) {w0 : Base} {L N : List Blk} {M' : List (Option Addr × List Value)} {t : TypeId} {x y : Operand} (hM : St w0 L W) (hL : LedN W F U N w0 M') (hd : (depE4 ops ord j && isStore ⟨dst, .store t x y, ty, pos, after, guard⟩) = true)
    (hc : (Region.wanted ⟨dst, .store t x y, ty, pos, after, guard⟩ (yielded ops a.tmps), a.eval x, N[i]?, stVal P t (bAt N i).c off (a.eval y)) = (true, .pointer (some ⟨(bAt N i).g, off, none⟩), some (bAt N i), some c'))
    (h : ∀ F, LedN W F U (setB N i c') w0 M' → WlJ P ops W ord Q rest F U (a.put dst undef)) : WlJ P ops W ord Q ((j, ⟨dst, .store t x y, ty, pos, after, guard⟩) :: rest) F U a := by
  simp only [Prod.mk.injEq] at hc
  obtain ⟨h1, h2, h3, h4⟩ := hc
  rw [Bool.and_eq_true] at hd
  obtain ⟨o1, o2⟩ := hL.own _ (List.mem_of_getElem? h3)
  refine ⟨.inr (.inr (.inr ⟨hd.1, hd.2, h1, (bAt N i).g, (bAt N i).c, c', (bAt N i).T, o1, hL.u _ (List.mem_of_getElem? h3), fun w' hF => ?_, fun w' hb hg => ?_, (h _ (hL.put hM h3 c')).out⟩))⟩
  · have := hL.has w' hF _ (List.mem_of_getElem? h3)
    unfold Blk.obj at this
    rw [o2] at this
    exact this
  · have hr := run_st (P := P) hg h4
    simp [execOp, Instr.storeAt, Instr.sureAddr, h2, hr]
theorem J_callN (e : Bool × List Int) (S : List (Option Addr × List Value)) {w0 : Base} {L N : List Blk} {M' : List (Option Addr × List Value)} (hM : St w0 L W) (hL : LedN W F U N w0 M') {f : FuncId} {args : Array Value}
    (K : ∀ w', St ⟨w0.w, w0.S, M' ++ w0.M⟩ (N ++ L) w' → Calls P f args w' (RetN w' S e)) (hS : ∀ m ∈ S, m ∈ M' ++ w0.M)
    (hd : (depE4 ops ord j && isCall ⟨dst, op, ty, pos, after, guard⟩) = true) (hc : ∀ w', (Region.wanted ⟨dst, op, ty, pos, after, guard⟩ (yielded ops a.tmps), (execOp a.eval ⟨dst, op, ty, pos, after, guard⟩).run P w') = (true, .ok (.enter f args) w'))
    (h : ∀ r, e = r → ∀ A cap, r.2.length ≤ cap → ∀ F U, LedN W F U N w0 ((A, nv r.2) :: M') → WlJ P ops W ord Q rest F U (a.put dst (.agg #[.bool r.1, .slice A (List.length r.2) cap]))) : WlJ P ops W ord Q ((j, ⟨dst, op, ty, pos, after, guard⟩) :: rest) F U a := by
  rw [Bool.and_eq_true] at hd
  refine ⟨.inr (.inl ⟨hd.1, hd.2, (Prod.mk.inj (hc W)).1, Option Addr × Nat × Option Nat, AdmN S e, valN e, fun p y => p.2.2 = some y, FactN e,
    fun M => ⟨_, AdmN.any S e M, fun y hy => some_le hy⟩, fun p => ends_some _, FactN.stay e, fun w' hb hF => ?_, fun p ha hp => ?_⟩)⟩
  · rw [(Prod.mk.inj (hc w')).2]
    refine ⟨rfl, (K w' (hL.st hM hb hF)).mono fun e' w2 hr => ?_⟩
    obtain ⟨A, cap, rfl, q1, q2, q3⟩ := hr
    obtain ⟨g, k1, k2, k3⟩ := outN q1 q3
    exact ⟨(A, cap, g), k1, rfl, q2, k2, k3⟩
  · exact (h e rfl p.1 p.2.1 ha.1 _ _ (hL.knowN ha hp hS fun _ h => h)).out
theorem J_callNN (e : (Bool × List Int) × (Bool × List Int)) (S : List (Option Addr × List Value)) {w0 : Base} {L N : List Blk} {M' : List (Option Addr × List Value)} (hM : St w0 L W) (hL : LedN W F U N w0 M') {f : FuncId} {args : Array Value}
    (K : ∀ w', St ⟨w0.w, w0.S, M' ++ w0.M⟩ (N ++ L) w' → Calls P f args w' (RetNN w' S e)) (hS : ∀ m ∈ S, m ∈ M' ++ w0.M)
    (hd : (depE4 ops ord j && isCall ⟨dst, op, ty, pos, after, guard⟩) = true) (hc : ∀ w', (Region.wanted ⟨dst, op, ty, pos, after, guard⟩ (yielded ops a.tmps), (execOp a.eval ⟨dst, op, ty, pos, after, guard⟩).run P w') = (true, .ok (.enter f args) w'))
    (h : ∀ r, e = r → ∀ A cap A' cap', r.1.2.length ≤ cap → r.2.2.length ≤ cap' → ∀ F U, LedN W F U N w0 ((A, nv r.1.2) :: (A', nv r.2.2) :: M') → WlJ P ops W ord Q rest F U (a.put dst (.tuple #[.agg #[.bool r.1.1, .slice A (List.length r.1.2) cap], .agg #[.bool r.2.1, .slice A' (List.length r.2.2) cap']]))) : WlJ P ops W ord Q ((j, ⟨dst, op, ty, pos, after, guard⟩) :: rest) F U a := by
  rw [Bool.and_eq_true] at hd
  refine ⟨.inr (.inl ⟨hd.1, hd.2, (Prod.mk.inj (hc W)).1, (Option Addr × Nat × Option Nat) × (Option Addr × Nat × Option Nat), fun p => AdmN S e.1 p.1 ∧ AdmN S e.2 p.2, fun p => .tuple #[valN e.1 p.1, valN e.2 p.2], fun p y => p.1.2.2 = some y ∨ p.2.2.2 = some y, fun p w => FactN e.1 p.1 w ∧ FactN e.2 p.2 w,
    fun M => ⟨(_, _), ⟨AdmN.any S e.1 M, AdmN.any S e.2 M⟩, fun y hy => by rcases hy with hy | hy <;> exact some_le hy⟩, fun p => (ends_some _).or (ends_some _), fun p w1 w2 hb hp => ⟨FactN.stay _ _ _ _ hb hp.1, FactN.stay _ _ _ _ hb hp.2⟩, fun w' hb hF => ?_, fun p ha hp => ?_⟩)⟩
  · rw [(Prod.mk.inj (hc w')).2]
    refine ⟨rfl, (K w' (hL.st hM hb hF)).mono fun e' w2 hr => ?_⟩
    obtain ⟨A, cap, A', cap', rfl, q1, q1', q2, q3, q3'⟩ := hr
    obtain ⟨g, k1, k2, k3⟩ := outN q1 q3
    obtain ⟨g', k1', k2', k3'⟩ := outN q1' q3'
    exact ⟨((A, cap, g), (A', cap', g')), ⟨k1, k1'⟩, rfl, q2, fun y hy => by rcases hy with hy | hy; exact k2 y hy; exact k2' y hy, k3, k3'⟩
  · have l1 := hL.knowN ha.1 (fun y hy => hp y (.inl hy)) hS (F' := fun w' => F w' ∧ FactN e.1 p.1 w' ∧ FactN e.2 p.2 w') fun _ h => ⟨h.1, h.2.1⟩
    have l2 := hL.knowN ha.2 (fun y hy => hp y (.inr hy)) hS (F' := fun w' => F w' ∧ FactN e.1 p.1 w' ∧ FactN e.2 p.2 w') fun _ h => ⟨h.1, h.2.2⟩
    have m1 := l1.same (F' := fun w' => F w' ∧ FactN e.1 p.1 w' ∧ FactN e.2 p.2 w') (U' := fun y => U y ∨ (p.1.2.2 = some y ∨ p.2.2.2 = some y)) (fun _ h => h) (fun y h => by rcases h with h | h; exact .inl h; exact .inr (.inl h))
    have m2 := l2.same (F' := fun w' => F w' ∧ FactN e.1 p.1 w' ∧ FactN e.2 p.2 w') (U' := fun y => U y ∨ (p.1.2.2 = some y ∨ p.2.2.2 = some y)) (fun _ h => h) (fun y h => by rcases h with h | h; exact .inl h; exact .inr (.inr h))
    refine (h e rfl p.1.1 p.1.2.1 p.2.1 p.2.2.1 ha.1.1 ha.2.1 _ _ ⟨m1.has, m1.u, m1.nd, m1.own, fun m hm => ?_⟩).out
    rcases List.mem_cons.1 hm with rfl | hm
    · exact m1.num _ (List.mem_cons_self ..)
    · exact m2.num m hm
theorem J_nil {X : Act → World → Prop} {w0 : Base} {L N : List Blk} {M' : List (Option Addr × List Value)} (hM : St w0 L W) (hL : LedN W F U N w0 M') (h : ∀ w', St ⟨w0.w, w0.S, M' ++ w0.M⟩ (N ++ L) w' → X a w') : WlJ P ops W ord (fun F a' => ∀ w', Below W.heap.size W w' → F w' → X a' w') [] F U a :=
  ⟨fun w' hb hF => h w' (hL.st hM hb hF)⟩
end
theorem R_drawJ {P : Program} {fn : Func} {R : Ending → World → Prop} {k : List Item} {a : Act} {w : World} (w0 : Base) (ord : List Nat) {id : Nat} {l : List Oper} (hB : (P.follows .mixedOrders, ordB l.toArray ord, pairO ord ord, Nat.beq ord.length l.length) = (true, true, true, true))
    (h : ∀ F U, LedN w F U [] w0 [] → WlJ P l.toArray w ord (fun F a' => ∀ w', Below w.heap.size w w' → F w' → Run P fn R k a' w') (zipO l.toArray ord) F U a) : Run P fn R (.code (.region id l.toArray true) :: k) a w := by
  simp only [Prod.mk.injEq, Nat.beq_eq] at hB
  refine R_wp (wp_region_fresh4 ord hB.1 hB.2.1 hB.2.2.1 hB.2.2.2 ?_)
  exact WF_of_WLJ ord _ _ _ ⟨0, fun _ h => h.elim⟩ (h (fun _ => True) (fun _ => False) (LedN.start _ _ _ _)).out
end Go.Proofs.Ytognbeejobfpfaa

namespace Go.Proofs.Ytognbeejobfpfaa
open Go.RowKit Go.Sort
set_option linter.unusedVariables false
set_option linter.unusedSimpArgs false

section
variable {P : Program} {ops : Array Oper} {W : World} {ord : List Nat} {Q : (World → Prop) → Act → Prop} {j : Nat} {rest : List (Nat × Oper)} {F : World → Prop} {U : Nat → Prop} {a : Act} {dst : Option Tmp} {op : Op} {ty : TypeId} {pos : String} {after : Array Edge} {guard : Option (Nat × Bool)}
theorem J_skip (hc : Region.wanted ⟨dst, op, ty, pos, after, guard⟩ (yielded ops a.tmps) = false) (h : WlJ P ops W ord Q rest F U (a.put dst (undef))) : WlJ P ops W ord Q ((j, ⟨dst, op, ty, pos, after, guard⟩) :: rest) F U a := ⟨.inl ⟨undef, .inr ⟨hc, rfl⟩, h.out⟩⟩
theorem J_int (n : Int) (κ : IntKind) (hc : ∀ w', (Region.wanted ⟨dst, op, ty, pos, after, guard⟩ (yielded ops a.tmps), (execOp a.eval ⟨dst, op, ty, pos, after, guard⟩).run P w') = (true, .ok (.value (.int κ n)) w')) (h : ∀ m, n = m → WlJ P ops W ord Q rest F U (a.put dst (.int κ m))) : WlJ P ops W ord Q ((j, ⟨dst, op, ty, pos, after, guard⟩) :: rest) F U a := J_val _ hc (h n rfl)
theorem J_dec (p : Prop) [Decidable p] (hc : ∀ w', (Region.wanted ⟨dst, op, ty, pos, after, guard⟩ (yielded ops a.tmps), (execOp a.eval ⟨dst, op, ty, pos, after, guard⟩).run P w') = (true, .ok (.value (.bool (decide p))) w')) (ht : p → WlJ P ops W ord Q rest F U (a.put dst (.bool true))) (hf : ¬ p → WlJ P ops W ord Q rest F U (a.put dst (.bool false))) : WlJ P ops W ord Q ((j, ⟨dst, op, ty, pos, after, guard⟩) :: rest) F U a := J_val _ hc (by
  by_cases hp : p
  · rw [decide_eq_true hp]; exact ht hp
  · rw [decide_eq_false hp]; exact hf hp)
theorem J_decn (p : Prop) [Decidable p] (hc : ∀ w', (Region.wanted ⟨dst, op, ty, pos, after, guard⟩ (yielded ops a.tmps), (execOp a.eval ⟨dst, op, ty, pos, after, guard⟩).run P w') = (true, .ok (.value (.bool (!decide p))) w')) (ht : ¬ p → WlJ P ops W ord Q rest F U (a.put dst (.bool true))) (hf : p → WlJ P ops W ord Q rest F U (a.put dst (.bool false))) : WlJ P ops W ord Q ((j, ⟨dst, op, ty, pos, after, guard⟩) :: rest) F U a := J_val _ hc (by
  by_cases hp : p
  · rw [decide_eq_true hp]; exact hf hp
  · rw [decide_eq_false hp]; exact ht hp)
theorem J_bool (b : Bool) (hc : ∀ w', (Region.wanted ⟨dst, op, ty, pos, after, guard⟩ (yielded ops a.tmps), (execOp a.eval ⟨dst, op, ty, pos, after, guard⟩).run P w') = (true, .ok (.value (.bool b)) w')) (ht : b = true → WlJ P ops W ord Q rest F U (a.put dst (.bool true))) (hf : b = false → WlJ P ops W ord Q rest F U (a.put dst (.bool false))) : WlJ P ops W ord Q ((j, ⟨dst, op, ty, pos, after, guard⟩) :: rest) F U a := J_val _ hc (by
  cases b
  · exact hf rfl
  · exact ht rfl)
theorem J_loadR {α : Type} (E : α → List Value) (sz : Nat) (d : α) (i : Int) (jj b off : Nat) (v : Value) {l : List α} {t : TypeId} {x : Operand} (hR : Rd E sz W (some ⟨b, off, none⟩) l) (hE : ∀ x, (E x).length = sz) (hi : 0 ≤ i ∧ i < l.length)
    (hc : (Region.wanted ⟨dst, .load t x, ty, pos, after, guard⟩ (yielded ops a.tmps), Nat.blt 0 sz, a.eval x, ldVal P t ⟨E (gd d l i)⟩ jj) = (true, true, .pointer (some ⟨b, off + i.toNat * sz + jj, none⟩), some v))
    (h : WlJ P ops W ord Q rest F U (a.put dst v)) : WlJ P ops W ord Q ((j, ⟨dst, .load t x, ty, pos, after, guard⟩) :: rest) F U a := by
  refine ⟨.inl ⟨v, .inl ⟨(Prod.mk.inj hc).1, fun w' hb => ?_⟩, h.out⟩⟩
  rw [ex_loadR E sz d i jj b off v (hR.stay hb) hE hi (Prod.mk.inj hc).2]
  exact ⟨rfl, rfl⟩
theorem J_idx {t : TypeId} {x y : Operand} (e : TypeId) (sz b off n cap : Nat) (i : Int) (hi : 0 ≤ i ∧ i < (n : Int))
    (hc : (Region.wanted ⟨dst, .indexAddr t x y, ty, pos, after, guard⟩ (yielded ops a.tmps), a.eval x, a.eval y, elSize P t) = (true, .slice (some ⟨b, off, none⟩) n cap, .int .i64 i, some (e, sz)))
    (h : WlJ P ops W ord Q rest F U (a.put dst (.pointer (some ⟨b, off + i.toNat * sz, none⟩)))) : WlJ P ops W ord Q ((j, ⟨dst, .indexAddr t x y, ty, pos, after, guard⟩) :: rest) F U a :=
  J_val _ (fun w => Prod.ext (Prod.mk.inj hc).1 (ex_idx hi (Prod.mk.inj hc).2 w)) h
theorem J_call {β : Type} (e : β) (enc : β → Value) {w0 : Base} {L N : List Blk} {M' : List (Option Addr × List Value)} (hM : St w0 L W) (hL : LedN W F U N w0 M') {f : FuncId} {args : Array Value} (K : ∀ w', St ⟨w0.w, w0.S, M' ++ w0.M⟩ (N ++ L) w' → Calls P f args w' (Ret (enc e) w'))
    (hd : (depE4 ops ord j && isCall ⟨dst, op, ty, pos, after, guard⟩) = true) (hc : ∀ w', (Region.wanted ⟨dst, op, ty, pos, after, guard⟩ (yielded ops a.tmps), (execOp a.eval ⟨dst, op, ty, pos, after, guard⟩).run P w') = (true, .ok (.enter f args) w'))
    (h : ∀ r, e = r → ∀ F U, LedN W F U N w0 M' → WlJ P ops W ord Q rest F U (a.put dst (enc r))) : WlJ P ops W ord Q ((j, ⟨dst, op, ty, pos, after, guard⟩) :: rest) F U a := by
  rw [Bool.and_eq_true] at hd
  refine ⟨.inr (.inl ⟨hd.1, hd.2, (Prod.mk.inj (hc W)).1, Unit, fun _ => True, fun _ => enc e, fun _ _ => False, fun _ _ => True, fun _ => ⟨(), trivial, fun y hy => hy.elim⟩, fun _ => ⟨0, fun _ h => h.elim⟩, fun _ _ _ _ _ => trivial, fun w' hb hF => ?_, fun p _ _ => (h e rfl _ _ (hL.same (fun _ h => h.1) (fun _ h => .inl h))).out⟩)⟩
  rw [(Prod.mk.inj (hc w')).2]
  exact ⟨rfl, (K w' (hL.st hM hb hF)).mono fun e' w2 ⟨he, hb2⟩ => ⟨(), trivial, he, hb2, fun y hy => hy.elim, trivial⟩⟩
end
end Go.Proofs.Ytognbeejobfpfaa

namespace Go.Proofs.Ytognbeejobfpfaa
open Go.RowKit Go.Sort
set_option linter.unusedVariables false
set_option linter.unusedSimpArgs false

theorem R_join1 {P : Program} {fn : Func} {R : Ending → World → Prop} {k : List Item} {a : Act} {w : World} {c1 c2 : Code} (I : Act → World → Prop) (h2 : ∀ a' w', I a' w' → Run P fn R (.code c2 :: k) a' w')
    (h1 : (∀ a' w', I a' w' → Run P fn R (.code c2 :: k) a' w') → Run P fn R (.code c1 :: .code c2 :: k) a w) : Run P fn R (.code (c1.seq c2) :: k) a w := R_seq (h1 h2)
theorem R_join2 {P : Program} {fn : Func} {R : Ending → World → Prop} {k : List Item} {a : Act} {w : World} {c1 c2 c3 : Code} (I : Act → World → Prop) (h2 : ∀ a' w', I a' w' → Run P fn R (.code c3 :: k) a' w')
    (h1 : (∀ a' w', I a' w' → Run P fn R (.code c3 :: k) a' w') → Run P fn R (.code c1 :: .code (c2.seq c3) :: k) a w) : Run P fn R (.code (c1.seq (c2.seq c3)) :: k) a w := R_seq (h1 h2)
end Go.Proofs.Ytognbeejobfpfaa
