/- As XFresh3, over a whole region, in any order that the region's edges allow, with stores into its own blocks. No program is named here. -/
import Derived.Test.YtognbeejobfpfaaFresh3
import Derived.Laws.CopyRow
namespace Go.Proofs.Ytognbeejobfpfaa
open Go.RowKit Go.Sort
set_option linter.unusedVariables false
set_option linter.unusedSimpArgs false

def retUponE4 (P : Program) {ι : Type} (adm : ι → Prop) (val : ι → Value) (blk : ι → Nat → Prop) (Φ : ι → World → Prop) (w : World) : Result Next → Prop
  | .ok (.value u) w2 => ∃ p, adm p ∧ u = val p ∧ Below w.heap.size w w2 ∧ (∀ y, blk p y → w.heap.size ≤ y ∧ y < w2.heap.size) ∧ Φ p w2
  | .ok (.enter f args) w' => w' = w ∧ Calls P f args w (fun e w2 => ∃ p, adm p ∧ e = .returned (val p) ∧ Below w.heap.size w w2 ∧ (∀ y, blk p y → w.heap.size ≤ y ∧ y < w2.heap.size) ∧ Φ p w2)
  | _ => False
theorem Ends.or {U V : Nat → Prop} (h : Ends U) (h' : Ends V) : Ends (fun y => U y ∨ V y) := by
  obtain ⟨M, hM⟩ := h
  obtain ⟨N, hN⟩ := h'
  exact ⟨max M N, fun x hx => by rcases hx with hx | hx; have := hM x hx; omega; have := hN x hx; omega⟩
def before (ord : List Nat) (j : Nat) : List Nat := ord.takeWhile fun i => !Nat.beq i j
def waitO (ops : Array Oper) (ord : List Nat) (p : Oper → Bool) (j : Nat) : Bool := (before ord j).all fun i => match ops[i]? with
  | none => true
  | some o => !p o || reachB ops ops.size j i
def depE4 (ops : Array Oper) (ord : List Nat) (j : Nat) : Bool := waitO ops ord (fun o => isFresh o || isStore o || isCall o) j
def ordB (ops : Array Oper) (ord : List Nat) : Bool :=
  Region.noSelect ops && (ord.all fun i => Nat.blt i ops.size) && ((List.range ops.size).all fun i => ord.contains i) &&
  (ord.all fun j => (before ord j).all fun i => Region.waitsFor .any ops j i || (match ops[i]?, ops[j]? with | some oi, some oj => oi.apart ops oj | _, _ => false)) &&
  (ord.all fun j => match ops[j]? with | some o => o.after.all fun e => !Region.binds .any e || (before ord j).contains e.on | none => false) &&
  (ord.all fun j => (before ord j).all fun i => !(before ord i).contains j)
def pairO (ord : List Nat) : List Nat → Bool
  | [] => true
  | i :: l => (l.all fun j => (before ord j).contains i) && pairO ord l
theorem pairO_pw (ord : List Nat) : ∀ l, pairO ord l = true → l.Pairwise fun i j => i ∈ before ord j
  | [], _ => List.Pairwise.nil
  | i :: l, h => by
    unfold pairO at h
    rw [Bool.and_eq_true] at h
    exact List.Pairwise.cons (fun j hj => by simpa using List.all_eq_true.1 h.1 j hj) (pairO_pw ord l h.2)
/-- What is known, with one block's cells turned. -/
def upd (F : World → Prop) (g : Nat) (c c' : Array Value) (T : TypeId) (w : World) : Prop := Has g (.cells c' T) w ∧ F (w.setRow g c)
theorem upd_has {F : World → Prop} {g g1 : Nat} {c c' : Array Value} {T : TypeId} {x : Obj} (h : g1 ≠ g) : (fun w => upd F g c c' T w ∧ Has g1 x w) = upd (fun w => F w ∧ Has g1 x w) g c c' T := by
  funext w
  unfold upd
  have e : Has g1 x (w.setRow g c) = Has g1 x w := by unfold Has; rw [setRow_other w g g1 c h]
  show ((Has g (.cells c' T) w ∧ F (w.setRow g c)) ∧ Has g1 x w) = (Has g (.cells c' T) w ∧ F (w.setRow g c) ∧ Has g1 x (w.setRow g c))
  rw [e]
  exact propext ⟨fun ⟨⟨a, b⟩, c⟩ => ⟨a, b, c⟩, fun ⟨a, b, c⟩ => ⟨⟨a, b⟩, c⟩⟩
theorem upd_stay {F : World → Prop} (h : Stay F) (g : Nat) (c c' : Array Value) (T : TypeId) : Stay (upd F g c c' T) := by
  intro w1 w2 hb ⟨h1, h2⟩
  refine ⟨h1.stay hb, h _ _ ?_ h2⟩
  have h1' := h1.stay hb
  refine ⟨hb.os, hb.tape, hb.output, by simpa using hb.size, fun b hlt => ?_⟩
  by_cases hbg : b = g
  · subst hbg
    rw [setRow_heap w2 b c' c T _ h1', setRow_heap w1 b c' c T _ h1]
  · rw [setRow_other w2 g b c hbg, setRow_other w1 g b c hbg]
    exact hb.block b (by simpa using hlt)
theorem setRow_back (w : World) (g : Nat) (c c' : Array Value) (T : TypeId) (h : Has g (.cells c T) w) : (w.setRow g c').setRow g c = w := by
  rw [setRow_setRow]
  exact setRow_self w g c T _ h
section
variable {P : Program} {ops : Array Oper} {w0 : World}

/-- One operation: (A) one value in every world that has grown, (E) a call, (C) it lays a block. -/
def StF4 (P : Program) (ops : Array Oper) (w0 : World) (dE dD : Bool) (o : Oper) (F : World → Prop) (U : Nat → Prop) (a : Act) (K : (World → Prop) → (Nat → Prop) → Act → Prop) : Prop :=
  (∃ v, ((Region.wanted o (yielded ops a.tmps) = true ∧ ∀ w', Below w0.heap.size w0 w' → plainUpon w' v ((execOp a.eval o).run P w')) ∨ (Region.wanted o (yielded ops a.tmps) = false ∧ v = undef)) ∧ K F U (a.put o.dst v)) ∨
  (dE = true ∧ isCall o = true ∧ Region.wanted o (yielded ops a.tmps) = true ∧ ∃ (ι : Type) (adm : ι → Prop) (val : ι → Value) (blk : ι → Nat → Prop) (Φ : ι → World → Prop), (∀ M, ∃ p, adm p ∧ ∀ y, blk p y → M ≤ y) ∧ (∀ p, Ends (blk p)) ∧ (∀ p, Stay (Φ p)) ∧
    (∀ w', Below w0.heap.size w0 w' → F w' → retUponE4 P adm val blk Φ w' ((execOp a.eval o).run P w')) ∧
    ∀ p, adm p → (∀ y, blk p y → w0.heap.size ≤ y ∧ ¬ U y) → K (fun w' => F w' ∧ Φ p w') (fun y => U y ∨ blk p y) (a.put o.dst (val p))) ∨
  (isFresh o = true ∧ Region.wanted o (yielded ops a.tmps) = true ∧ ∃ m x, (∀ w', Below w0.heap.size w0 w' → (execOp a.eval o).run P w' = .ok (.value (fval m w'.heap.size)) (w'.alloc x)) ∧
    ∀ g, w0.heap.size ≤ g → ¬ U g → K (fun w' => F w' ∧ Has g x w') (fun y => U y ∨ y = g) (a.put o.dst (fval m g))) ∨
  (dD = true ∧ isStore o = true ∧ Region.wanted o (yielded ops a.tmps) = true ∧ ∃ g c c' T, w0.heap.size ≤ g ∧ U g ∧ (∀ w', F w' → Has g (.cells c T) w') ∧
    (∀ w', Below w0.heap.size w0 w' → Has g (.cells c T) w' → (execOp a.eval o).run P w' = .ok .skip (w'.setRow g c')) ∧ K (upd F g c c' T) U (a.put o.dst undef))

theorem StF4.mono {dE dD : Bool} {o : Oper} {F : World → Prop} {U : Nat → Prop} {a : Act} {K K' : (World → Prop) → (Nat → Prop) → Act → Prop} (hU : Ends U) (hK : ∀ F U a, Ends U → K F U a → K' F U a)
    (h : StF4 P ops w0 dE dD o F U a K) : StF4 P ops w0 dE dD o F U a K' := by
  rcases h with ⟨v, hv, hk⟩ | ⟨hd, hc, hw, ι, adm, val, blk, Φ, h0, he, hs, hv, hk⟩ | ⟨hf, hw, m, x, hv, hk⟩ | ⟨hd, hs, hw, g, c, c', T, h1, h2, h3, h4, hk⟩
  · exact .inl ⟨v, hv, hK _ _ _ hU hk⟩
  · exact .inr (.inl ⟨hd, hc, hw, ι, adm, val, blk, Φ, h0, he, hs, hv, fun p ha hp => hK _ _ _ (hU.or (he p)) (hk p ha hp)⟩)
  · exact .inr (.inr (.inl ⟨hf, hw, m, x, hv, fun g h1 h2 => hK _ _ _ (hU.more g) (hk g h1 h2)⟩))
  · exact .inr (.inr (.inr ⟨hd, hs, hw, g, c, c', T, h1, h2, h3, h4, hK _ _ _ hU hk⟩))

def WF4 (P : Program) (ops : Array Oper) (w0 : World) (ord : List Nat) (Q : (World → Prop) → Act → Prop) : List Nat → (World → Prop) → (Nat → Prop) → Act → Prop
  | [], F, _, a => Q F a
  | j :: js, F, U, a => match ops[j]? with
    | none => WF4 P ops w0 ord Q js F U a
    | some o => StF4 P ops w0 (depE4 ops ord j) (depE4 ops ord j) o F U a (WF4 P ops w0 ord Q js)

/-- Two that are apart may change places. -/
theorem StF4.swap {iE iD jE jD : Bool} {oi oj : Oper} {F : World → Prop} {U : Nat → Prop} {a : Act} {K : (World → Prop) → (Nat → Prop) → Act → Prop} (hap : oi.apart ops oj = true)
    (hsi : ∀ cs b, oi.op ≠ .select cs b) (hsj : ∀ cs b, oj.op ≠ .select cs b) (hdE : (isFresh oi || isStore oi || isCall oi) = true → jE = false ∧ jD = false) (hU : Ends U)
    (h : StF4 P ops w0 iE iD oi F U a (fun F U a => StF4 P ops w0 jE jD oj F U a K)) : StF4 P ops w0 jE jD oj F U a (fun F U a => StF4 P ops w0 iE iD oi F U a K) := by
  obtain ⟨h1, h2, h3⟩ := Oper.apart_spec hap
  have ej : ∀ v, execOp (a.put oi.dst v).eval oj = execOp a.eval oj := fun v => execOp_put oj hsj a oi.dst v h1
  have wj : ∀ v, Region.wanted oj (yielded ops (a.put oi.dst v).tmps) = Region.wanted oj (yielded ops a.tmps) := fun v => wanted_put oj a oi.dst v h1
  have ei : ∀ v, execOp (a.put oj.dst v).eval oi = execOp a.eval oi := fun v => execOp_put oi hsi a oj.dst v h3
  have wi : ∀ v, Region.wanted oi (yielded ops (a.put oj.dst v).tmps) = Region.wanted oi (yielded ops a.tmps) := fun v => wanted_put oi a oj.dst v h3
  have ec : ∀ v u, (a.put oi.dst v).put oj.dst u = (a.put oj.dst u).put oi.dst v := fun v u => Act.put_comm a v u h2
  rcases h with ⟨v, hv, hk⟩ | ⟨hdi, hci, hw, ι, adm, val, blk, Φ, h0, he, hst, hv, hk⟩ | ⟨hf, hw, m, x, hv, hk⟩ | ⟨hdi, hsi', hw, g0, c, c', T, q2, q3, q4, q5, hk⟩
  · -- a value
    have hv' : ∀ u, (Region.wanted oi (yielded ops (a.put oj.dst u).tmps) = true ∧ ∀ w', Below w0.heap.size w0 w' → plainUpon w' v ((execOp (a.put oj.dst u).eval oi).run P w')) ∨ (Region.wanted oi (yielded ops (a.put oj.dst u).tmps) = false ∧ v = undef) := fun u => by rw [ei, wi]; exact hv
    rcases hk with ⟨u, hu, hk⟩ | ⟨hdj, hcj, hwj, ι, adm, val, blk, Φ, h0, he, hst, hu, hk⟩ | ⟨hf, hwj, m, x, hu, hk⟩ | ⟨hdj, hs, hwj, g0, c, c', T, q2, q3, q4, q5, hk⟩
    · rw [ej, wj] at hu; exact .inl ⟨u, hu, .inl ⟨v, hv' u, by rw [← ec]; exact hk⟩⟩
    · rw [wj] at hwj; rw [ej] at hu; exact .inr (.inl ⟨hdj, hcj, hwj, ι, adm, val, blk, Φ, h0, he, hst, hu, fun p ha hp => .inl ⟨v, hv' _, by rw [← ec]; exact hk p ha hp⟩⟩)
    · rw [wj] at hwj; exact .inr (.inr (.inl ⟨hf, hwj, m, x, fun w' hb => by have := hu w' hb; rwa [ej] at this, fun g g1 g2 => .inl ⟨v, hv' _, by rw [← ec]; exact hk g g1 g2⟩⟩))
    · rw [wj] at hwj; rw [ej] at q5; exact .inr (.inr (.inr ⟨hdj, hs, hwj, g0, c, c', T, q2, q3, q4, q5, .inl ⟨v, hv' _, by rw [← ec]; exact hk⟩⟩))
  · -- a call
    obtain ⟨hdE', hdD'⟩ := hdE (by simp [hci])
    have hv' : ∀ u w', Below w0.heap.size w0 w' → F w' → retUponE4 P adm val blk Φ w' ((execOp (a.put oj.dst u).eval oi).run P w') := fun u w' hb hF => by rw [ei]; exact hv w' hb hF
    have hw' : ∀ u, Region.wanted oi (yielded ops (a.put oj.dst u).tmps) = true := fun u => by rw [wi]; exact hw
    obtain ⟨M, hM⟩ := hU
    obtain ⟨p0, ha0, hp0⟩ := h0 (max M w0.heap.size)
    rcases hk p0 ha0 (fun y hy => ⟨by have := hp0 y hy; omega, fun h => by have := hM y h; have := hp0 y hy; omega⟩) with ⟨u, hu, -⟩ | ⟨hdj, -⟩ | ⟨hfj, hwj, mj, xj, hu, -⟩ | ⟨hdj, -⟩
    · rw [ej, wj] at hu
      refine .inl ⟨u, hu, .inr (.inl ⟨hdi, hci, hw' u, ι, adm, val, blk, Φ, h0, he, hst, hv' u, fun p ha hp => ?_⟩)⟩
      rw [← ec]
      rcases hk p ha hp with ⟨u', hu', hk'⟩ | ⟨hdj, -⟩ | ⟨hfj, hwj, mj, xj, hu', -⟩ | ⟨hdj, -⟩
      · rw [ej, wj] at hu'
        rw [val_one hu hu']; exact hk'
      · rw [hdE'] at hdj; cases hdj
      · exfalso
        rw [wj] at hwj; rw [ej] at hu'
        exact plain_block hu hwj hu'
      · rw [hdD'] at hdj; cases hdj
    · rw [hdE'] at hdj; cases hdj
    · rw [wj] at hwj; rw [ej] at hu
      refine .inr (.inr (.inl ⟨hfj, hwj, mj, xj, hu, fun g k1 k2 => .inr (.inl ⟨hdi, hci, hw' _, ι, adm, val, blk, Φ, h0, he, hst, fun w' hb hF => hv' _ w' hb hF.1, fun p ha hp => ?_⟩)⟩))
      rw [← ec]
      have hp' : ∀ y, blk p y → w0.heap.size ≤ y ∧ ¬ U y := fun y hy => ⟨(hp y hy).1, fun h => (hp y hy).2 (.inl h)⟩
      rcases hk p ha hp' with ⟨u', hu', hk'⟩ | ⟨hdj, -⟩ | ⟨-, hwj', mj', xj', hu', hk'⟩ | ⟨hdj, -⟩
      · exfalso
        rw [ej, wj] at hu'
        exact plain_block hu' hwj hu
      · rw [hdE'] at hdj; cases hdj
      · rw [ej] at hu'
        obtain ⟨rfl, rfl⟩ := block_one hu hu'
        have := hk' g k1 (fun h => by
          rcases h with h | h
          · exact k2 h
          · exact (hp g h).2 (.inr rfl))
        rw [F_swap F (Φ p) (Has g xj), U_swap U (blk p) (fun y => y = g)] at this
        exact this
      · rw [hdD'] at hdj; cases hdj
    · rw [hdD'] at hdj; cases hdj
  · -- a block
    obtain ⟨hdE', hdD'⟩ := hdE (by simp [hf])
    obtain ⟨M, hM⟩ := hU
    have g1 : w0.heap.size ≤ max M w0.heap.size := by omega
    have g2 : ¬ U (max M w0.heap.size) := fun h => by have := hM _ h; omega
    have hv' : ∀ u w', Below w0.heap.size w0 w' → (execOp (a.put oj.dst u).eval oi).run P w' = .ok (.value (fval m w'.heap.size)) (w'.alloc x) := fun u w' hb => by rw [ei]; exact hv w' hb
    have hw' : ∀ u, Region.wanted oi (yielded ops (a.put oj.dst u).tmps) = true := fun u => by rw [wi]; exact hw
    rcases hk _ g1 g2 with ⟨u, hu, -⟩ | ⟨hdj, -⟩ | ⟨hfj, hwj, mj, xj, hu, -⟩ | ⟨hdj, -⟩
    · rw [ej, wj] at hu
      refine .inl ⟨u, hu, .inr (.inr (.inl ⟨hf, hw' u, m, x, hv' u, fun g k1 k2 => ?_⟩))⟩
      rw [← ec]
      rcases hk g k1 k2 with ⟨u', hu', hk'⟩ | ⟨hdj, -⟩ | ⟨hfj, hwj, mj, xj, hu', -⟩ | ⟨hdj, -⟩
      · rw [ej, wj] at hu'
        rw [val_one hu hu']; exact hk'
      · rw [hdE'] at hdj; cases hdj
      · exfalso
        rw [wj] at hwj; rw [ej] at hu'
        exact plain_block hu hwj hu'
      · rw [hdD'] at hdj; cases hdj
    · rw [hdE'] at hdj; cases hdj
    · rw [wj] at hwj; rw [ej] at hu
      refine .inr (.inr (.inl ⟨hfj, hwj, mj, xj, hu, fun gj k1 k2 => .inr (.inr (.inl ⟨hf, hw' _, m, x, hv' _, fun gi l1 l2 => ?_⟩))⟩))
      rw [← ec]
      rcases hk gi l1 (fun h => l2 (.inl h)) with ⟨u', hu', hk'⟩ | ⟨hdj, -⟩ | ⟨-, hwj', mj', xj', hu', hk'⟩ | ⟨hdj, -⟩
      · exfalso
        rw [ej, wj] at hu'
        exact plain_block hu' hwj hu
      · rw [hdE'] at hdj; cases hdj
      · rw [ej] at hu'
        obtain ⟨rfl, rfl⟩ := block_one hu hu'
        have := hk' gj k1 (fun h => by rcases h with h | h; exact k2 h; exact l2 (.inr h.symm))
        rw [F_swap F (Has gi x) (Has gj xj), U_swap U (fun y => y = gi) (fun y => y = gj)] at this
        exact this
      · rw [hdD'] at hdj; cases hdj
    · rw [hdD'] at hdj; cases hdj
  · -- a store
    obtain ⟨hdE', hdD'⟩ := hdE (by simp [hsi'])
    have hw' : ∀ u, Region.wanted oi (yielded ops (a.put oj.dst u).tmps) = true := fun u => by rw [wi]; exact hw
    have q5' : ∀ u w', Below w0.heap.size w0 w' → Has g0 (.cells c T) w' → (execOp (a.put oj.dst u).eval oi).run P w' = .ok .skip (w'.setRow g0 c') := fun u w' hb hh => by rw [ei]; exact q5 w' hb hh
    rcases hk with ⟨u, hu, hk⟩ | ⟨hdj, -⟩ | ⟨hfj, hwj, m, x, hu, hk⟩ | ⟨hdj, -⟩
    · rw [ej, wj] at hu
      exact .inl ⟨u, hu, .inr (.inr (.inr ⟨hdi, hsi', hw' u, g0, c, c', T, q2, q3, q4, q5' u, by rw [← ec]; exact hk⟩))⟩
    · rw [hdE'] at hdj; cases hdj
    · rw [wj] at hwj; rw [ej] at hu
      refine .inr (.inr (.inl ⟨hfj, hwj, m, _, hu, fun g k1 k2 => .inr (.inr (.inr ⟨hdi, hsi', hw' _, g0, c, c', T, q2, .inl q3, fun w' hF => q4 w' hF.1, q5' _, ?_⟩))⟩))
      rw [← ec]
      have := hk g k1 k2
      rw [upd_has (fun e => k2 (by rw [e]; exact q3))] at this
      exact this
    · rw [hdD'] at hdj; cases hdj

/-- Any operation that none ahead of it holds back may be taken first. -/
theorem WF4.first {ord : List Nat} {Q : (World → Prop) → Act → Prop} {j : Nat} {oj : Oper} {post : List Nat} (hj : ops[j]? = some oj) (hsel : ∀ (j : Nat) (o : Oper) cs b, ops[j]? = some o → o.op ≠ .select cs b) :
    ∀ (pre : List Nat) (F : World → Prop) (U : Nat → Prop) (a : Act), Ends U → (∀ i ∈ pre, ∀ oi, ops[i]? = some oi → oi.apart ops oj = true ∧ ((isFresh oi || isStore oi || isCall oi) = true → depE4 ops ord j = false ∧ depE4 ops ord j = false)) →
    WF4 P ops w0 ord Q (pre ++ j :: post) F U a → StF4 P ops w0 (depE4 ops ord j) (depE4 ops ord j) oj F U a (WF4 P ops w0 ord Q (pre ++ post))
  | [], F, U, a, hU, hp, h => by
    simp only [List.nil_append, WF4, hj] at h
    exact h
  | i :: pre, F, U, a, hU, hp, h => by
    simp only [List.cons_append, WF4] at h
    cases hi : ops[i]? with
    | none =>
      simp only [hi] at h
      have := WF4.first hj hsel pre F U a hU (fun k hk => hp k (List.mem_cons_of_mem _ hk)) h
      refine this.mono hU fun F U a _ hh => ?_
      simp only [List.cons_append, WF4, hi]
      exact hh
    | some oi =>
      simp only [hi] at h
      obtain ⟨h1, hE⟩ := hp i (List.mem_cons_self ..) oi hi
      have h' := h.mono hU (fun F U a hU hh => WF4.first hj hsel pre F U a hU (fun k hk => hp k (List.mem_cons_of_mem _ hk)) hh)
      have := h'.swap h1 (fun cs b => hsel i oi cs b hi) (fun cs b => hsel j oj cs b hj) hE hU
      refine this.mono hU fun F U a _ hh => ?_
      simp only [List.cons_append, WF4, hi]
      exact hh

theorem before_irr {ord : List Nat} {j : Nat} (h : j ∈ before ord j) : False := by
  unfold before at h
  have : ∀ (l : List Nat), j ∈ l.takeWhile (fun i => !Nat.beq i j) → False := by
    intro l
    induction l with
    | nil => intro h; cases h
    | cons a l ih =>
      intro h
      rw [List.takeWhile_cons] at h
      split at h
      · rename_i ha
        rcases List.mem_cons.1 h with h | h
        · subst h; simp at ha
        · exact ih h
      · cases h
  exact this ord h
theorem any_of_WF4 {ord : List Nat} {Q : (World → Prop) → Act → Prop} {Q' : Exit → Act → World → Prop} (hB : ordB ops ord = true) (hpw : pairO ord ord = true)
    (hfin : ∀ F a w', Below w0.heap.size w0 w' → F w' → Q F a → wpAny P .any ops Q' 0 (Array.replicate ops.size true) a w') :
    ∀ (m : Nat) (js : List Nat) (listed : Array Bool) (a : Act) (w' : World) (F : World → Prop) (U : Nat → Prop), js.length = m → HeadInv .any ops ops.size listed → (∀ i, i ∈ js ↔ i < ops.size ∧ listed.getD i true = false) → js.Sublist ord →
    Below w0.heap.size w0 w' → F w' → Stay F → (∀ x, U x → x < w'.heap.size) → WF4 P ops w0 ord Q js F U a → wpAny P .any ops Q' m listed a w' := by
  unfold ordB at hB
  simp only [Bool.and_eq_true] at hB
  obtain ⟨⟨⟨⟨⟨hsel, hlt⟩, hall0⟩, hpair⟩, hback⟩, hasym⟩ := hB
  have hsel' := Region.noSelect_spec hsel
  have hpw' := pairO_pw ord ord hpw
  have hltn : ∀ i ∈ ord, i < ops.size := fun i hi => by have := List.all_eq_true.1 hlt i hi; simp [Nat.blt] at this; omega
  have hin : ∀ i, i < ops.size → i ∈ ord := fun i hi => by have := List.all_eq_true.1 hall0 i (List.mem_range.2 hi); simpa using this
  have hbef : ∀ j i, i ∈ before ord j → i ∈ ord := fun j i h => List.IsPrefix.mem h (List.takeWhile_prefix _)
  intro m
  induction m with
  | zero =>
    intro js listed a w' F U hm inv hjs hso hb hF hst hU h
    obtain rfl : js = [] := List.length_eq_zero_iff.1 hm
    have hl : listed = Array.replicate ops.size true := by
      apply Array.ext
      · simp [inv.size]
      · intro i h1 h2
        have : ¬ (i < ops.size ∧ listed.getD i true = false) := fun h => by have := (hjs i).2 h; cases this
        simp only [Array.getElem_replicate]
        have h3 : ¬ listed.getD i true = false := fun h => this ⟨by simpa using h2, h⟩
        simpa [h1] using h3
    rw [hl]
    exact hfin F a w' hb hF h
  | succ m ih =>
    intro js listed a w' F U hm inv hjs hso hb hF hst hU h
    cases hk : js with
    | nil => rw [hk] at hm; cases hm
    | cons k js' =>
    have hkn := (hjs k).1 (by rw [hk]; simp)
    have hpj := hpw'.sublist hso
    have hkr : k ∈ Region.ready .any ops listed := by
      have hks : k < ops.size := hkn.1
      refine mem_ready.2 ⟨hkn.2, ops[k], by simp [hks], fun e he hbi => ?_⟩
      have h1 := List.all_eq_true.1 hback k (hin k hks)
      have hsome : ops[k]? = some ops[k] := by simp [hks]
      simp only [hsome] at h1
      have h2 := Array.all_eq_true_iff_forall_mem.1 h1 e he
      simp only [Bool.or_eq_true, Bool.not_eq_true', hbi, Bool.true_eq_false, false_or] at h2
      have h2' : e.on ∈ before ord k := by simpa using h2
      have h3 : e.on ∉ js := fun hm => by
        rw [hk] at hm hpj
        rcases List.mem_cons.1 hm with e1 | e1
        · rw [e1] at h2'; exact before_irr h2'
        · have h6 := (List.pairwise_cons.1 hpj).1 _ e1
          have h7 := List.all_eq_true.1 (List.all_eq_true.1 hasym k (hin k hks)) _ h2'
          simp only [Bool.not_eq_true'] at h7
          have h8 : (before ord e.on).contains k = true := by simpa using h6
          rw [h7] at h8
          cases h8
      have hen : e.on < ops.size := hltn _ (hbef _ _ h2')
      have h4 : ¬ listed.getD e.on true = false := fun hh => h3 ((hjs e.on).2 ⟨hen, hh⟩)
      have h5 : e.on < listed.size := by rw [inv.size]; exact hen
      simp [h5] at h4 ⊢
      exact h4
    refine ⟨fun h0 => (by rw [h0] at hkr; cases hkr), fun j hj => ?_⟩
    obtain ⟨hjun, oj, hoj, hall⟩ := mem_ready.1 hj
    have hjn : j < ops.size := (Array.getElem?_eq_some_iff.1 hoj).1
    have hjm : j ∈ js := (hjs j).2 ⟨hjn, hjun⟩
    obtain ⟨pre, post, hsp⟩ := List.append_of_mem hjm
    have hso' := hpj
    rw [hsp] at hso'
    rw [List.pairwise_append, List.pairwise_cons] at hso'
    obtain ⟨s1, ⟨s2, s3⟩, s4⟩ := hso'
    have hwait : ∀ i ∈ pre, ∀ oi (p : Oper → Bool), ops[i]? = some oi → p oi = true → waitO ops ord p j = false := by
      intro i hi oi p hoi hp
      have hij : i ∈ before ord j := s4 i hi j (by simp)
      have hiu := ((hjs i).1 (by rw [hsp]; simp [hi])).2
      cases hd : waitO ops ord p j with
      | false => rfl
      | true =>
        exfalso
        have h1 := List.all_eq_true.1 hd i hij
        simp only [hoi, hp, Bool.not_true, Bool.false_or] at h1
        have h2 := reach_listed inv ops.size j i oj hoj hall h1
        rw [getD_both hiu] at h2
        cases h2
    have hpre : ∀ i ∈ pre, ∀ oi, ops[i]? = some oi → oi.apart ops oj = true ∧ ((isFresh oi || isStore oi || isCall oi) = true → depE4 ops ord j = false ∧ depE4 ops ord j = false) := by
      intro i hi oi hoi
      have hij : i ∈ before ord j := s4 i hi j (by simp)
      have hiu := ((hjs i).1 (by rw [hsp]; simp [hi])).2
      refine ⟨?_, fun hp => ⟨hwait i hi oi _ hoi hp, hwait i hi oi _ hoi hp⟩⟩
      have h1 := List.all_eq_true.1 (List.all_eq_true.1 hpair j (hin j hjn)) i hij
      simp only [hoi, hoj, Bool.or_eq_true] at h1
      rcases h1 with h1 | h1
      · exfalso
        obtain ⟨o', ho', e, he, hbi, hon⟩ := Region.waitsFor_spec h1
        have : o' = oj := Option.some.inj (ho'.symm.trans hoj)
        subst this
        have h2 := hall e he hbi
        rw [hon, getD_both hiu] at h2
        cases h2
      · exact h1
    have hstep := WF4.first hoj hsel' pre F U a ⟨w'.heap.size, hU⟩ hpre (by rw [← hsp]; exact h)
    have inv' := inv.set hj hjn
    have hjs' : ∀ i, i ∈ pre ++ post ↔ i < ops.size ∧ (listed.setIfInBounds j true).getD i true = false := by
      intro i
      by_cases hij : j = i
      · subst hij
        constructor
        · intro hm
          exfalso
          rcases List.mem_append.1 hm with h1 | h1
          · exact before_irr (s4 j h1 j (by simp))
          · exact before_irr (s2 j h1)
        · intro ⟨_, h2⟩
          exfalso
          have : j < listed.size := by rw [inv.size]; exact hjn
          simp [this] at h2
      · rw [getD_set_ne true hij, ← hjs i, hsp]
        simp [Ne.symm hij]
    have hso2 : (pre ++ post).Sublist ord := by
      refine List.Sublist.trans ?_ hso
      rw [hsp]
      exact List.Sublist.append (List.Sublist.refl _) (List.sublist_cons_self _ _)
    have hlen : (pre ++ post).length = m := by
      have := congrArg List.length hsp
      simp at this ⊢
      omega
    have go : ∀ (F' : World → Prop) (U' : Nat → Prop) a' w'', Below w0.heap.size w0 w'' → F' w'' → Stay F' → (∀ x, U' x → x < w''.heap.size) → WF4 P ops w0 ord Q (pre ++ post) F' U' a' → wpAny P .any ops Q' m (listed.setIfInBounds j true) a' w'' :=
      fun F' U' a' w'' h1 h2 h3 h4 h5 => ih _ _ a' w'' F' U' hlen inv' hjs' hso2 h1 h2 h3 h4 h5
    unfold wpOp
    simp only [hoj]
    rcases hstep with ⟨v, hv, hk'⟩ | ⟨hd, -, hw, ι, adm, val, blk, Φ, h0, he, hs, hv, hk'⟩ | ⟨hf, hw, mm, x, hv, hk'⟩ | ⟨-, -, hw, g0, c, c', T, q2, q3, q4, q5, hk'⟩
    · rcases hv with ⟨hw, hv⟩ | ⟨hw, rfl⟩
      · rw [if_pos hw]
        refine .inl ?_
        have h1 := hv w' hb
        unfold Oper.wp
        generalize (execOp a.eval oj).run P w' = r at h1 ⊢
        cases r with
        | ok nx w2 =>
          cases nx <;> simp only [plainUpon] at h1 <;> simp only [Oper.upon]
          · obtain ⟨rfl, rfl⟩ := h1; exact go F U _ _ hb hF hst hU hk'
          · obtain ⟨rfl, rfl⟩ := h1; exact go F U _ _ hb hF hst hU hk'
        | halt _ _ => simp only [plainUpon] at h1
      · rw [if_neg (by rw [hw]; exact Bool.false_ne_true)]
        exact go F U _ _ hb hF hst hU hk'
    · rw [if_pos hw]
      refine .inl ?_
      have h1 := hv w' hb hF
      have fin : ∀ p w3, adm p → Below w'.heap.size w' w3 → (∀ y, blk p y → w'.heap.size ≤ y ∧ y < w3.heap.size) → Φ p w3 → wpAny P .any ops Q' m (listed.setIfInBounds j true) (a.put oj.dst (val p)) w3 := fun p w3 ha hb3 hy hΦ =>
        go _ _ _ _ (Below.next hb hb3) ⟨hst _ _ hb3 hF, hΦ⟩ (fun w1 w2 h12 h => ⟨hst _ _ h12 h.1, hs p _ _ h12 h.2⟩)
          (fun y hyy => by rcases hyy with hyy | hyy; exact Nat.lt_of_lt_of_le (hU y hyy) hb3.size; exact (hy y hyy).2)
          (hk' p ha fun y hyy => ⟨Nat.le_trans hb.size (hy y hyy).1, fun h => by have := hU y h; have := (hy y hyy).1; omega⟩)
      unfold Oper.wp
      generalize (execOp a.eval oj).run P w' = r at h1 ⊢
      cases r with
      | ok nx w2 =>
        cases nx <;> simp only [retUponE4] at h1 <;> simp only [Oper.upon]
        · obtain ⟨p, ha, rfl, k1, k2, k3⟩ := h1
          exact fin p _ ha k1 k2 k3
        · obtain ⟨rfl, hc⟩ := h1
          exact hc.mono fun e w3 ⟨p, ha, he, k1, k2, k3⟩ => by
            subst he
            exact fin p _ ha k1 k2 k3
      | halt _ _ => simp only [retUponE4] at h1
    · rw [if_pos hw]
      refine .inl ?_
      unfold Oper.wp
      rw [hv w' hb]
      simp only [Oper.upon]
      have hba : Below w'.heap.size w' (w'.alloc x) := (Below.refl _ _).alloc (Nat.le_refl _) _
      refine go _ _ _ _ (Below.next hb hba) ⟨hst _ _ hba hF, ?_⟩ (fun w1 w2 h12 h => ⟨hst _ _ h12 h.1, h.2.stay h12⟩) ?_ (hk' w'.heap.size hb.size (fun hh => absurd (hU _ hh) (Nat.lt_irrefl _)))
      · intro y hy
        have : (w'.alloc x).heap.size = w'.heap.size + 1 := by simp
        rcases hy with hy | hy
        · have := hU y hy; omega
        · omega
      · unfold Has; rw [alloc_eq_grow]; show (w'.heap ++ #[x])[w'.heap.size]? = some x; simp
    · rw [if_pos hw]
      refine .inl ?_
      have hg := q4 w' hF
      unfold Oper.wp
      rw [q5 w' hb hg]
      simp only [Oper.upon]
      exact go _ U _ _ (below_setRow hb q2 c') ⟨setRow_heap w' g0 c c' T _ hg, by rw [setRow_back w' g0 c c' T hg]; exact hF⟩ (upd_stay hst g0 c c' T) (fun x hx => by simpa using hU x hx) hk'
end

theorem wp_region_fresh4 {P : Program} {id : Nat} {Q : Exit → Act → World → Prop} {a : Act} {w : World} {l : List Oper} (ord : List Nat) (hm : P.follows .mixedOrders = true) (hB : ordB l.toArray ord = true) (hpw : pairO ord ord = true) (hlen : ord.length = l.length)
    (h : WF4 P l.toArray w ord (fun F a' => ∀ w', Below w.heap.size w w' → F w' → Q .normal a' w') ord (fun _ => True) (fun _ => False) a) : (Code.region id l.toArray true).wp P Q a w := by
  refine wp_region_any hm ?_
  have hB' := hB
  unfold ordB at hB'
  simp only [Bool.and_eq_true] at hB'
  obtain ⟨⟨⟨⟨⟨hsel, hlt⟩, hall0⟩, hpair⟩, hback⟩, hasym⟩ := hB'
  have inv0 : HeadInv .any l.toArray l.toArray.size (Array.replicate l.toArray.size false) :=
    ⟨by simp, fun j oj _ hl => (by rw [getD_replicate_false] at hl; cases hl), fun t _ ht => getD_in (by simpa using ht) (getD_replicate_false _ _)⟩
  have := any_of_WF4 (P := P) (ops := l.toArray) (w0 := w) (Q' := Q) hB hpw (fun F a' w' hb hF hq => by
    show wpAny P .any l.toArray Q 0 (Array.replicate l.toArray.size true) a' w'
    unfold wpAny
    refine ⟨List.eq_nil_iff_forall_not_mem.2 fun i hi => ?_, hq w' hb hF⟩
    have h9 := (mem_ready.1 hi).1
    simp at h9
    rw [Array.getElem?_replicate] at h9
    split at h9 <;> simp at h9) ord.length ord (Array.replicate l.toArray.size false) a { w with drawn := w.drawn + 1 } (fun _ => True) (fun _ => False) rfl inv0
    (fun i => by
      constructor
      · intro hi
        have := List.all_eq_true.1 hlt i hi
        have hi' : i < l.toArray.size := by simp [Nat.blt] at this; simp; omega
        exact ⟨hi', getD_in (by simpa using hi') (getD_replicate_false _ _)⟩
      · intro hi
        have := List.all_eq_true.1 hall0 i (List.mem_range.2 hi.1)
        simpa using this) (List.Sublist.refl _) ⟨rfl, rfl, rfl, Nat.le_refl _, fun _ _ => rfl⟩ trivial (fun _ _ _ _ => trivial) (fun _ h => h.elim) h
  rw [hlen] at this
  simpa using this
end Go.Proofs.Ytognbeejobfpfaa
