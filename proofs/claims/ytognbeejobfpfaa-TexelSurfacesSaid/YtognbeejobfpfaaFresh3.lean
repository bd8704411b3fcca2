/- A region whose order is open, walked once in the order of the text: values, blocks of its own and calls whose result depends on the world (kind E: it waits for blocks, stores and calls ahead of it). No program is named here. -/
import Derived.Test.YtognbeejobfpfaaFresh2
namespace Go.Proofs.Ytognbeejobfpfaa
open Go.RowKit Go.Sort
set_option linter.unusedVariables false
set_option linter.unusedSimpArgs false

def depE3 (ops : Array Oper) (j : Nat) : Bool := waitB ops (fun o => isFresh o || isStore o || isCall o) j
def retUponE (P : Program) {ι : Type} (adm : ι → Prop) (val : ι → Value) (blk : ι → Option Nat) (Φ : ι → World → Prop) (w : World) : Result Next → Prop
  | .ok (.value u) w2 => ∃ p, adm p ∧ u = val p ∧ Below w.heap.size w w2 ∧ (∀ y, blk p = some y → w.heap.size ≤ y ∧ y < w2.heap.size) ∧ Φ p w2
  | .ok (.enter f args) w' => w' = w ∧ Calls P f args w (fun e w2 => ∃ p, adm p ∧ e = .returned (val p) ∧ Below w.heap.size w w2 ∧ (∀ y, blk p = some y → w.heap.size ≤ y ∧ y < w2.heap.size) ∧ Φ p w2)
  | _ => False
theorem Ends.opt {U : Nat → Prop} (h : Ends U) (g : Option Nat) : Ends (fun y => U y ∨ g = some y) := by
  obtain ⟨M, hM⟩ := h
  cases g with
  | none => exact ⟨M, fun x hx => by rcases hx with hx | hx; exact hM x hx; cases hx⟩
  | some g => exact ⟨max M (g + 1), fun x hx => by
      rcases hx with hx | hx
      · have := hM x hx; omega
      · have : g = x := Option.some.inj hx
        omega⟩
section
variable {P : Program} {ops : Array Oper} {w0 : World}

/-- One operation: (A) one value in every world that has grown, (E) a call, (C) it lays a block. -/
def StF3 (P : Program) (ops : Array Oper) (w0 : World) (dE : Bool) (o : Oper) (F : World → Prop) (U : Nat → Prop) (a : Act) (K : (World → Prop) → (Nat → Prop) → Act → Prop) : Prop :=
  (∃ v, ((Region.wanted o (yielded ops a.tmps) = true ∧ ∀ w', Below w0.heap.size w0 w' → plainUpon w' v ((execOp a.eval o).run P w')) ∨ (Region.wanted o (yielded ops a.tmps) = false ∧ v = undef)) ∧ K F U (a.put o.dst v)) ∨
  (dE = true ∧ isCall o = true ∧ Region.wanted o (yielded ops a.tmps) = true ∧ ∃ (ι : Type) (adm : ι → Prop) (val : ι → Value) (blk : ι → Option Nat) (Φ : ι → World → Prop), (∀ M, ∃ p, adm p ∧ ∀ y, blk p = some y → M ≤ y) ∧ (∀ p, Stay (Φ p)) ∧
    (∀ w', Below w0.heap.size w0 w' → F w' → retUponE P adm val blk Φ w' ((execOp a.eval o).run P w')) ∧
    ∀ p, adm p → (∀ y, blk p = some y → w0.heap.size ≤ y ∧ ¬ U y) → K (fun w' => F w' ∧ Φ p w') (fun y => U y ∨ blk p = some y) (a.put o.dst (val p))) ∨
  (isFresh o = true ∧ Region.wanted o (yielded ops a.tmps) = true ∧ ∃ m x, (∀ w', Below w0.heap.size w0 w' → (execOp a.eval o).run P w' = .ok (.value (fval m w'.heap.size)) (w'.alloc x)) ∧
    ∀ g, w0.heap.size ≤ g → ¬ U g → K (fun w' => F w' ∧ Has g x w') (fun y => U y ∨ y = g) (a.put o.dst (fval m g)))

theorem StF3.mono {dE : Bool} {o : Oper} {F : World → Prop} {U : Nat → Prop} {a : Act} {K K' : (World → Prop) → (Nat → Prop) → Act → Prop} (hU : Ends U) (hK : ∀ F U a, Ends U → K F U a → K' F U a)
    (h : StF3 P ops w0 dE o F U a K) : StF3 P ops w0 dE o F U a K' := by
  rcases h with ⟨v, hv, hk⟩ | ⟨hd, hc, hw, ι, adm, val, blk, Φ, h0, hs, hv, hk⟩ | ⟨hf, hw, m, x, hv, hk⟩
  · exact .inl ⟨v, hv, hK _ _ _ hU hk⟩
  · exact .inr (.inl ⟨hd, hc, hw, ι, adm, val, blk, Φ, h0, hs, hv, fun p ha hp => hK _ _ _ (hU.opt _) (hk p ha hp)⟩)
  · exact .inr (.inr ⟨hf, hw, m, x, hv, fun g h1 h2 => hK _ _ _ (hU.more g) (hk g h1 h2)⟩)

def WF3 (P : Program) (ops : Array Oper) (w0 : World) (Q : (World → Prop) → Act → Prop) : List Nat → (World → Prop) → (Nat → Prop) → Act → Prop
  | [], F, _, a => Q F a
  | j :: js, F, U, a => match ops[j]? with
    | none => WF3 P ops w0 Q js F U a
    | some o => StF3 P ops w0 (depE3 ops j) o F U a (WF3 P ops w0 Q js)

theorem plain_notfresh {w : World} {v : Value} {m : Option Nat} {x : Obj} (h : plainUpon w v (.ok (.value (fval m w.heap.size)) (w.alloc x))) : False := by
  have e3 := congrArg (fun w => w.heap.size) h.1
  simp at e3
theorem val_one {oj : Oper} {a : Act} {w0 : World} {u u' : Value} (hu : (Region.wanted oj (yielded ops a.tmps) = true ∧ ∀ w', Below w0.heap.size w0 w' → plainUpon w' u ((execOp a.eval oj).run P w')) ∨ (Region.wanted oj (yielded ops a.tmps) = false ∧ u = undef))
    (hu' : (Region.wanted oj (yielded ops a.tmps) = true ∧ ∀ w', Below w0.heap.size w0 w' → plainUpon w' u' ((execOp a.eval oj).run P w')) ∨ (Region.wanted oj (yielded ops a.tmps) = false ∧ u' = undef)) : u = u' := by
  rcases hu with ⟨p1, p2⟩ | ⟨p1, p2⟩ <;> rcases hu' with ⟨q1, q2⟩ | ⟨q1, q2⟩
  · exact plainUpon_one (p2 w0 (Below.refl _ _)) (q2 w0 (Below.refl _ _))
  · rw [p1] at q1; cases q1
  · rw [p1] at q1; cases q1
  · rw [p2, q2]
theorem block_one {oj : Oper} {a : Act} {w0 : World} {m m' : Option Nat} {x x' : Obj} (h : ∀ w', Below w0.heap.size w0 w' → (execOp a.eval oj).run P w' = .ok (.value (fval m w'.heap.size)) (w'.alloc x))
    (h' : ∀ w', Below w0.heap.size w0 w' → (execOp a.eval oj).run P w' = .ok (.value (fval m' w'.heap.size)) (w'.alloc x')) : m = m' ∧ x = x' := by
  have e1 := h w0 (Below.refl _ _)
  have e2 := h' w0 (Below.refl _ _)
  rw [e2] at e1
  injection e1 with e3 e4
  injection e3 with e3
  refine ⟨(fval_inj e3).symm, ?_⟩
  have := congrArg (fun w => w.heap) e4
  simp only [World.alloc] at this
  exact ((Array.push_inj_right.1 this)).symm
theorem plain_block {oj : Oper} {a : Act} {w0 : World} {u : Value} {m : Option Nat} {x : Obj} (hu : (Region.wanted oj (yielded ops a.tmps) = true ∧ ∀ w', Below w0.heap.size w0 w' → plainUpon w' u ((execOp a.eval oj).run P w')) ∨ (Region.wanted oj (yielded ops a.tmps) = false ∧ u = undef))
    (hw : Region.wanted oj (yielded ops a.tmps) = true) (h : ∀ w', Below w0.heap.size w0 w' → (execOp a.eval oj).run P w' = .ok (.value (fval m w'.heap.size)) (w'.alloc x)) : False := by
  rcases hu with ⟨p1, p2⟩ | ⟨p1, p2⟩
  · have := p2 w0 (Below.refl _ _)
    rw [h w0 (Below.refl _ _)] at this
    exact plain_notfresh this
  · rw [p1] at hw; cases hw
theorem U_swap (U : Nat → Prop) (a b : Nat → Prop) : (fun y => (U y ∨ a y) ∨ b y) = (fun y => (U y ∨ b y) ∨ a y) := by
  funext y
  exact propext ⟨fun h => by rcases h with (h | h) | h; exact .inl (.inl h); exact .inr h; exact .inl (.inr h), fun h => by rcases h with (h | h) | h; exact .inl (.inl h); exact .inr h; exact .inl (.inr h)⟩
theorem F_swap (F a b : World → Prop) : (fun w => (F w ∧ a w) ∧ b w) = (fun w => (F w ∧ b w) ∧ a w) := by
  funext w; exact propext ⟨fun ⟨⟨a, b⟩, c⟩ => ⟨⟨a, c⟩, b⟩, fun ⟨⟨a, b⟩, c⟩ => ⟨⟨a, c⟩, b⟩⟩
/-- Two that are apart may change places. -/
theorem StF3.swap {iE jE : Bool} {oi oj : Oper} {F : World → Prop} {U : Nat → Prop} {a : Act} {K : (World → Prop) → (Nat → Prop) → Act → Prop} (hap : oi.apart ops oj = true)
    (hsi : ∀ cs b, oi.op ≠ .select cs b) (hsj : ∀ cs b, oj.op ≠ .select cs b) (hdE : (isFresh oi || isStore oi || isCall oi) = true → jE = false) (hU : Ends U)
    (h : StF3 P ops w0 iE oi F U a (fun F U a => StF3 P ops w0 jE oj F U a K)) : StF3 P ops w0 jE oj F U a (fun F U a => StF3 P ops w0 iE oi F U a K) := by
  obtain ⟨h1, h2, h3⟩ := Oper.apart_spec hap
  have ej : ∀ v, execOp (a.put oi.dst v).eval oj = execOp a.eval oj := fun v => execOp_put oj hsj a oi.dst v h1
  have wj : ∀ v, Region.wanted oj (yielded ops (a.put oi.dst v).tmps) = Region.wanted oj (yielded ops a.tmps) := fun v => wanted_put oj a oi.dst v h1
  have ei : ∀ v, execOp (a.put oj.dst v).eval oi = execOp a.eval oi := fun v => execOp_put oi hsi a oj.dst v h3
  have wi : ∀ v, Region.wanted oi (yielded ops (a.put oj.dst v).tmps) = Region.wanted oi (yielded ops a.tmps) := fun v => wanted_put oi a oj.dst v h3
  have ec : ∀ v u, (a.put oi.dst v).put oj.dst u = (a.put oj.dst u).put oi.dst v := fun v u => Act.put_comm a v u h2
  rcases h with ⟨v, hv, hk⟩ | ⟨hdi, hci, hw, ι, adm, val, blk, Φ, h0, hst, hv, hk⟩ | ⟨hf, hw, m, x, hv, hk⟩
  · -- a value
    have hv' : ∀ u, (Region.wanted oi (yielded ops (a.put oj.dst u).tmps) = true ∧ ∀ w', Below w0.heap.size w0 w' → plainUpon w' v ((execOp (a.put oj.dst u).eval oi).run P w')) ∨ (Region.wanted oi (yielded ops (a.put oj.dst u).tmps) = false ∧ v = undef) := fun u => by rw [ei, wi]; exact hv
    rcases hk with ⟨u, hu, hk⟩ | ⟨hdj, hcj, hwj, ι, adm, val, blk, Φ, h0, hst, hu, hk⟩ | ⟨hf, hwj, m, x, hu, hk⟩
    · rw [ej, wj] at hu; exact .inl ⟨u, hu, .inl ⟨v, hv' u, by rw [← ec]; exact hk⟩⟩
    · rw [wj] at hwj; rw [ej] at hu; exact .inr (.inl ⟨hdj, hcj, hwj, ι, adm, val, blk, Φ, h0, hst, hu, fun p ha hp => .inl ⟨v, hv' _, by rw [← ec]; exact hk p ha hp⟩⟩)
    · rw [wj] at hwj; exact .inr (.inr ⟨hf, hwj, m, x, fun w' hb => by have := hu w' hb; rwa [ej] at this, fun g g1 g2 => .inl ⟨v, hv' _, by rw [← ec]; exact hk g g1 g2⟩⟩)
  · -- a call
    have hdE' := hdE (by simp [hci])
    have hv' : ∀ u w', Below w0.heap.size w0 w' → F w' → retUponE P adm val blk Φ w' ((execOp (a.put oj.dst u).eval oi).run P w') := fun u w' hb hF => by rw [ei]; exact hv w' hb hF
    have hw' : ∀ u, Region.wanted oi (yielded ops (a.put oj.dst u).tmps) = true := fun u => by rw [wi]; exact hw
    obtain ⟨M, hM⟩ := hU
    obtain ⟨p0, ha0, hp0⟩ := h0 (max M w0.heap.size)
    rcases hk p0 ha0 (fun y hy => ⟨by have := hp0 y hy; omega, fun h => by have := hM y h; have := hp0 y hy; omega⟩) with ⟨u, hu, -⟩ | ⟨hdj, -⟩ | ⟨hfj, hwj, mj, xj, hu, -⟩
    · rw [ej, wj] at hu
      refine .inl ⟨u, hu, .inr (.inl ⟨hdi, hci, hw' u, ι, adm, val, blk, Φ, h0, hst, hv' u, fun p ha hp => ?_⟩)⟩
      rw [← ec]
      rcases hk p ha hp with ⟨u', hu', hk'⟩ | ⟨hdj, -⟩ | ⟨hfj, hwj, mj, xj, hu', -⟩
      · rw [ej, wj] at hu'
        rw [val_one hu hu']; exact hk'
      · rw [hdE'] at hdj; cases hdj
      · exfalso
        rw [wj] at hwj; rw [ej] at hu'
        exact plain_block hu hwj hu'
    · rw [hdE'] at hdj; cases hdj
    · rw [wj] at hwj; rw [ej] at hu
      refine .inr (.inr ⟨hfj, hwj, mj, xj, hu, fun g k1 k2 => .inr (.inl ⟨hdi, hci, hw' _, ι, adm, val, blk, Φ, h0, hst, fun w' hb hF => hv' _ w' hb hF.1, fun p ha hp => ?_⟩)⟩)
      rw [← ec]
      have hp' : ∀ y, blk p = some y → w0.heap.size ≤ y ∧ ¬ U y := fun y hy => ⟨(hp y hy).1, fun h => (hp y hy).2 (.inl h)⟩
      rcases hk p ha hp' with ⟨u', hu', hk'⟩ | ⟨hdj, -⟩ | ⟨-, hwj', mj', xj', hu', hk'⟩
      · exfalso
        rw [ej, wj] at hu'
        exact plain_block hu' hwj hu
      · rw [hdE'] at hdj; cases hdj
      · rw [ej] at hu'
        obtain ⟨rfl, rfl⟩ := block_one hu hu'
        have := hk' g k1 (fun h => by
          rcases h with h | h
          · exact k2 h
          · exact (hp g h).2 (.inr rfl))
        rw [F_swap F (Φ p) (Has g xj), U_swap U (fun y => blk p = some y) (fun y => y = g)] at this
        exact this
  · -- a block
    have hdE' := hdE (by simp [hf])
    obtain ⟨M, hM⟩ := hU
    have g1 : w0.heap.size ≤ max M w0.heap.size := by omega
    have g2 : ¬ U (max M w0.heap.size) := fun h => by have := hM _ h; omega
    have hv' : ∀ u w', Below w0.heap.size w0 w' → (execOp (a.put oj.dst u).eval oi).run P w' = .ok (.value (fval m w'.heap.size)) (w'.alloc x) := fun u w' hb => by rw [ei]; exact hv w' hb
    have hw' : ∀ u, Region.wanted oi (yielded ops (a.put oj.dst u).tmps) = true := fun u => by rw [wi]; exact hw
    rcases hk _ g1 g2 with ⟨u, hu, -⟩ | ⟨hdj, -⟩ | ⟨hfj, hwj, mj, xj, hu, -⟩
    · rw [ej, wj] at hu
      refine .inl ⟨u, hu, .inr (.inr ⟨hf, hw' u, m, x, hv' u, fun g k1 k2 => ?_⟩)⟩
      rw [← ec]
      rcases hk g k1 k2 with ⟨u', hu', hk'⟩ | ⟨hdj, -⟩ | ⟨hfj, hwj, mj, xj, hu', -⟩
      · rw [ej, wj] at hu'
        rw [val_one hu hu']; exact hk'
      · rw [hdE'] at hdj; cases hdj
      · exfalso
        rw [wj] at hwj; rw [ej] at hu'
        exact plain_block hu hwj hu'
    · rw [hdE'] at hdj; cases hdj
    · rw [wj] at hwj; rw [ej] at hu
      refine .inr (.inr ⟨hfj, hwj, mj, xj, hu, fun gj k1 k2 => .inr (.inr ⟨hf, hw' _, m, x, hv' _, fun gi l1 l2 => ?_⟩)⟩)
      rw [← ec]
      rcases hk gi l1 (fun h => l2 (.inl h)) with ⟨u', hu', hk'⟩ | ⟨hdj, -⟩ | ⟨-, hwj', mj', xj', hu', hk'⟩
      · exfalso
        rw [ej, wj] at hu'
        exact plain_block hu' hwj hu
      · rw [hdE'] at hdj; cases hdj
      · rw [ej] at hu'
        obtain ⟨rfl, rfl⟩ := block_one hu hu'
        have := hk' gj k1 (fun h => by rcases h with h | h; exact k2 h; exact l2 (.inr h.symm))
        rw [F_swap F (Has gi x) (Has gj xj), U_swap U (fun y => y = gi) (fun y => y = gj)] at this
        exact this

/-- Any operation that none ahead of it holds back may be taken first. -/
theorem WF3.first {Q : (World → Prop) → Act → Prop} {j : Nat} {oj : Oper} {post : List Nat} (hj : ops[j]? = some oj) (hsel : ∀ (j : Nat) (o : Oper) cs b, ops[j]? = some o → o.op ≠ .select cs b) :
    ∀ (pre : List Nat) (F : World → Prop) (U : Nat → Prop) (a : Act), Ends U → (∀ i ∈ pre, ∀ oi, ops[i]? = some oi → oi.apart ops oj = true ∧ ((isFresh oi || isStore oi || isCall oi) = true → depE3 ops j = false)) →
    WF3 P ops w0 Q (pre ++ j :: post) F U a → StF3 P ops w0 (depE3 ops j) oj F U a (WF3 P ops w0 Q (pre ++ post))
  | [], F, U, a, hU, hp, h => by
    simp only [List.nil_append, WF3, hj] at h
    exact h
  | i :: pre, F, U, a, hU, hp, h => by
    simp only [List.cons_append, WF3] at h
    cases hi : ops[i]? with
    | none =>
      simp only [hi] at h
      have := WF3.first hj hsel pre F U a hU (fun k hk => hp k (List.mem_cons_of_mem _ hk)) h
      refine this.mono hU fun F U a _ hh => ?_
      simp only [List.cons_append, WF3, hi]
      exact hh
    | some oi =>
      simp only [hi] at h
      obtain ⟨h1, hE⟩ := hp i (List.mem_cons_self ..) oi hi
      have h' := h.mono hU (fun F U a hU hh => WF3.first hj hsel pre F U a hU (fun k hk => hp k (List.mem_cons_of_mem _ hk)) hh)
      have := h'.swap h1 (fun cs b => hsel i oi cs b hi) (fun cs b => hsel j oj cs b hj) hE hU
      refine this.mono hU fun F U a _ hh => ?_
      simp only [List.cons_append, WF3, hi]
      exact hh

theorem any_of_WF3 {Q : (World → Prop) → Act → Prop} {Q' : Exit → Act → World → Prop} {n : Nat} (hB : freshB ops n = true)
    (hfin : ∀ F a w', Below w0.heap.size w0 w' → F w' → Q F a → wpAny P .any ops Q' (ops.size - n) (Array.replicate n true ++ Array.replicate (ops.size - n) false) a w') :
    ∀ (m : Nat) (js : List Nat) (listed : Array Bool) (a : Act) (w' : World) (F : World → Prop) (U : Nat → Prop), js.length = m → HeadInv .any ops n listed → (∀ i, i ∈ js ↔ i < n ∧ listed.getD i true = false) → js.Pairwise (· < ·) →
    Below w0.heap.size w0 w' → F w' → Stay F → (∀ x, U x → x < w'.heap.size) → WF3 P ops w0 Q js F U a → wpAny P .any ops Q' (m + (ops.size - n)) listed a w' := by
  unfold freshB at hB
  simp only [Bool.and_eq_true, Bool.or_eq_true, decide_eq_true_eq] at hB
  obtain ⟨⟨⟨⟨⟨hsel, hn⟩, hpair⟩, hback⟩, hsink⟩, hseq⟩ := hB
  have hsel' := Region.noSelect_spec hsel
  intro m
  induction m with
  | zero =>
    intro js listed a w' F U hm inv hjs hso hb hF hst hU h
    obtain rfl : js = [] := List.length_eq_zero_iff.1 hm
    have hl : listed = Array.replicate n true ++ Array.replicate (ops.size - n) false := by
      apply Array.ext
      · simp [inv.size]; omega
      · intro i h1 h2
        by_cases hi : i < n
        · have : ¬ (i < n ∧ listed.getD i true = false) := fun h => by have := (hjs i).2 h; cases this
          rw [Array.getElem_append_left (by simpa using hi)]
          simp only [Array.getElem_replicate]
          have h3 : ¬ listed.getD i true = false := fun h => this ⟨hi, h⟩
          simpa [h1] using h3
        · rw [Array.getElem_append_right (by simpa using hi)]
          simp only [Array.getElem_replicate]
          have h3 := inv.tail i (by omega) (by rw [← inv.size]; exact h1)
          simpa [h1] using h3
    rw [Nat.zero_add, hl]
    exact hfin F a w' hb hF h
  | succ m ih =>
    intro js listed a w' F U hm inv hjs hso hb hF hst hU h
    rw [show m + 1 + (ops.size - n) = (m + (ops.size - n)) + 1 by omega]
    cases hk : js with
    | nil => rw [hk] at hm; cases hm
    | cons k js' =>
    have hkn := (hjs k).1 (by rw [hk]; simp)
    have hkr : k ∈ Region.ready .any ops listed := by
      have hks : k < ops.size := by omega
      refine mem_ready.2 ⟨hkn.2, ops[k], by simp [hks], fun e he hbi => ?_⟩
      have h1 := List.all_eq_true.1 hback k (List.mem_range.2 hkn.1)
      have hsome : ops[k]? = some ops[k] := by simp [hks]
      simp only [hsome] at h1
      have h2 := Array.all_eq_true_iff_forall_mem.1 h1 e he
      simp only [Bool.or_eq_true, Bool.not_eq_true', decide_eq_true_eq, hbi, Bool.true_eq_false, false_or] at h2
      have h3 : e.on ∉ js := fun hm => by
        rw [hk] at hm hso
        rcases List.mem_cons.1 hm with e1 | e1
        · omega
        · have := (List.pairwise_cons.1 hso).1 _ e1
          omega
      have h4 : ¬ listed.getD e.on true = false := fun hh => h3 ((hjs e.on).2 ⟨by omega, hh⟩)
      have h5 : e.on < listed.size := by rw [inv.size]; omega
      simp [h5] at h4 ⊢
      exact h4
    refine ⟨fun h0 => (by rw [h0] at hkr; cases hkr), fun j hj => ?_⟩
    have hjn : j < n := by
      rcases hsink with hs | hsc
      · obtain ⟨-, o, ho, -⟩ := mem_ready.1 hj
        have := (Array.getElem?_eq_some_iff.1 ho).1
        omega
      · obtain ⟨hs, hc⟩ := hsc
        by_cases hns : n < ops.size
        · rcases Nat.lt_or_ge j n with h1 | h1
          · exact h1
          · exact absurd hj (tail_waits hs hc hns inv _ k rfl hkn.1 hkn.2 j h1)
        · obtain ⟨-, o, ho, -⟩ := mem_ready.1 hj
          have := (Array.getElem?_eq_some_iff.1 ho).1
          omega
    obtain ⟨hjun, oj, hoj, hall⟩ := mem_ready.1 hj
    have hjm : j ∈ js := (hjs j).2 ⟨hjn, hjun⟩
    obtain ⟨pre, post, hsp⟩ := List.append_of_mem hjm
    have hso' := hso
    rw [hsp] at hso'
    rw [List.pairwise_append, List.pairwise_cons] at hso'
    obtain ⟨s1, ⟨s2, s3⟩, s4⟩ := hso'
    have hpre : ∀ i ∈ pre, ∀ oi, ops[i]? = some oi → oi.apart ops oj = true ∧ ((isFresh oi || isStore oi || isCall oi) = true → depE3 ops j = false) := by
      intro i hi oi hoi
      have hij : i < j := s4 i hi j (by simp)
      have hiu := ((hjs i).1 (by rw [hsp]; simp [hi])).2
      refine ⟨?_, fun hp => wait_not inv hoj hall hij hoi hiu hp⟩
      have h1 := List.all_eq_true.1 (List.all_eq_true.1 hpair j (List.mem_range.2 hjn)) i (List.mem_range.2 hij)
      simp only [hoi, hoj, Bool.or_eq_true] at h1
      rcases h1 with h1 | h1
      · exfalso
        obtain ⟨o', ho', e, he, hbi, hon⟩ := Region.waitsFor_spec h1
        have : o' = oj := Option.some.inj (ho'.symm.trans hoj)
        subst this
        have h2 := hall e he hbi
        rw [hon, getD_both hiu] at h2
        cases h2
      · exact h1
    have hstep := WF3.first hoj hsel' pre F U a ⟨w'.heap.size, hU⟩ hpre (by rw [← hsp]; exact h)
    have inv' := inv.set hj hjn
    have hjs' : ∀ i, i ∈ pre ++ post ↔ i < n ∧ (listed.setIfInBounds j true).getD i true = false := by
      intro i
      by_cases hij : j = i
      · subst hij
        constructor
        · intro hm
          exfalso
          rcases List.mem_append.1 hm with h1 | h1
          · have := s4 j h1 j (by simp); omega
          · have := s2 j h1; omega
        · intro ⟨_, h2⟩
          exfalso
          have : j < listed.size := by rw [inv.size]; omega
          simp [this] at h2
      · rw [getD_set_ne true hij, ← hjs i, hsp]
        simp [Ne.symm hij]
    have hso2 : (pre ++ post).Pairwise (· < ·) := by
      rw [List.pairwise_append]
      exact ⟨s1, s3, fun x hx y hy => s4 x hx y (by simp [hy])⟩
    have hlen : (pre ++ post).length = m := by
      have := congrArg List.length hsp
      simp at this ⊢
      omega
    have go : ∀ (F' : World → Prop) (U' : Nat → Prop) a' w'', Below w0.heap.size w0 w'' → F' w'' → Stay F' → (∀ x, U' x → x < w''.heap.size) → WF3 P ops w0 Q (pre ++ post) F' U' a' → wpAny P .any ops Q' (m + (ops.size - n)) (listed.setIfInBounds j true) a' w'' :=
      fun F' U' a' w'' h1 h2 h3 h4 h5 => ih _ _ a' w'' F' U' hlen inv' hjs' hso2 h1 h2 h3 h4 h5
    unfold wpOp
    simp only [hoj]
    rcases hstep with ⟨v, hv, hk'⟩ | ⟨hd, -, hw, ι, adm, val, blk, Φ, h0, hs, hv, hk'⟩ | ⟨hf, hw, mm, x, hv, hk'⟩
    · rcases hv with ⟨hw, hv⟩ | ⟨hw, rfl⟩
      · rw [if_pos hw]
        refine .inl ?_
        have h1 := hv w' hb
        unfold Oper.wp
        generalize (execOp a.eval oj).run P w' = r at h1 ⊢
        cases r with
        | ok nx w2 =>
          cases nx <;> simp only [plainUpon] at h1 <;> simp only [Oper.upon]
          · obtain ⟨rfl, rfl⟩ := h1; exact go F U _ _ hb hF hst hU hk'
          · obtain ⟨rfl, rfl⟩ := h1; exact go F U _ _ hb hF hst hU hk'
        | halt _ _ => simp only [plainUpon] at h1
      · rw [if_neg (by rw [hw]; exact Bool.false_ne_true)]
        exact go F U _ _ hb hF hst hU hk'
    · rw [if_pos hw]
      refine .inl ?_
      have h1 := hv w' hb hF
      have fin : ∀ p w3, adm p → Below w'.heap.size w' w3 → (∀ y, blk p = some y → w'.heap.size ≤ y ∧ y < w3.heap.size) → Φ p w3 → wpAny P .any ops Q' (m + (ops.size - n)) (listed.setIfInBounds j true) (a.put oj.dst (val p)) w3 := fun p w3 ha hb3 hy hΦ =>
        go _ _ _ _ (Below.next hb hb3) ⟨hst _ _ hb3 hF, hΦ⟩ (fun w1 w2 h12 h => ⟨hst _ _ h12 h.1, hs p _ _ h12 h.2⟩)
          (fun y hyy => by rcases hyy with hyy | hyy; exact Nat.lt_of_lt_of_le (hU y hyy) hb3.size; exact (hy y hyy).2)
          (hk' p ha fun y hyy => ⟨Nat.le_trans hb.size (hy y hyy).1, fun h => by have := hU y h; have := (hy y hyy).1; omega⟩)
      unfold Oper.wp
      generalize (execOp a.eval oj).run P w' = r at h1 ⊢
      cases r with
      | ok nx w2 =>
        cases nx <;> simp only [retUponE] at h1 <;> simp only [Oper.upon]
        · obtain ⟨p, ha, rfl, k1, k2, k3⟩ := h1
          exact fin p _ ha k1 k2 k3
        · obtain ⟨rfl, hc⟩ := h1
          exact hc.mono fun e w3 ⟨p, ha, he, k1, k2, k3⟩ => by
            subst he
            exact fin p _ ha k1 k2 k3
      | halt _ _ => simp only [retUponE] at h1
    · rw [if_pos hw]
      refine .inl ?_
      unfold Oper.wp
      rw [hv w' hb]
      simp only [Oper.upon]
      have hba : Below w'.heap.size w' (w'.alloc x) := (Below.refl _ _).alloc (Nat.le_refl _) _
      refine go _ _ _ _ (Below.next hb hba) ⟨hst _ _ hba hF, ?_⟩ (fun w1 w2 h12 h => ⟨hst _ _ h12 h.1, h.2.stay h12⟩) ?_ (hk' w'.heap.size hb.size (fun hh => absurd (hU _ hh) (Nat.lt_irrefl _)))
      · intro y hy
        have : (w'.alloc x).heap.size = w'.heap.size + 1 := by simp
        rcases hy with hy | hy
        · have := hU y hy; omega
        · omega
      · unfold Has; rw [alloc_eq_grow]; show (w'.heap ++ #[x])[w'.heap.size]? = some x; simp

/-- The lexical walk, over the operations themselves. -/
def WL3 (P : Program) (ops : Array Oper) (w0 : World) (Q : (World → Prop) → Act → Prop) : Nat → List Oper → (World → Prop) → (Nat → Prop) → Act → Prop
  | _, [], F, _, a => Q F a
  | k, o :: l, F, U, a => StF3 P ops w0 (depE3 ops k) o F U a (WL3 P ops w0 Q (k + 1) l)

theorem WF_of_WL3 {Q : (World → Prop) → Act → Prop} : ∀ (l : List Oper) (k : Nat) (F : World → Prop) (U : Nat → Prop) (a : Act), (∀ j, j < l.length → l[j]? = ops[k + j]?) → Ends U → WL3 P ops w0 Q k l F U a → WF3 P ops w0 Q (List.range' k l.length) F U a
  | [], k, F, U, a, hl, hU, h => h
  | o :: l, k, F, U, a, hl, hU, h => by
    have h0 : ops[k]? = some o := by simpa using (hl 0 (by simp)).symm
    simp only [List.length_cons, List.range'_succ, WF3, h0]
    exact StF3.mono hU (fun F U a hU hh => WF_of_WL3 l (k + 1) F U a (fun j hj => by have := hl (j + 1) (by simp; omega); simpa [Nat.add_assoc, Nat.add_comm 1 j] using this) hU hh) h

end

theorem wp_region_fresh3 {P : Program} {id : Nat} {Q : Exit → Act → World → Prop} {a : Act} {w : World} {l : List Oper} (n : Nat) (hm : P.follows .mixedOrders = true) (hB : freshB l.toArray n = true)
    (h : WL3 P l.toArray w (fun F a' => ∀ w', Below w.heap.size w w' → F w' → wpList P l.toArray Q (l.drop n) a' w') 0 (l.take n) (fun _ => True) (fun _ => False) a) : (Code.region id l.toArray true).wp P Q a w := by
  have hn : n ≤ l.length := by
    unfold freshB at hB
    simp only [Bool.and_eq_true, decide_eq_true_eq] at hB
    simpa using hB.1.1.1.1.2
  have hseq : Region.seqB .any l.toArray (l.toArray.size - n) n (Array.replicate n true ++ Array.replicate (l.toArray.size - n) false) = true := by
    unfold freshB at hB
    simp only [Bool.and_eq_true] at hB
    exact hB.2
  have htl : (l.take n).length = n := by simp; omega
  have hdl : (l.drop n).length = l.toArray.size - n := by simp
  refine wp_region_any hm ?_
  have inv0 : HeadInv .any l.toArray n (Array.replicate l.toArray.size false) :=
    ⟨by simp, fun j oj _ hl => (by rw [getD_replicate_false] at hl; cases hl), fun t _ ht => getD_in (by simpa using ht) (getD_replicate_false _ _)⟩
  have hwf := WF_of_WL3 (ops := l.toArray) (l.take n) 0 _ _ a (fun j hj => by
    have hj' : j < n := by rw [htl] at hj; exact hj
    simp [hj']) ⟨0, fun _ h => h.elim⟩ h
  rw [htl] at hwf
  have := any_of_WF3 (P := P) (ops := l.toArray) (w0 := w) (Q' := Q) hB (fun F a' w' hb hF hq => by
    have := wpAny_of_seq (md := .any) (Q' := Q) (l.drop n) n (Array.replicate n true ++ Array.replicate (l.toArray.size - n) false) a' w' (fun j => by simp [List.getElem?_drop]) (by rw [hdl]; exact hseq) (hq w' hb hF)
    rwa [hdl] at this) n (List.range' 0 n) (Array.replicate l.toArray.size false) a { w with drawn := w.drawn + 1 } (fun _ => True) (fun _ => False) (by simp) inv0
    (fun i => by
      simp only [List.mem_range', Nat.zero_add, Nat.one_mul]
      constructor
      · rintro ⟨i, hi, rfl⟩
        exact ⟨hi, getD_in (by simp; omega) (getD_replicate_false _ _)⟩
      · intro hi
        exact ⟨i, hi.1, rfl⟩) (List.pairwise_lt_range' ..) ⟨rfl, rfl, rfl, Nat.le_refl _, fun _ _ => rfl⟩ trivial (fun _ _ _ _ => trivial) (fun _ h => h.elim) hwf
  rw [show n + (l.toArray.size - n) = l.toArray.size by simp; omega] at this
  exact this

end Go.Proofs.Ytognbeejobfpfaa
