/- A region whose order is open, whose calls lay blocks, and that lays blocks of its own (allocations, slices of parts) anywhere: walked once, in the order of the text. No program is named here. -/
import Derived.Test.YtognbeejobfpfaaQuietT
namespace Go.Proofs.Ytognbeejobfpfaa
open Go.RowKit Go.Sort
set_option linter.unusedVariables false
set_option linter.unusedSimpArgs false

/-- Block number g is x. -/
def Has (g : Nat) (x : Obj) (w : World) : Prop := w.heap[g]? = some x
theorem Has.lt {g : Nat} {x : Obj} {w : World} (h : Has g x w) : g < w.heap.size := (Array.getElem?_eq_some_iff.1 h).1
theorem Has.stay {g : Nat} {x : Obj} {w w' : World} (h : Has g x w) (hb : Below w.heap.size w w') : Has g x w' := (hb.block g h.lt).trans h
theorem Has.cell {g : Nat} {c : Array Value} {T : TypeId} {w : World} (h : Has g (.cells c T) w) (o : Nat) : w.cell? ⟨g, o, none⟩ = c[o]? := by
  unfold Has at h
  simp [World.cell?, h]
theorem Has.free {g : Nat} {c : Array Value} {T : TypeId} {w : World} (h : Has g (.cells c T) w) (o : Nat) : w.frozen? ⟨g, o, none⟩ = false := by
  unfold Has at h
  simp [World.frozen?, h]

/-- A new block as a value: a pointer to it; a slice of all of it. -/
def fval (m : Option Nat) (g : Nat) : Value := match m with | none => .pointer (some ⟨g, 0, none⟩) | some n => .slice (some ⟨g, 0, none⟩) n n
theorem fval_inj {m m' : Option Nat} {g : Nat} (h : fval m g = fval m' g) : m = m' := by
  cases m <;> cases m' <;> simp_all [fval]

def isFresh (o : Oper) : Bool := match o.op with | .alloc _ => true | .buildSlice _ _ _ => true | .box _ _ => true | _ => false

def plainUpon (w : World) (v : Value) : Result Next → Prop
  | .ok (.value u) w' => w' = w ∧ u = v
  | .ok .skip w' => w' = w ∧ v = undef
  | _ => False
theorem plainUpon_one {w : World} {v v' : Value} {r : Result Next} (h : plainUpon w v r) (h' : plainUpon w v' r) : v = v' := by
  cases r with
  | ok n w' => cases n <;> simp_all [plainUpon]
  | halt x w' => simp [plainUpon] at h
def retUpon (P : Program) (w : World) (v : Value) : Result Next → Prop
  | .ok (.value u) w' => w' = w ∧ u = v
  | .ok .skip w' => w' = w ∧ v = undef
  | .ok (.enter f args) w' => w' = w ∧ Calls P f args w (Ret v w)
  | _ => False
theorem plain_ret {P : Program} {w : World} {v : Value} {r : Result Next} (h : plainUpon w v r) : retUpon P w v r := by
  cases r with
  | ok n w' => cases n <;> simp_all [plainUpon, retUpon]
  | halt x w' => simp [plainUpon] at h

def reachB (ops : Array Oper) : Nat → Nat → Nat → Bool
  | 0, _, _ => false
  | f + 1, j, i => match ops[j]? with
    | none => false
    | some o => o.after.any fun e => Region.binds .any e && (e.on == i || reachB ops f e.on i)
/-- Operation j waits for whatever lays a block ahead of it. -/
def depB (ops : Array Oper) (j : Nat) : Bool := (List.range j).all fun i => match ops[i]? with
  | none => true
  | some o => !isFresh o || reachB ops j j i

section
variable {P : Program} {ops : Array Oper} {w0 : World}

/-- One operation: (A) it yields one value in every world that has grown, (B) it waits for all blocks that the region lays ahead of it, and yields one value in every such world that holds them, (C) it lays a block. -/
def StF (P : Program) (ops : Array Oper) (w0 : World) (dep : Bool) (o : Oper) (F : World → Prop) (U : Nat → Prop) (a : Act) (K : (World → Prop) → (Nat → Prop) → Act → Prop) : Prop :=
  (∃ v, ((Region.wanted o (yielded ops a.tmps) = true ∧ ∀ w', Below w0.heap.size w0 w' → plainUpon w' v ((execOp a.eval o).run P w')) ∨ (Region.wanted o (yielded ops a.tmps) = false ∧ v = undef)) ∧ K F U (a.put o.dst v)) ∨
  (dep = true ∧ Region.wanted o (yielded ops a.tmps) = true ∧ ∃ v, (∀ w', Below w0.heap.size w0 w' → F w' → retUpon P w' v ((execOp a.eval o).run P w')) ∧ K F U (a.put o.dst v)) ∨
  (isFresh o = true ∧ Region.wanted o (yielded ops a.tmps) = true ∧ ∃ m x, (∀ w', Below w0.heap.size w0 w' → (execOp a.eval o).run P w' = .ok (.value (fval m w'.heap.size)) (w'.alloc x)) ∧
    ∀ g, w0.heap.size ≤ g → ¬ U g → K (fun w' => F w' ∧ Has g x w') (fun y => U y ∨ y = g) (a.put o.dst (fval m g)))

/-- U ends somewhere. -/
def Ends (U : Nat → Prop) : Prop := ∃ M, ∀ x, U x → x < M
theorem Ends.more {U : Nat → Prop} (h : Ends U) (g : Nat) : Ends (fun y => U y ∨ y = g) := by
  obtain ⟨M, hM⟩ := h
  exact ⟨max M (g + 1), fun x hx => by rcases hx with hx | rfl; have := hM x hx; omega; omega⟩

theorem StF.mono {dep : Bool} {o : Oper} {F : World → Prop} {U : Nat → Prop} {a : Act} {K K' : (World → Prop) → (Nat → Prop) → Act → Prop} (hU : Ends U) (hK : ∀ F U a, Ends U → K F U a → K' F U a)
    (h : StF P ops w0 dep o F U a K) : StF P ops w0 dep o F U a K' := by
  rcases h with ⟨v, hv, hk⟩ | ⟨hd, hw, v, hv, hk⟩ | ⟨hf, hw, m, x, hv, hk⟩
  · exact .inl ⟨v, hv, hK _ _ _ hU hk⟩
  · exact .inr (.inl ⟨hd, hw, v, hv, hK _ _ _ hU hk⟩)
  · exact .inr (.inr ⟨hf, hw, m, x, hv, fun g h1 h2 => hK _ _ _ (hU.more g) (hk g h1 h2)⟩)

def WF (P : Program) (ops : Array Oper) (w0 : World) (Q : (World → Prop) → Act → Prop) : List Nat → (World → Prop) → (Nat → Prop) → Act → Prop
  | [], F, _, a => Q F a
  | j :: js, F, U, a => match ops[j]? with
    | none => WF P ops w0 Q js F U a
    | some o => StF P ops w0 (depB ops j) o F U a (WF P ops w0 Q js)

/-- Two that are apart may change places. -/
theorem StF.swap {di dj : Bool} {oi oj : Oper} {F : World → Prop} {U : Nat → Prop} {a : Act} {K : (World → Prop) → (Nat → Prop) → Act → Prop} (hap : oi.apart ops oj = true)
    (hsi : ∀ cs b, oi.op ≠ .select cs b) (hsj : ∀ cs b, oj.op ≠ .select cs b) (hd : isFresh oi = true → dj = false) (hU : Ends U)
    (h : StF P ops w0 di oi F U a (fun F U a => StF P ops w0 dj oj F U a K)) : StF P ops w0 dj oj F U a (fun F U a => StF P ops w0 di oi F U a K) := by
  obtain ⟨h1, h2, h3⟩ := Oper.apart_spec hap
  have ej : ∀ v, execOp (a.put oi.dst v).eval oj = execOp a.eval oj := fun v => execOp_put oj hsj a oi.dst v h1
  have wj : ∀ v, Region.wanted oj (yielded ops (a.put oi.dst v).tmps) = Region.wanted oj (yielded ops a.tmps) := fun v => wanted_put oj a oi.dst v h1
  have ei : ∀ v, execOp (a.put oj.dst v).eval oi = execOp a.eval oi := fun v => execOp_put oi hsi a oj.dst v h3
  have wi : ∀ v, Region.wanted oi (yielded ops (a.put oj.dst v).tmps) = Region.wanted oi (yielded ops a.tmps) := fun v => wanted_put oi a oj.dst v h3
  have ec : ∀ v u, (a.put oi.dst v).put oj.dst u = (a.put oj.dst u).put oi.dst v := fun v u => Act.put_comm a v u h2
  rcases h with ⟨v, hv, hk⟩ | ⟨hdi, hw, v, hv, hk⟩ | ⟨hf, hw, m, x, hv, hk⟩
  · have hv' : ∀ u, (Region.wanted oi (yielded ops (a.put oj.dst u).tmps) = true ∧ ∀ w', Below w0.heap.size w0 w' → plainUpon w' v ((execOp (a.put oj.dst u).eval oi).run P w')) ∨ (Region.wanted oi (yielded ops (a.put oj.dst u).tmps) = false ∧ v = undef) := fun u => by rw [ei, wi]; exact hv
    rcases hk with ⟨u, hu, hk⟩ | ⟨hdj, hwj, u, hu, hk⟩ | ⟨hf, hwj, m, x, hu, hk⟩
    · rw [ej, wj] at hu; exact .inl ⟨u, hu, .inl ⟨v, hv' u, by rw [← ec]; exact hk⟩⟩
    · rw [wj] at hwj; exact .inr (.inl ⟨hdj, hwj, u, fun w' hb hF => by have := hu w' hb hF; rwa [ej] at this, .inl ⟨v, hv' u, by rw [← ec]; exact hk⟩⟩)
    · rw [wj] at hwj; exact .inr (.inr ⟨hf, hwj, m, x, fun w' hb => by have := hu w' hb; rwa [ej] at this, fun g g1 g2 => .inl ⟨v, hv' _, by rw [← ec]; exact hk g g1 g2⟩⟩)
  · have hv' : ∀ u w', Below w0.heap.size w0 w' → F w' → retUpon P w' v ((execOp (a.put oj.dst u).eval oi).run P w') := fun u w' hb hF => by rw [ei]; exact hv w' hb hF
    have hw' : ∀ u, Region.wanted oi (yielded ops (a.put oj.dst u).tmps) = true := fun u => by rw [wi]; exact hw
    rcases hk with ⟨u, hu, hk⟩ | ⟨hdj, hwj, u, hu, hk⟩ | ⟨hf, hwj, m, x, hu, hk⟩
    · rw [ej, wj] at hu; exact .inl ⟨u, hu, .inr (.inl ⟨hdi, hw' u, v, hv' u, by rw [← ec]; exact hk⟩)⟩
    · rw [wj] at hwj; exact .inr (.inl ⟨hdj, hwj, u, fun w' hb hF => by have := hu w' hb hF; rwa [ej] at this, .inr (.inl ⟨hdi, hw' u, v, hv' u, by rw [← ec]; exact hk⟩)⟩)
    · rw [wj] at hwj; exact .inr (.inr ⟨hf, hwj, m, x, fun w' hb => by have := hu w' hb; rwa [ej] at this, fun g g1 g2 => .inr (.inl ⟨hdi, hw' _, v, fun w' hb hF => hv' _ w' hb hF.1, by rw [← ec]; exact hk g g1 g2⟩)⟩)
  · have hd' := hd hf
    obtain ⟨M, hM⟩ := hU
    have g1 : w0.heap.size ≤ max M w0.heap.size := by omega
    have g2 : ¬ U (max M w0.heap.size) := fun h => by have := hM _ h; omega
    have hv' : ∀ u w', Below w0.heap.size w0 w' → (execOp (a.put oj.dst u).eval oi).run P w' = .ok (.value (fval m w'.heap.size)) (w'.alloc x) := fun u w' hb => by rw [ei]; exact hv w' hb
    have hw' : ∀ u, Region.wanted oi (yielded ops (a.put oj.dst u).tmps) = true := fun u => by rw [wi]; exact hw
    rcases hk _ g1 g2 with ⟨u, hu, -⟩ | ⟨hdj, -⟩ | ⟨hfj, hwj, mj, xj, hu, -⟩
    · refine .inl ⟨u, by rw [ej, wj] at hu; exact hu, .inr (.inr ⟨hf, hw' u, m, x, hv' u, fun g k1 k2 => ?_⟩)⟩
      rw [← ec]
      rw [ej, wj] at hu
      rcases hk g k1 k2 with ⟨u', hu', hk'⟩ | ⟨hdj, -⟩ | ⟨hfj, hwj, mj, xj, hu', -⟩
      · have : u = u' := by
          rw [ej, wj] at hu'
          rcases hu with ⟨p1, p2⟩ | ⟨p1, p2⟩ <;> rcases hu' with ⟨q1, q2⟩ | ⟨q1, q2⟩
          · exact plainUpon_one (p2 w0 (Below.refl _ _)) (q2 w0 (Below.refl _ _))
          · rw [p1] at q1; cases q1
          · rw [p1] at q1; cases q1
          · rw [p2, q2]
        rw [this]; exact hk'
      · rw [hd'] at hdj; cases hdj
      · exfalso
        rw [wj] at hwj
        rcases hu with ⟨p1, p2⟩ | ⟨p1, p2⟩
        · have e1 := p2 w0 (Below.refl _ _)
          have e2 := hu' w0 (Below.refl _ _)
          rw [ej] at e2
          rw [e2] at e1
          have e3 := congrArg (fun w => w.heap.size) e1.1
          simp at e3
        · rw [p1] at hwj; cases hwj
    · rw [hd'] at hdj; cases hdj
    · rw [wj] at hwj
      refine .inr (.inr ⟨hfj, hwj, mj, xj, fun w' hb => by have := hu w' hb; rwa [ej] at this, fun gj k1 k2 => .inr (.inr ⟨hf, hw' _, m, x, hv' _, fun gi l1 l2 => ?_⟩)⟩)
      rw [← ec]
      rcases hk gi l1 (fun h => l2 (.inl h)) with ⟨u', hu', hk'⟩ | ⟨hdj, -⟩ | ⟨-, hwj', mj', xj', hu', hk'⟩
      · exfalso
        rcases hu' with ⟨p1, p2⟩ | ⟨p1, p2⟩
        · have e1 := p2 w0 (Below.refl _ _)
          have e2 := hu w0 (Below.refl _ _)
          rw [ej] at e1 e2
          rw [e2] at e1
          have e3 := congrArg (fun w => w.heap.size) e1.1
          simp at e3
        · rw [wj, hwj] at p1; cases p1
      · rw [hd'] at hdj; cases hdj
      · have e1 := hu' w0 (Below.refl _ _)
        have e2 := hu w0 (Below.refl _ _)
        rw [ej] at e1 e2
        rw [e2] at e1
        injection e1 with e3 e4
        injection e3 with e3
        have em := fval_inj e3
        have ex : xj = xj' := by
          have := congrArg (fun w => w.heap) e4
          simp only [World.alloc] at this
          exact (Array.push_inj_right.1 this)
        subst em ex
        have := hk' gj k1 (fun h => by rcases h with h | h; exact k2 h; exact l2 (.inr h.symm))
        have f1 : (fun w' => (F w' ∧ Has gi x w') ∧ Has gj xj w') = (fun w' => (F w' ∧ Has gj xj w') ∧ Has gi x w') := by
          funext w'; exact propext ⟨fun ⟨⟨a, b⟩, c⟩ => ⟨⟨a, c⟩, b⟩, fun ⟨⟨a, b⟩, c⟩ => ⟨⟨a, c⟩, b⟩⟩
        have f2 : (fun y => (U y ∨ y = gi) ∨ y = gj) = (fun y => (U y ∨ y = gj) ∨ y = gi) := by
          funext y; exact propext ⟨fun h => by rcases h with (h | h) | h; exact .inl (.inl h); exact .inr h; exact .inl (.inr h), fun h => by rcases h with (h | h) | h; exact .inl (.inl h); exact .inr h; exact .inl (.inr h)⟩
        rw [f1, f2] at this
        exact this

/-- Any operation that none ahead of it holds back may be taken first. -/
theorem WF.first {Q : (World → Prop) → Act → Prop} {j : Nat} {oj : Oper} {post : List Nat} (hj : ops[j]? = some oj) (hsel : ∀ (j : Nat) (o : Oper) cs b, ops[j]? = some o → o.op ≠ .select cs b) :
    ∀ (pre : List Nat) (F : World → Prop) (U : Nat → Prop) (a : Act), Ends U → (∀ i ∈ pre, ∀ oi, ops[i]? = some oi → oi.apart ops oj = true ∧ (isFresh oi = true → depB ops j = false)) →
    WF P ops w0 Q (pre ++ j :: post) F U a → StF P ops w0 (depB ops j) oj F U a (WF P ops w0 Q (pre ++ post))
  | [], F, U, a, hU, hp, h => by
    simp only [List.nil_append, WF, hj] at h
    exact h
  | i :: pre, F, U, a, hU, hp, h => by
    simp only [List.cons_append, WF] at h
    cases hi : ops[i]? with
    | none =>
      simp only [hi] at h
      have := WF.first hj hsel pre F U a hU (fun k hk => hp k (List.mem_cons_of_mem _ hk)) h
      refine this.mono hU fun F U a _ hh => ?_
      simp only [List.cons_append, WF, hi]
      exact hh
    | some oi =>
      simp only [hi] at h
      obtain ⟨h1, h2⟩ := hp i (List.mem_cons_self ..) oi hi
      have h' := h.mono hU (fun F U a hU hh => WF.first hj hsel pre F U a hU (fun k hk => hp k (List.mem_cons_of_mem _ hk)) hh)
      have := h'.swap h1 (fun cs b => hsel i oi cs b hi) (fun cs b => hsel j oj cs b hj) h2 hU
      refine this.mono hU fun F U a _ hh => ?_
      simp only [List.cons_append, WF, hi]
      exact hh

def pairB (ops : Array Oper) (n : Nat) : Bool := (List.range n).all fun j => (List.range j).all fun i => Region.waitsFor .any ops j i || (match ops[i]?, ops[j]? with | some oi, some oj => oi.apart ops oj | _, _ => false)
def backB (ops : Array Oper) (n : Nat) : Bool := (List.range n).all fun j => match ops[j]? with | some o => o.after.all fun e => !Region.binds .any e || decide (e.on < j) | none => false
/-- The region's first n operations may be walked in the order of the text; what stands behind them has one order. -/
def freshB (ops : Array Oper) (n : Nat) : Bool :=
  Region.noSelect ops && decide (n ≤ ops.size) && pairB ops n && backB ops n && (decide (n = ops.size) || (Region.sinkB .any ops n && Region.chainB .any ops n)) &&
  Region.seqB .any ops (ops.size - n) n (Array.replicate n true ++ Array.replicate (ops.size - n) false)

theorem reach_listed {listed : Array Bool} {n : Nat} (inv : HeadInv .any ops n listed) : ∀ (f j i : Nat) (oj : Oper), ops[j]? = some oj → (∀ e ∈ oj.after, Region.binds .any e = true → listed.getD e.on false = true) → reachB ops f j i = true → listed.getD i false = true
  | 0, j, i, oj, hj, hall, h => by simp [reachB] at h
  | f + 1, j, i, oj, hj, hall, h => by
    simp only [reachB, hj] at h
    obtain ⟨e, he, hb⟩ := Array.any_eq_true'.1 h
    simp only [Bool.and_eq_true, Bool.or_eq_true, beq_iff_eq] at hb
    have hl := hall e he hb.1
    rcases hb.2 with h2 | h2
    · rw [← h2]; exact hl
    · cases ho : ops[e.on]? with
      | none => cases f <;> simp [reachB, ho] at h2
      | some oe => exact reach_listed inv f e.on i oe ho (fun e' he' hb' => inv.closed e.on oe ho hl e' he' hb') h2

def Stay (F : World → Prop) : Prop := ∀ w1 w2, Below w1.heap.size w1 w2 → F w1 → F w2

theorem any_of_WF {Q : (World → Prop) → Act → Prop} {Q' : Exit → Act → World → Prop} {n : Nat} (hB : freshB ops n = true)
    (hfin : ∀ F a w', Below w0.heap.size w0 w' → F w' → Q F a → wpAny P .any ops Q' (ops.size - n) (Array.replicate n true ++ Array.replicate (ops.size - n) false) a w') :
    ∀ (m : Nat) (js : List Nat) (listed : Array Bool) (a : Act) (w' : World) (F : World → Prop) (U : Nat → Prop), js.length = m → HeadInv .any ops n listed → (∀ i, i ∈ js ↔ i < n ∧ listed.getD i true = false) → js.Pairwise (· < ·) →
    Below w0.heap.size w0 w' → F w' → Stay F → (∀ x, U x → x < w'.heap.size) → WF P ops w0 Q js F U a → wpAny P .any ops Q' (m + (ops.size - n)) listed a w' := by
  unfold freshB at hB
  simp only [Bool.and_eq_true, Bool.or_eq_true, decide_eq_true_eq] at hB
  obtain ⟨⟨⟨⟨⟨hsel, hn⟩, hpair⟩, hback⟩, hsink⟩, hseq⟩ := hB
  have hsel' := Region.noSelect_spec hsel
  intro m
  induction m with
  | zero =>
    intro js listed a w' F U hm inv hjs hso hb hF hst hU h
    obtain rfl : js = [] := List.length_eq_zero_iff.1 hm
    have hl : listed = Array.replicate n true ++ Array.replicate (ops.size - n) false := by
      apply Array.ext
      · simp [inv.size]; omega
      · intro i h1 h2
        by_cases hi : i < n
        · have : ¬ (i < n ∧ listed.getD i true = false) := fun h => by have := (hjs i).2 h; cases this
          rw [Array.getElem_append_left (by simpa using hi)]
          simp only [Array.getElem_replicate]
          have h3 : ¬ listed.getD i true = false := fun h => this ⟨hi, h⟩
          simpa [h1] using h3
        · rw [Array.getElem_append_right (by simpa using hi)]
          simp only [Array.getElem_replicate]
          have h3 := inv.tail i (by omega) (by rw [← inv.size]; exact h1)
          simpa [h1] using h3
    rw [Nat.zero_add, hl]
    exact hfin F a w' hb hF h
  | succ m ih =>
    intro js listed a w' F U hm inv hjs hso hb hF hst hU h
    rw [show m + 1 + (ops.size - n) = (m + (ops.size - n)) + 1 by omega]
    cases hk : js with
    | nil => rw [hk] at hm; cases hm
    | cons k js' =>
    have hkn := (hjs k).1 (by rw [hk]; simp)
    have hkr : k ∈ Region.ready .any ops listed := by
      have hks : k < ops.size := by omega
      refine mem_ready.2 ⟨hkn.2, ops[k], by simp [hks], fun e he hbi => ?_⟩
      have h1 := List.all_eq_true.1 hback k (List.mem_range.2 hkn.1)
      have hsome : ops[k]? = some ops[k] := by simp [hks]
      simp only [hsome] at h1
      have h2 := Array.all_eq_true_iff_forall_mem.1 h1 e he
      simp only [Bool.or_eq_true, Bool.not_eq_true', decide_eq_true_eq, hbi, Bool.true_eq_false, false_or] at h2
      have h3 : e.on ∉ js := fun hm => by
        rw [hk] at hm hso
        rcases List.mem_cons.1 hm with e1 | e1
        · omega
        · have := (List.pairwise_cons.1 hso).1 _ e1
          omega
      have h4 : ¬ listed.getD e.on true = false := fun hh => h3 ((hjs e.on).2 ⟨by omega, hh⟩)
      have h5 : e.on < listed.size := by rw [inv.size]; omega
      simp [h5] at h4 ⊢
      exact h4
    refine ⟨fun h0 => (by rw [h0] at hkr; cases hkr), fun j hj => ?_⟩
    have hjn : j < n := by
      rcases hsink with hs | hsc
      · obtain ⟨-, o, ho, -⟩ := mem_ready.1 hj
        have := (Array.getElem?_eq_some_iff.1 ho).1
        omega
      · obtain ⟨hs, hc⟩ := hsc
        by_cases hns : n < ops.size
        · rcases Nat.lt_or_ge j n with h1 | h1
          · exact h1
          · exact absurd hj (tail_waits hs hc hns inv _ k rfl hkn.1 hkn.2 j h1)
        · obtain ⟨-, o, ho, -⟩ := mem_ready.1 hj
          have := (Array.getElem?_eq_some_iff.1 ho).1
          omega
    obtain ⟨hjun, oj, hoj, hall⟩ := mem_ready.1 hj
    have hjm : j ∈ js := (hjs j).2 ⟨hjn, hjun⟩
    obtain ⟨pre, post, hsp⟩ := List.append_of_mem hjm
    have hso' := hso
    rw [hsp] at hso'
    rw [List.pairwise_append, List.pairwise_cons] at hso'
    obtain ⟨s1, ⟨s2, s3⟩, s4⟩ := hso'
    have hpre : ∀ i ∈ pre, ∀ oi, ops[i]? = some oi → oi.apart ops oj = true ∧ (isFresh oi = true → depB ops j = false) := by
      intro i hi oi hoi
      have hij : i < j := s4 i hi j (by simp)
      have hiu := ((hjs i).1 (by rw [hsp]; simp [hi])).2
      constructor
      · have h1 := List.all_eq_true.1 (List.all_eq_true.1 hpair j (List.mem_range.2 hjn)) i (List.mem_range.2 hij)
        simp only [hoi, hoj, Bool.or_eq_true] at h1
        rcases h1 with h1 | h1
        · exfalso
          obtain ⟨o', ho', e, he, hbi, hon⟩ := Region.waitsFor_spec h1
          have : o' = oj := Option.some.inj (ho'.symm.trans hoj)
          subst this
          have h2 := hall e he hbi
          rw [hon, getD_both hiu] at h2
          cases h2
        · exact h1
      · intro hfr
        cases hd : depB ops j with
        | false => rfl
        | true =>
          exfalso
          have h1 := List.all_eq_true.1 hd i (List.mem_range.2 hij)
          simp only [hoi, hfr, Bool.not_true, Bool.false_or] at h1
          have h2 := reach_listed inv j j i oj hoj hall h1
          rw [getD_both hiu] at h2
          cases h2
    have hstep := WF.first hoj hsel' pre F U a ⟨w'.heap.size, hU⟩ hpre (by rw [← hsp]; exact h)
    have inv' := inv.set hj hjn
    have hjs' : ∀ i, i ∈ pre ++ post ↔ i < n ∧ (listed.setIfInBounds j true).getD i true = false := by
      intro i
      by_cases hij : j = i
      · subst hij
        constructor
        · intro hm
          exfalso
          rcases List.mem_append.1 hm with h1 | h1
          · have := s4 j h1 j (by simp); omega
          · have := s2 j h1; omega
        · intro ⟨_, h2⟩
          exfalso
          have : j < listed.size := by rw [inv.size]; omega
          simp [this] at h2
      · rw [getD_set_ne true hij, ← hjs i, hsp]
        simp [Ne.symm hij]
    have hso2 : (pre ++ post).Pairwise (· < ·) := by
      rw [List.pairwise_append]
      exact ⟨s1, s3, fun x hx y hy => s4 x hx y (by simp [hy])⟩
    have hlen : (pre ++ post).length = m := by
      have := congrArg List.length hsp
      simp at this ⊢
      omega
    have go : ∀ (F' : World → Prop) (U' : Nat → Prop) a' w'', Below w0.heap.size w0 w'' → F' w'' → Stay F' → (∀ x, U' x → x < w''.heap.size) → WF P ops w0 Q (pre ++ post) F' U' a' → wpAny P .any ops Q' (m + (ops.size - n)) (listed.setIfInBounds j true) a' w'' :=
      fun F' U' a' w'' h1 h2 h3 h4 h5 => ih _ _ a' w'' F' U' hlen inv' hjs' hso2 h1 h2 h3 h4 h5
    unfold wpOp
    simp only [hoj]
    rcases hstep with ⟨v, hv, hk'⟩ | ⟨hd, hw, v, hv, hk'⟩ | ⟨hf, hw, mm, x, hv, hk'⟩
    · rcases hv with ⟨hw, hv⟩ | ⟨hw, rfl⟩
      · rw [if_pos hw]
        refine .inl ?_
        have h1 := hv w' hb
        unfold Oper.wp
        generalize (execOp a.eval oj).run P w' = r at h1 ⊢
        cases r with
        | ok nx w2 =>
          cases nx <;> simp only [plainUpon] at h1 <;> simp only [Oper.upon]
          · obtain ⟨rfl, rfl⟩ := h1; exact go F U _ _ hb hF hst hU hk'
          · obtain ⟨rfl, rfl⟩ := h1; exact go F U _ _ hb hF hst hU hk'
        | halt _ _ => simp only [plainUpon] at h1
      · rw [if_neg (by rw [hw]; exact Bool.false_ne_true)]
        exact go F U _ _ hb hF hst hU hk'
    · rw [if_pos hw]
      refine .inl ?_
      have h1 := hv w' hb hF
      unfold Oper.wp
      generalize (execOp a.eval oj).run P w' = r at h1 ⊢
      cases r with
      | ok nx w2 =>
        cases nx <;> simp only [retUpon] at h1 <;> simp only [Oper.upon]
        · obtain ⟨rfl, rfl⟩ := h1; exact go F U _ _ hb hF hst hU hk'
        · obtain ⟨rfl, rfl⟩ := h1; exact go F U _ _ hb hF hst hU hk'
        · obtain ⟨rfl, hc⟩ := h1
          exact hc.mono fun e w3 ⟨he, hb3⟩ => by
            subst he
            exact go F U _ _ (Below.next hb hb3) (hst _ _ hb3 hF) hst (fun x hx => Nat.lt_of_lt_of_le (hU x hx) hb3.size) hk'
      | halt _ _ => simp only [retUpon] at h1
    · rw [if_pos hw]
      refine .inl ?_
      unfold Oper.wp
      rw [hv w' hb]
      simp only [Oper.upon]
      have hba : Below w'.heap.size w' (w'.alloc x) := (Below.refl _ _).alloc (Nat.le_refl _) _
      refine go _ _ _ _ (Below.next hb hba) ⟨hst _ _ hba hF, ?_⟩ (fun w1 w2 h12 h => ⟨hst _ _ h12 h.1, h.2.stay h12⟩) ?_ (hk' w'.heap.size hb.size (fun hh => absurd (hU _ hh) (Nat.lt_irrefl _)))
      · intro y hy
        have : (w'.alloc x).heap.size = w'.heap.size + 1 := by simp
        rcases hy with hy | hy
        · have := hU y hy; omega
        · omega
      · unfold Has; rw [alloc_eq_grow]; show (w'.heap ++ #[x])[w'.heap.size]? = some x; simp

/-- The lexical walk, over the operations themselves. -/
def WL (P : Program) (ops : Array Oper) (w0 : World) (Q : (World → Prop) → Act → Prop) : Nat → List Oper → (World → Prop) → (Nat → Prop) → Act → Prop
  | _, [], F, _, a => Q F a
  | k, o :: l, F, U, a => StF P ops w0 (depB ops k) o F U a (WL P ops w0 Q (k + 1) l)

theorem WF_of_WL {Q : (World → Prop) → Act → Prop} : ∀ (l : List Oper) (k : Nat) (F : World → Prop) (U : Nat → Prop) (a : Act), (∀ j, j < l.length → l[j]? = ops[k + j]?) → Ends U → WL P ops w0 Q k l F U a → WF P ops w0 Q (List.range' k l.length) F U a
  | [], k, F, U, a, hl, hU, h => h
  | o :: l, k, F, U, a, hl, hU, h => by
    have h0 : ops[k]? = some o := by simpa using (hl 0 (by simp)).symm
    simp only [List.length_cons, List.range'_succ, WF, h0]
    exact StF.mono hU (fun F U a hU hh => WF_of_WL l (k + 1) F U a (fun j hj => by have := hl (j + 1) (by simp; omega); simpa [Nat.add_assoc, Nat.add_comm 1 j] using this) hU hh) h

theorem WL_nil {Q : (World → Prop) → Act → Prop} {k : Nat} {F : World → Prop} {U : Nat → Prop} {a : Act} (h : Q F a) : WL P ops w0 Q k [] F U a := h
theorem WL_plain {Q : (World → Prop) → Act → Prop} {k : Nat} {o : Oper} {l : List Oper} {F : World → Prop} {U : Nat → Prop} {a : Act}
    (h : ∀ K : Act → Prop, (∀ a, WL P ops w0 Q (k + 1) l F U a → K a) → if Region.wanted o (yielded ops a.tmps) then ∃ v, (∀ p : Regrown, plainUpon (grow (redrawn w0 p.d) p.os) v ((execOp a.eval o).run P (grow (redrawn w0 p.d) p.os))) ∧ K (a.put o.dst v) else K (a.put o.dst undef)) :
    WL P ops w0 Q k (o :: l) F U a := by
  have h := h _ (fun _ h => h)
  refine .inl ?_
  split at h
  · rename_i hw
    obtain ⟨v, h1, h2⟩ := h
    exact ⟨v, .inl ⟨hw, fun w' hb => by obtain ⟨p, rfl⟩ := regrown_of_below hb; exact h1 p⟩, h2⟩
  · rename_i hw
    exact ⟨undef, .inr ⟨by simpa using hw, rfl⟩, h⟩
theorem WL_call {Q : (World → Prop) → Act → Prop} {k : Nat} {o : Oper} {l : List Oper} {F : World → Prop} {U : Nat → Prop} {a : Act} (hd : depB ops k = true)
    (h : ∀ K : Act → Prop, (∀ a, WL P ops w0 Q (k + 1) l F U a → K a) → Region.wanted o (yielded ops a.tmps) = true ∧ ∃ v, (∀ w', Below w0.heap.size w0 w' → F w' → retUpon P w' v ((execOp a.eval o).run P w')) ∧ K (a.put o.dst v)) :
    WL P ops w0 Q k (o :: l) F U a := by
  obtain ⟨hw, v, h1, h2⟩ := h _ (fun _ h => h)
  exact .inr (.inl ⟨hd, hw, v, h1, h2⟩)
theorem WL_fresh {Q : (World → Prop) → Act → Prop} {k : Nat} {o : Oper} {l : List Oper} {F : World → Prop} {U : Nat → Prop} {a : Act} (m : Option Nat) (x : Obj) (hf : isFresh o = true)
    (hw : Region.wanted o (yielded ops a.tmps) = true) (hr : ∀ w', (execOp a.eval o).run P w' = .ok (.value (fval m w'.heap.size)) (w'.alloc x))
    (h : ∀ (g : Nat) (F' : World → Prop) (U' : Nat → Prop), w0.heap.size ≤ g → ¬ U g → (∀ w', F' w' → F w' ∧ Has g x w') → (∀ y, ¬ U' y → ¬ U y ∧ y ≠ g) → WL P ops w0 Q (k + 1) l F' U' (a.put o.dst (fval m g))) :
    WL P ops w0 Q k (o :: l) F U a :=
  .inr (.inr ⟨hf, hw, m, x, fun w' _ => hr w', fun g h1 h2 => h g _ _ h1 h2 (fun _ h => h) (fun y hy => ⟨fun h => hy (.inl h), fun h => hy (.inr h)⟩)⟩)

theorem WL_ptr {Q : (World → Prop) → Act → Prop} {k : Nat} {o : Oper} {l : List Oper} {F : World → Prop} {U : Nat → Prop} {a : Act} (x : Obj) (hf : isFresh o = true)
    (hw : Region.wanted o (yielded ops a.tmps) = true) (hr : ∀ w', (execOp a.eval o).run P w' = .ok (.value (fval none w'.heap.size)) (w'.alloc x))
    (h : ∀ (g : Nat) (F' : World → Prop) (U' : Nat → Prop), w0.heap.size ≤ g → ¬ U g → (∀ w', F' w' → F w' ∧ Has g x w') → (∀ y, ¬ U' y → ¬ U y ∧ y ≠ g) → WL P ops w0 Q (k + 1) l F' U' (a.put o.dst (.pointer (some ⟨g, 0, none⟩)))) :
    WL P ops w0 Q k (o :: l) F U a := WL_fresh none x hf hw hr h
theorem WL_slice {Q : (World → Prop) → Act → Prop} {k : Nat} {o : Oper} {l : List Oper} {F : World → Prop} {U : Nat → Prop} {a : Act} (n : Nat) (x : Obj) (hf : isFresh o = true)
    (hw : Region.wanted o (yielded ops a.tmps) = true) (hr : ∀ w', (execOp a.eval o).run P w' = .ok (.value (fval (some n) w'.heap.size)) (w'.alloc x))
    (h : ∀ (g : Nat) (F' : World → Prop) (U' : Nat → Prop), w0.heap.size ≤ g → ¬ U g → (∀ w', F' w' → F w' ∧ Has g x w') → (∀ y, ¬ U' y → ¬ U y ∧ y ≠ g) → WL P ops w0 Q (k + 1) l F' U' (a.put o.dst (.slice (some ⟨g, 0, none⟩) n n))) :
    WL P ops w0 Q k (o :: l) F U a := WL_fresh (some n) x hf hw hr h

end

theorem wp_region_fresh {P : Program} {id : Nat} {Q : Exit → Act → World → Prop} {a : Act} {w : World} {l : List Oper} (n : Nat) (hm : P.follows .mixedOrders = true) (hB : freshB l.toArray n = true)
    (h : WL P l.toArray w (fun F a' => ∀ w', Below w.heap.size w w' → F w' → wpList P l.toArray Q (l.drop n) a' w') 0 (l.take n) (fun _ => True) (fun _ => False) a) : (Code.region id l.toArray true).wp P Q a w := by
  have hn : n ≤ l.length := by
    unfold freshB at hB
    simp only [Bool.and_eq_true, decide_eq_true_eq] at hB
    simpa using hB.1.1.1.1.2
  have hseq : Region.seqB .any l.toArray (l.toArray.size - n) n (Array.replicate n true ++ Array.replicate (l.toArray.size - n) false) = true := by
    unfold freshB at hB
    simp only [Bool.and_eq_true] at hB
    exact hB.2
  have htl : (l.take n).length = n := by simp; omega
  have hdl : (l.drop n).length = l.toArray.size - n := by simp
  refine wp_region_any hm ?_
  have inv0 : HeadInv .any l.toArray n (Array.replicate l.toArray.size false) :=
    ⟨by simp, fun j oj _ hl => (by rw [getD_replicate_false] at hl; cases hl), fun t _ ht => getD_in (by simpa using ht) (getD_replicate_false _ _)⟩
  have hwf := WF_of_WL (ops := l.toArray) (l.take n) 0 _ _ a (fun j hj => by
    have hj' : j < n := by rw [htl] at hj; exact hj
    simp [hj']) ⟨0, fun _ h => h.elim⟩ h
  rw [htl] at hwf
  have := any_of_WF (P := P) (ops := l.toArray) (w0 := w) (Q' := Q) hB (fun F a' w' hb hF hq => by
    have := wpAny_of_seq (md := .any) (Q' := Q) (l.drop n) n (Array.replicate n true ++ Array.replicate (l.toArray.size - n) false) a' w' (fun j => by simp [List.getElem?_drop]) (by rw [hdl]; exact hseq) (hq w' hb hF)
    rwa [hdl] at this) n (List.range' 0 n) (Array.replicate l.toArray.size false) a { w with drawn := w.drawn + 1 } (fun _ => True) (fun _ => False) (by simp) inv0
    (fun i => by
      simp only [List.mem_range', Nat.zero_add, Nat.one_mul]
      constructor
      · rintro ⟨i, hi, rfl⟩
        exact ⟨hi, getD_in (by simp; omega) (getD_replicate_false _ _)⟩
      · intro hi
        exact ⟨i, hi.1, rfl⟩) (List.pairwise_lt_range' ..) ⟨rfl, rfl, rfl, Nat.le_refl _, fun _ _ => rfl⟩ trivial (fun _ _ _ _ => trivial) (fun _ h => h.elim) hwf
  rw [show n + (l.toArray.size - n) = l.toArray.size by simp; omega] at this
  exact this

/-- .. the world behind a name, the blocks' two ledgers behind variables. -/
theorem wp_region_fresh_gen {P : Program} {id : Nat} {Q : Exit → Act → World → Prop} {a : Act} {w : World} {l : List Oper} (n : Nat) (hm : P.follows .mixedOrders = true) (hB : freshB l.toArray n = true)
    (h : ∀ W, W = w → ∀ (F : World → Prop) (U : Nat → Prop), WL P l.toArray W (fun F a' => ∀ w', Below W.heap.size W w' → F w' → wpList P l.toArray Q (l.drop n) a' w') 0 (l.take n) F U a) : (Code.region id l.toArray true).wp P Q a w :=
  wp_region_fresh n hm hB (h w rfl _ _)

attribute [go_sem] plainUpon retUpon

end Go.Proofs.Ytognbeejobfpfaa
