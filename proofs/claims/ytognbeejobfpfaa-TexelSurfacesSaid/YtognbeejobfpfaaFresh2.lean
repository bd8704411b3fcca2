/- As XFresh, with stores into the region's own blocks anywhere (kind D): what waits for nothing may float behind them. No program is named here. -/
import Derived.Test.YtognbeejobfpfaaFresh
namespace Go.Proofs.Ytognbeejobfpfaa
open Go.RowKit Go.Sort
set_option linter.unusedVariables false
set_option linter.unusedSimpArgs false

def isStore (o : Oper) : Bool := match o.op with | .store _ _ _ => true | _ => false
def isCall (o : Oper) : Bool := match o.op with | .call _ => true | _ => false
/-- Operation j waits for all of a kind ahead of it. -/
def waitB (ops : Array Oper) (p : Oper → Bool) (j : Nat) : Bool := (List.range j).all fun i => match ops[i]? with
  | none => true
  | some o => !p o || reachB ops j j i
def depB2 (ops : Array Oper) (j : Nat) : Bool := waitB ops (fun o => isFresh o || isStore o) j
def depC2 (ops : Array Oper) (j : Nat) : Bool := waitB ops isStore j
def depD2 (ops : Array Oper) (j : Nat) : Bool := waitB ops (fun o => isFresh o || isStore o || isCall o) j
section
variable {P : Program} {ops : Array Oper} {w0 : World}

/-- One operation: (A) one value in every world that has grown, (B) a call that waits for all blocks and stores ahead of it, (C) it lays a block, (D) a store that waits for all blocks, stores and calls ahead of it. -/
def StF2 (P : Program) (ops : Array Oper) (w0 : World) (dB dC dD : Bool) (o : Oper) (F : World → Prop) (U : Nat → Prop) (a : Act) (K : (World → Prop) → (Nat → Prop) → Act → Prop) : Prop :=
  (∃ v, ((Region.wanted o (yielded ops a.tmps) = true ∧ ∀ w', Below w0.heap.size w0 w' → plainUpon w' v ((execOp a.eval o).run P w')) ∨ (Region.wanted o (yielded ops a.tmps) = false ∧ v = undef)) ∧ K F U (a.put o.dst v)) ∨
  (dB = true ∧ isCall o = true ∧ Region.wanted o (yielded ops a.tmps) = true ∧ ∃ v, (∀ w', Below w0.heap.size w0 w' → F w' → retUpon P w' v ((execOp a.eval o).run P w')) ∧ K F U (a.put o.dst v)) ∨
  (dC = true ∧ isFresh o = true ∧ Region.wanted o (yielded ops a.tmps) = true ∧ ∃ m x, (∀ w', Below w0.heap.size w0 w' → (execOp a.eval o).run P w' = .ok (.value (fval m w'.heap.size)) (w'.alloc x)) ∧
    ∀ g, w0.heap.size ≤ g → ¬ U g → K (fun w' => F w' ∧ Has g x w') (fun y => U y ∨ y = g) (a.put o.dst (fval m g))) ∨
  (dD = true ∧ isStore o = true ∧ Region.wanted o (yielded ops a.tmps) = true ∧ ∃ F' : World → Prop, Stay F' ∧ (∀ w', Below w0.heap.size w0 w' → F w' → ∃ w2, (execOp a.eval o).run P w' = .ok .skip w2 ∧ Below w0.heap.size w0 w2 ∧ w2.heap.size = w'.heap.size ∧ F' w2) ∧ K F' U (a.put o.dst undef))

theorem StF2.mono {dB dC dD : Bool} {o : Oper} {F : World → Prop} {U : Nat → Prop} {a : Act} {K K' : (World → Prop) → (Nat → Prop) → Act → Prop} (hU : Ends U) (hK : ∀ F U a, Ends U → K F U a → K' F U a)
    (h : StF2 P ops w0 dB dC dD o F U a K) : StF2 P ops w0 dB dC dD o F U a K' := by
  rcases h with ⟨v, hv, hk⟩ | ⟨hd, hc, hw, v, hv, hk⟩ | ⟨hd, hf, hw, m, x, hv, hk⟩ | ⟨hd, hs, hw, F', hst, hv, hk⟩
  · exact .inl ⟨v, hv, hK _ _ _ hU hk⟩
  · exact .inr (.inl ⟨hd, hc, hw, v, hv, hK _ _ _ hU hk⟩)
  · exact .inr (.inr (.inl ⟨hd, hf, hw, m, x, hv, fun g h1 h2 => hK _ _ _ (hU.more g) (hk g h1 h2)⟩))
  · exact .inr (.inr (.inr ⟨hd, hs, hw, F', hst, hv, hK _ _ _ hU hk⟩))

def WF2 (P : Program) (ops : Array Oper) (w0 : World) (Q : (World → Prop) → Act → Prop) : List Nat → (World → Prop) → (Nat → Prop) → Act → Prop
  | [], F, _, a => Q F a
  | j :: js, F, U, a => match ops[j]? with
    | none => WF2 P ops w0 Q js F U a
    | some o => StF2 P ops w0 (depB2 ops j) (depC2 ops j) (depD2 ops j) o F U a (WF2 P ops w0 Q js)

/-- Two that are apart may change places. -/
theorem StF2.swap {iB iC iD jB jC jD : Bool} {oi oj : Oper} {F : World → Prop} {U : Nat → Prop} {a : Act} {K : (World → Prop) → (Nat → Prop) → Act → Prop} (hap : oi.apart ops oj = true)
    (hsi : ∀ cs b, oi.op ≠ .select cs b) (hsj : ∀ cs b, oj.op ≠ .select cs b) (hdB : (isFresh oi || isStore oi) = true → jB = false) (hdC : isStore oi = true → jC = false) (hdD : (isFresh oi || isStore oi || isCall oi) = true → jD = false) (hU : Ends U)
    (h : StF2 P ops w0 iB iC iD oi F U a (fun F U a => StF2 P ops w0 jB jC jD oj F U a K)) : StF2 P ops w0 jB jC jD oj F U a (fun F U a => StF2 P ops w0 iB iC iD oi F U a K) := by
  obtain ⟨h1, h2, h3⟩ := Oper.apart_spec hap
  have ej : ∀ v, execOp (a.put oi.dst v).eval oj = execOp a.eval oj := fun v => execOp_put oj hsj a oi.dst v h1
  have wj : ∀ v, Region.wanted oj (yielded ops (a.put oi.dst v).tmps) = Region.wanted oj (yielded ops a.tmps) := fun v => wanted_put oj a oi.dst v h1
  have ei : ∀ v, execOp (a.put oj.dst v).eval oi = execOp a.eval oi := fun v => execOp_put oi hsi a oj.dst v h3
  have wi : ∀ v, Region.wanted oi (yielded ops (a.put oj.dst v).tmps) = Region.wanted oi (yielded ops a.tmps) := fun v => wanted_put oi a oj.dst v h3
  have ec : ∀ v u, (a.put oi.dst v).put oj.dst u = (a.put oj.dst u).put oi.dst v := fun v u => Act.put_comm a v u h2
  rcases h with ⟨v, hv, hk⟩ | ⟨hdi, hci, hw, v, hv, hk⟩ | ⟨hdi, hf, hw, m, x, hv, hk⟩ | ⟨hdi, hsi', hw, F', hst, hv, hk⟩
  · have hv' : ∀ u, (Region.wanted oi (yielded ops (a.put oj.dst u).tmps) = true ∧ ∀ w', Below w0.heap.size w0 w' → plainUpon w' v ((execOp (a.put oj.dst u).eval oi).run P w')) ∨ (Region.wanted oi (yielded ops (a.put oj.dst u).tmps) = false ∧ v = undef) := fun u => by rw [ei, wi]; exact hv
    rcases hk with ⟨u, hu, hk⟩ | ⟨hdj, hcj, hwj, u, hu, hk⟩ | ⟨hdj, hf, hwj, m, x, hu, hk⟩ | ⟨hdj, hs, hwj, F', hst, hu, hk⟩
    · rw [ej, wj] at hu; exact .inl ⟨u, hu, .inl ⟨v, hv' u, by rw [← ec]; exact hk⟩⟩
    · rw [wj] at hwj; exact .inr (.inl ⟨hdj, hcj, hwj, u, fun w' hb hF => by have := hu w' hb hF; rwa [ej] at this, .inl ⟨v, hv' u, by rw [← ec]; exact hk⟩⟩)
    · rw [wj] at hwj; exact .inr (.inr (.inl ⟨hdj, hf, hwj, m, x, fun w' hb => by have := hu w' hb; rwa [ej] at this, fun g g1 g2 => .inl ⟨v, hv' _, by rw [← ec]; exact hk g g1 g2⟩⟩))
    · rw [wj] at hwj; exact .inr (.inr (.inr ⟨hdj, hs, hwj, F', hst, fun w' hb hF => by have := hu w' hb hF; rwa [ej] at this, .inl ⟨v, hv' _, by rw [← ec]; exact hk⟩⟩))
  · have hv' : ∀ u w', Below w0.heap.size w0 w' → F w' → retUpon P w' v ((execOp (a.put oj.dst u).eval oi).run P w') := fun u w' hb hF => by rw [ei]; exact hv w' hb hF
    have hw' : ∀ u, Region.wanted oi (yielded ops (a.put oj.dst u).tmps) = true := fun u => by rw [wi]; exact hw
    rcases hk with ⟨u, hu, hk⟩ | ⟨hdj, hcj, hwj, u, hu, hk⟩ | ⟨hdj, hf, hwj, m, x, hu, hk⟩ | ⟨hdj, hs, hwj, F', hst, hu, hk⟩
    · rw [ej, wj] at hu; exact .inl ⟨u, hu, .inr (.inl ⟨hdi, hci, hw' u, v, hv' u, by rw [← ec]; exact hk⟩)⟩
    · rw [wj] at hwj; exact .inr (.inl ⟨hdj, hcj, hwj, u, fun w' hb hF => by have := hu w' hb hF; rwa [ej] at this, .inr (.inl ⟨hdi, hci, hw' u, v, hv' u, by rw [← ec]; exact hk⟩)⟩)
    · rw [wj] at hwj; exact .inr (.inr (.inl ⟨hdj, hf, hwj, m, x, fun w' hb => by have := hu w' hb; rwa [ej] at this, fun g g1 g2 => .inr (.inl ⟨hdi, hci, hw' _, v, fun w' hb hF => hv' _ w' hb hF.1, by rw [← ec]; exact hk g g1 g2⟩)⟩))
    · rw [hdD (by simp [hci])] at hdj; cases hdj
  · have hdB' := hdB (by simp [hf])
    have hdD' := hdD (by simp [hf])
    obtain ⟨M, hM⟩ := hU
    have g1 : w0.heap.size ≤ max M w0.heap.size := by omega
    have g2 : ¬ U (max M w0.heap.size) := fun h => by have := hM _ h; omega
    have hv' : ∀ u w', Below w0.heap.size w0 w' → (execOp (a.put oj.dst u).eval oi).run P w' = .ok (.value (fval m w'.heap.size)) (w'.alloc x) := fun u w' hb => by rw [ei]; exact hv w' hb
    have hw' : ∀ u, Region.wanted oi (yielded ops (a.put oj.dst u).tmps) = true := fun u => by rw [wi]; exact hw
    rcases hk _ g1 g2 with ⟨u, hu, -⟩ | ⟨hdj, -⟩ | ⟨hdj, hfj, hwj, mj, xj, hu, -⟩ | ⟨hdj, -⟩
    · refine .inl ⟨u, by rw [ej, wj] at hu; exact hu, .inr (.inr (.inl ⟨hdi, hf, hw' u, m, x, hv' u, fun g k1 k2 => ?_⟩))⟩
      rw [← ec]
      rw [ej, wj] at hu
      rcases hk g k1 k2 with ⟨u', hu', hk'⟩ | ⟨hdj, -⟩ | ⟨hdj, hfj, hwj, mj, xj, hu', -⟩ | ⟨hdj, -⟩
      · have : u = u' := by
          rw [ej, wj] at hu'
          rcases hu with ⟨p1, p2⟩ | ⟨p1, p2⟩ <;> rcases hu' with ⟨q1, q2⟩ | ⟨q1, q2⟩
          · exact plainUpon_one (p2 w0 (Below.refl _ _)) (q2 w0 (Below.refl _ _))
          · rw [p1] at q1; cases q1
          · rw [p1] at q1; cases q1
          · rw [p2, q2]
        rw [this]; exact hk'
      · rw [hdB'] at hdj; cases hdj
      · exfalso
        rw [wj] at hwj
        rcases hu with ⟨p1, p2⟩ | ⟨p1, p2⟩
        · have e1 := p2 w0 (Below.refl _ _)
          have e2 := hu' w0 (Below.refl _ _)
          rw [ej] at e2
          rw [e2] at e1
          have e3 := congrArg (fun w => w.heap.size) e1.1
          simp at e3
        · rw [p1] at hwj; cases hwj
      · rw [hdD'] at hdj; cases hdj
    · rw [hdB'] at hdj; cases hdj
    · rw [wj] at hwj
      refine .inr (.inr (.inl ⟨hdj, hfj, hwj, mj, xj, fun w' hb => by have := hu w' hb; rwa [ej] at this, fun gj k1 k2 => .inr (.inr (.inl ⟨hdi, hf, hw' _, m, x, hv' _, fun gi l1 l2 => ?_⟩))⟩))
      rw [← ec]
      rcases hk gi l1 (fun h => l2 (.inl h)) with ⟨u', hu', hk'⟩ | ⟨hdj, -⟩ | ⟨-, -, hwj', mj', xj', hu', hk'⟩ | ⟨hdj, -⟩
      · exfalso
        rcases hu' with ⟨p1, p2⟩ | ⟨p1, p2⟩
        · have e1 := p2 w0 (Below.refl _ _)
          have e2 := hu w0 (Below.refl _ _)
          rw [ej] at e1 e2
          rw [e2] at e1
          have e3 := congrArg (fun w => w.heap.size) e1.1
          simp at e3
        · rw [wj, hwj] at p1; cases p1
      · rw [hdB'] at hdj; cases hdj
      · have e1 := hu' w0 (Below.refl _ _)
        have e2 := hu w0 (Below.refl _ _)
        rw [ej] at e1 e2
        rw [e2] at e1
        injection e1 with e3 e4
        injection e3 with e3
        have em := fval_inj e3
        have ex : xj = xj' := by
          have := congrArg (fun w => w.heap) e4
          simp only [World.alloc] at this
          exact (Array.push_inj_right.1 this)
        subst em ex
        have := hk' gj k1 (fun h => by rcases h with h | h; exact k2 h; exact l2 (.inr h.symm))
        have f1 : (fun w' => (F w' ∧ Has gi x w') ∧ Has gj xj w') = (fun w' => (F w' ∧ Has gj xj w') ∧ Has gi x w') := by
          funext w'; exact propext ⟨fun ⟨⟨a, b⟩, c⟩ => ⟨⟨a, c⟩, b⟩, fun ⟨⟨a, b⟩, c⟩ => ⟨⟨a, c⟩, b⟩⟩
        have f2 : (fun y => (U y ∨ y = gi) ∨ y = gj) = (fun y => (U y ∨ y = gj) ∨ y = gi) := by
          funext y; exact propext ⟨fun h => by rcases h with (h | h) | h; exact .inl (.inl h); exact .inr h; exact .inl (.inr h), fun h => by rcases h with (h | h) | h; exact .inl (.inl h); exact .inr h; exact .inl (.inr h)⟩
        rw [f1, f2] at this
        exact this
      · rw [hdD'] at hdj; cases hdj
    · rw [hdD'] at hdj; cases hdj
  · have hv' : ∀ u w', Below w0.heap.size w0 w' → F w' → ∃ w2, (execOp (a.put oj.dst u).eval oi).run P w' = .ok .skip w2 ∧ Below w0.heap.size w0 w2 ∧ w2.heap.size = w'.heap.size ∧ F' w2 := fun u w' hb hF => by rw [ei]; exact hv w' hb hF
    have hw' : ∀ u, Region.wanted oi (yielded ops (a.put oj.dst u).tmps) = true := fun u => by rw [wi]; exact hw
    rcases hk with ⟨u, hu, hk⟩ | ⟨hdj, hcj, hwj, u, hu, hk⟩ | ⟨hdj, hf, hwj, m, x, hu, hk⟩ | ⟨hdj, hs, hwj, F', hst, hu, hk⟩
    · rw [ej, wj] at hu; exact .inl ⟨u, hu, .inr (.inr (.inr ⟨hdi, hsi', hw' u, F', hst, hv' u, by rw [← ec]; exact hk⟩))⟩
    · rw [hdB (by simp [hsi'])] at hdj; cases hdj
    · rw [hdC hsi'] at hdj; cases hdj
    · rw [hdD (by simp [hsi'])] at hdj; cases hdj

/-- Any operation that none ahead of it holds back may be taken first. -/
theorem WF2.first {Q : (World → Prop) → Act → Prop} {j : Nat} {oj : Oper} {post : List Nat} (hj : ops[j]? = some oj) (hsel : ∀ (j : Nat) (o : Oper) cs b, ops[j]? = some o → o.op ≠ .select cs b) :
    ∀ (pre : List Nat) (F : World → Prop) (U : Nat → Prop) (a : Act), Ends U → (∀ i ∈ pre, ∀ oi, ops[i]? = some oi → oi.apart ops oj = true ∧ ((isFresh oi || isStore oi) = true → depB2 ops j = false) ∧ (isStore oi = true → depC2 ops j = false) ∧ ((isFresh oi || isStore oi || isCall oi) = true → depD2 ops j = false)) →
    WF2 P ops w0 Q (pre ++ j :: post) F U a → StF2 P ops w0 (depB2 ops j) (depC2 ops j) (depD2 ops j) oj F U a (WF2 P ops w0 Q (pre ++ post))
  | [], F, U, a, hU, hp, h => by
    simp only [List.nil_append, WF2, hj] at h
    exact h
  | i :: pre, F, U, a, hU, hp, h => by
    simp only [List.cons_append, WF2] at h
    cases hi : ops[i]? with
    | none =>
      simp only [hi] at h
      have := WF2.first hj hsel pre F U a hU (fun k hk => hp k (List.mem_cons_of_mem _ hk)) h
      refine this.mono hU fun F U a _ hh => ?_
      simp only [List.cons_append, WF2, hi]
      exact hh
    | some oi =>
      simp only [hi] at h
      obtain ⟨h1, hB, hC, hD⟩ := hp i (List.mem_cons_self ..) oi hi
      have h' := h.mono hU (fun F U a hU hh => WF2.first hj hsel pre F U a hU (fun k hk => hp k (List.mem_cons_of_mem _ hk)) hh)
      have := h'.swap h1 (fun cs b => hsel i oi cs b hi) (fun cs b => hsel j oj cs b hj) hB hC hD hU
      refine this.mono hU fun F U a _ hh => ?_
      simp only [List.cons_append, WF2, hi]
      exact hh

theorem wait_not {n j : Nat} {oj : Oper} {p : Oper → Bool} {listed : Array Bool} (inv : HeadInv .any ops n listed) (hoj : ops[j]? = some oj) (hall : ∀ e ∈ oj.after, Region.binds .any e = true → listed.getD e.on false = true)
    {i : Nat} {oi : Oper} (hij : i < j) (hoi : ops[i]? = some oi) (hiu : listed.getD i true = false) (hp : p oi = true) : waitB ops p j = false := by
  cases hd : waitB ops p j with
  | false => rfl
  | true =>
    exfalso
    have h1 := List.all_eq_true.1 hd i (List.mem_range.2 hij)
    simp only [hoi, hp, Bool.not_true, Bool.false_or] at h1
    have h2 := reach_listed inv j j i oj hoj hall h1
    rw [getD_both hiu] at h2
    cases h2

theorem any_of_WF2 {Q : (World → Prop) → Act → Prop} {Q' : Exit → Act → World → Prop} {n : Nat} (hB : freshB ops n = true)
    (hfin : ∀ F a w', Below w0.heap.size w0 w' → F w' → Q F a → wpAny P .any ops Q' (ops.size - n) (Array.replicate n true ++ Array.replicate (ops.size - n) false) a w') :
    ∀ (m : Nat) (js : List Nat) (listed : Array Bool) (a : Act) (w' : World) (F : World → Prop) (U : Nat → Prop), js.length = m → HeadInv .any ops n listed → (∀ i, i ∈ js ↔ i < n ∧ listed.getD i true = false) → js.Pairwise (· < ·) →
    Below w0.heap.size w0 w' → F w' → Stay F → (∀ x, U x → x < w'.heap.size) → WF2 P ops w0 Q js F U a → wpAny P .any ops Q' (m + (ops.size - n)) listed a w' := by
  unfold freshB at hB
  simp only [Bool.and_eq_true, Bool.or_eq_true, decide_eq_true_eq] at hB
  obtain ⟨⟨⟨⟨⟨hsel, hn⟩, hpair⟩, hback⟩, hsink⟩, hseq⟩ := hB
  have hsel' := Region.noSelect_spec hsel
  intro m
  induction m with
  | zero =>
    intro js listed a w' F U hm inv hjs hso hb hF hst hU h
    obtain rfl : js = [] := List.length_eq_zero_iff.1 hm
    have hl : listed = Array.replicate n true ++ Array.replicate (ops.size - n) false := by
      apply Array.ext
      · simp [inv.size]; omega
      · intro i h1 h2
        by_cases hi : i < n
        · have : ¬ (i < n ∧ listed.getD i true = false) := fun h => by have := (hjs i).2 h; cases this
          rw [Array.getElem_append_left (by simpa using hi)]
          simp only [Array.getElem_replicate]
          have h3 : ¬ listed.getD i true = false := fun h => this ⟨hi, h⟩
          simpa [h1] using h3
        · rw [Array.getElem_append_right (by simpa using hi)]
          simp only [Array.getElem_replicate]
          have h3 := inv.tail i (by omega) (by rw [← inv.size]; exact h1)
          simpa [h1] using h3
    rw [Nat.zero_add, hl]
    exact hfin F a w' hb hF h
  | succ m ih =>
    intro js listed a w' F U hm inv hjs hso hb hF hst hU h
    rw [show m + 1 + (ops.size - n) = (m + (ops.size - n)) + 1 by omega]
    cases hk : js with
    | nil => rw [hk] at hm; cases hm
    | cons k js' =>
    have hkn := (hjs k).1 (by rw [hk]; simp)
    have hkr : k ∈ Region.ready .any ops listed := by
      have hks : k < ops.size := by omega
      refine mem_ready.2 ⟨hkn.2, ops[k], by simp [hks], fun e he hbi => ?_⟩
      have h1 := List.all_eq_true.1 hback k (List.mem_range.2 hkn.1)
      have hsome : ops[k]? = some ops[k] := by simp [hks]
      simp only [hsome] at h1
      have h2 := Array.all_eq_true_iff_forall_mem.1 h1 e he
      simp only [Bool.or_eq_true, Bool.not_eq_true', decide_eq_true_eq, hbi, Bool.true_eq_false, false_or] at h2
      have h3 : e.on ∉ js := fun hm => by
        rw [hk] at hm hso
        rcases List.mem_cons.1 hm with e1 | e1
        · omega
        · have := (List.pairwise_cons.1 hso).1 _ e1
          omega
      have h4 : ¬ listed.getD e.on true = false := fun hh => h3 ((hjs e.on).2 ⟨by omega, hh⟩)
      have h5 : e.on < listed.size := by rw [inv.size]; omega
      simp [h5] at h4 ⊢
      exact h4
    refine ⟨fun h0 => (by rw [h0] at hkr; cases hkr), fun j hj => ?_⟩
    have hjn : j < n := by
      rcases hsink with hs | hsc
      · obtain ⟨-, o, ho, -⟩ := mem_ready.1 hj
        have := (Array.getElem?_eq_some_iff.1 ho).1
        omega
      · obtain ⟨hs, hc⟩ := hsc
        by_cases hns : n < ops.size
        · rcases Nat.lt_or_ge j n with h1 | h1
          · exact h1
          · exact absurd hj (tail_waits hs hc hns inv _ k rfl hkn.1 hkn.2 j h1)
        · obtain ⟨-, o, ho, -⟩ := mem_ready.1 hj
          have := (Array.getElem?_eq_some_iff.1 ho).1
          omega
    obtain ⟨hjun, oj, hoj, hall⟩ := mem_ready.1 hj
    have hjm : j ∈ js := (hjs j).2 ⟨hjn, hjun⟩
    obtain ⟨pre, post, hsp⟩ := List.append_of_mem hjm
    have hso' := hso
    rw [hsp] at hso'
    rw [List.pairwise_append, List.pairwise_cons] at hso'
    obtain ⟨s1, ⟨s2, s3⟩, s4⟩ := hso'
    have hpre : ∀ i ∈ pre, ∀ oi, ops[i]? = some oi → oi.apart ops oj = true ∧ ((isFresh oi || isStore oi) = true → depB2 ops j = false) ∧ (isStore oi = true → depC2 ops j = false) ∧ ((isFresh oi || isStore oi || isCall oi) = true → depD2 ops j = false) := by
      intro i hi oi hoi
      have hij : i < j := s4 i hi j (by simp)
      have hiu := ((hjs i).1 (by rw [hsp]; simp [hi])).2
      refine ⟨?_, fun hp => wait_not inv hoj hall hij hoi hiu hp, fun hp => wait_not inv hoj hall hij hoi hiu hp, fun hp => wait_not inv hoj hall hij hoi hiu hp⟩
      have h1 := List.all_eq_true.1 (List.all_eq_true.1 hpair j (List.mem_range.2 hjn)) i (List.mem_range.2 hij)
      simp only [hoi, hoj, Bool.or_eq_true] at h1
      rcases h1 with h1 | h1
      · exfalso
        obtain ⟨o', ho', e, he, hbi, hon⟩ := Region.waitsFor_spec h1
        have : o' = oj := Option.some.inj (ho'.symm.trans hoj)
        subst this
        have h2 := hall e he hbi
        rw [hon, getD_both hiu] at h2
        cases h2
      · exact h1
    have hstep := WF2.first hoj hsel' pre F U a ⟨w'.heap.size, hU⟩ hpre (by rw [← hsp]; exact h)
    have inv' := inv.set hj hjn
    have hjs' : ∀ i, i ∈ pre ++ post ↔ i < n ∧ (listed.setIfInBounds j true).getD i true = false := by
      intro i
      by_cases hij : j = i
      · subst hij
        constructor
        · intro hm
          exfalso
          rcases List.mem_append.1 hm with h1 | h1
          · have := s4 j h1 j (by simp); omega
          · have := s2 j h1; omega
        · intro ⟨_, h2⟩
          exfalso
          have : j < listed.size := by rw [inv.size]; omega
          simp [this] at h2
      · rw [getD_set_ne true hij, ← hjs i, hsp]
        simp [Ne.symm hij]
    have hso2 : (pre ++ post).Pairwise (· < ·) := by
      rw [List.pairwise_append]
      exact ⟨s1, s3, fun x hx y hy => s4 x hx y (by simp [hy])⟩
    have hlen : (pre ++ post).length = m := by
      have := congrArg List.length hsp
      simp at this ⊢
      omega
    have go : ∀ (F' : World → Prop) (U' : Nat → Prop) a' w'', Below w0.heap.size w0 w'' → F' w'' → Stay F' → (∀ x, U' x → x < w''.heap.size) → WF2 P ops w0 Q (pre ++ post) F' U' a' → wpAny P .any ops Q' (m + (ops.size - n)) (listed.setIfInBounds j true) a' w'' :=
      fun F' U' a' w'' h1 h2 h3 h4 h5 => ih _ _ a' w'' F' U' hlen inv' hjs' hso2 h1 h2 h3 h4 h5
    unfold wpOp
    simp only [hoj]
    rcases hstep with ⟨v, hv, hk'⟩ | ⟨hd, -, hw, v, hv, hk'⟩ | ⟨-, hf, hw, mm, x, hv, hk'⟩ | ⟨-, -, hw, F', hst', hv, hk'⟩
    · rcases hv with ⟨hw, hv⟩ | ⟨hw, rfl⟩
      · rw [if_pos hw]
        refine .inl ?_
        have h1 := hv w' hb
        unfold Oper.wp
        generalize (execOp a.eval oj).run P w' = r at h1 ⊢
        cases r with
        | ok nx w2 =>
          cases nx <;> simp only [plainUpon] at h1 <;> simp only [Oper.upon]
          · obtain ⟨rfl, rfl⟩ := h1; exact go F U _ _ hb hF hst hU hk'
          · obtain ⟨rfl, rfl⟩ := h1; exact go F U _ _ hb hF hst hU hk'
        | halt _ _ => simp only [plainUpon] at h1
      · rw [if_neg (by rw [hw]; exact Bool.false_ne_true)]
        exact go F U _ _ hb hF hst hU hk'
    · rw [if_pos hw]
      refine .inl ?_
      have h1 := hv w' hb hF
      unfold Oper.wp
      generalize (execOp a.eval oj).run P w' = r at h1 ⊢
      cases r with
      | ok nx w2 =>
        cases nx <;> simp only [retUpon] at h1 <;> simp only [Oper.upon]
        · obtain ⟨rfl, rfl⟩ := h1; exact go F U _ _ hb hF hst hU hk'
        · obtain ⟨rfl, rfl⟩ := h1; exact go F U _ _ hb hF hst hU hk'
        · obtain ⟨rfl, hc⟩ := h1
          exact hc.mono fun e w3 ⟨he, hb3⟩ => by
            subst he
            exact go F U _ _ (Below.next hb hb3) (hst _ _ hb3 hF) hst (fun x hx => Nat.lt_of_lt_of_le (hU x hx) hb3.size) hk'
      | halt _ _ => simp only [retUpon] at h1
    · rw [if_pos hw]
      refine .inl ?_
      unfold Oper.wp
      rw [hv w' hb]
      simp only [Oper.upon]
      have hba : Below w'.heap.size w' (w'.alloc x) := (Below.refl _ _).alloc (Nat.le_refl _) _
      refine go _ _ _ _ (Below.next hb hba) ⟨hst _ _ hba hF, ?_⟩ (fun w1 w2 h12 h => ⟨hst _ _ h12 h.1, h.2.stay h12⟩) ?_ (hk' w'.heap.size hb.size (fun hh => absurd (hU _ hh) (Nat.lt_irrefl _)))
      · intro y hy
        have : (w'.alloc x).heap.size = w'.heap.size + 1 := by simp
        rcases hy with hy | hy
        · have := hU y hy; omega
        · omega
      · unfold Has; rw [alloc_eq_grow]; show (w'.heap ++ #[x])[w'.heap.size]? = some x; simp
    · rw [if_pos hw]
      refine .inl ?_
      obtain ⟨w2, hr, hb2, hsz, hF'⟩ := hv w' hb hF
      unfold Oper.wp
      rw [hr]
      simp only [Oper.upon]
      exact go F' U _ _ hb2 hF' hst' (fun x hx => by rw [hsz]; exact hU x hx) hk'

/-- The lexical walk, over the operations themselves. -/
def WL2 (P : Program) (ops : Array Oper) (w0 : World) (Q : (World → Prop) → Act → Prop) : Nat → List Oper → (World → Prop) → (Nat → Prop) → Act → Prop
  | _, [], F, _, a => Q F a
  | k, o :: l, F, U, a => StF2 P ops w0 (depB2 ops k) (depC2 ops k) (depD2 ops k) o F U a (WL2 P ops w0 Q (k + 1) l)

theorem WF_of_WL2 {Q : (World → Prop) → Act → Prop} : ∀ (l : List Oper) (k : Nat) (F : World → Prop) (U : Nat → Prop) (a : Act), (∀ j, j < l.length → l[j]? = ops[k + j]?) → Ends U → WL2 P ops w0 Q k l F U a → WF2 P ops w0 Q (List.range' k l.length) F U a
  | [], k, F, U, a, hl, hU, h => h
  | o :: l, k, F, U, a, hl, hU, h => by
    have h0 : ops[k]? = some o := by simpa using (hl 0 (by simp)).symm
    simp only [List.length_cons, List.range'_succ, WF2, h0]
    exact StF2.mono hU (fun F U a hU hh => WF_of_WL2 l (k + 1) F U a (fun j hj => by have := hl (j + 1) (by simp; omega); simpa [Nat.add_assoc, Nat.add_comm 1 j] using this) hU hh) h

theorem WL2_nil {Q : (World → Prop) → Act → Prop} {k : Nat} {F : World → Prop} {U : Nat → Prop} {a : Act} (h : Q F a) : WL2 P ops w0 Q k [] F U a := h
theorem WL2_plain {Q : (World → Prop) → Act → Prop} {k : Nat} {o : Oper} {l : List Oper} {F : World → Prop} {U : Nat → Prop} {a : Act}
    (h : ∀ K : Act → Prop, (∀ a, WL2 P ops w0 Q (k + 1) l F U a → K a) → if Region.wanted o (yielded ops a.tmps) then ∃ v, (∀ p : Regrown, plainUpon (grow (redrawn w0 p.d) p.os) v ((execOp a.eval o).run P (grow (redrawn w0 p.d) p.os))) ∧ K (a.put o.dst v) else K (a.put o.dst undef)) :
    WL2 P ops w0 Q k (o :: l) F U a := by
  have h := h _ (fun _ h => h)
  refine .inl ?_
  split at h
  · rename_i hw
    obtain ⟨v, h1, h2⟩ := h
    exact ⟨v, .inl ⟨hw, fun w' hb => by obtain ⟨p, rfl⟩ := regrown_of_below hb; exact h1 p⟩, h2⟩
  · rename_i hw
    exact ⟨undef, .inr ⟨by simpa using hw, rfl⟩, h⟩
theorem WL2_call {Q : (World → Prop) → Act → Prop} {k : Nat} {o : Oper} {l : List Oper} {F : World → Prop} {U : Nat → Prop} {a : Act} (hd : (depB2 ops k && isCall o) = true)
    (h : ∀ K : Act → Prop, (∀ a, WL2 P ops w0 Q (k + 1) l F U a → K a) → Region.wanted o (yielded ops a.tmps) = true ∧ ∃ v, (∀ w', Below w0.heap.size w0 w' → F w' → retUpon P w' v ((execOp a.eval o).run P w')) ∧ K (a.put o.dst v)) :
    WL2 P ops w0 Q k (o :: l) F U a := by
  obtain ⟨hw, v, h1, h2⟩ := h _ (fun _ h => h)
  rw [Bool.and_eq_true] at hd
  exact .inr (.inl ⟨hd.1, hd.2, hw, v, h1, h2⟩)
theorem WL2_fresh {Q : (World → Prop) → Act → Prop} {k : Nat} {o : Oper} {l : List Oper} {F : World → Prop} {U : Nat → Prop} {a : Act} (m : Option Nat) (x : Obj) (hf : (depC2 ops k && isFresh o) = true)
    (hw : Region.wanted o (yielded ops a.tmps) = true) (hr : ∀ w', (execOp a.eval o).run P w' = .ok (.value (fval m w'.heap.size)) (w'.alloc x))
    (h : ∀ (g : Nat) (F' : World → Prop) (U' : Nat → Prop), w0.heap.size ≤ g → ¬ U g → (∀ w', F' w' → F w' ∧ Has g x w') → (∀ y, ¬ U' y → ¬ U y ∧ y ≠ g)  → WL2 P ops w0 Q (k + 1) l F' U' (a.put o.dst (fval m g))) :
    WL2 P ops w0 Q k (o :: l) F U a := by
  rw [Bool.and_eq_true] at hf
  exact .inr (.inr (.inl ⟨hf.1, hf.2, hw, m, x, fun w' _ => hr w', fun g h1 h2 => h g _ _ h1 h2 (fun _ h => h) (fun y hy => ⟨fun h => hy (.inl h), fun h => hy (.inr h)⟩)⟩))
theorem WL2_ptr {Q : (World → Prop) → Act → Prop} {k : Nat} {o : Oper} {l : List Oper} {F : World → Prop} {U : Nat → Prop} {a : Act} (x : Obj) (hf : (depC2 ops k && isFresh o) = true)
    (hw : Region.wanted o (yielded ops a.tmps) = true) (hr : ∀ w', (execOp a.eval o).run P w' = .ok (.value (fval none w'.heap.size)) (w'.alloc x))
    (h : ∀ (g : Nat) (F' : World → Prop) (U' : Nat → Prop), w0.heap.size ≤ g → ¬ U g → (∀ w', F' w' → F w' ∧ Has g x w') → (∀ y, ¬ U' y → ¬ U y ∧ y ≠ g)  → WL2 P ops w0 Q (k + 1) l F' U' (a.put o.dst (.pointer (some ⟨g, 0, none⟩)))) :
    WL2 P ops w0 Q k (o :: l) F U a := WL2_fresh none x hf hw hr h
theorem WL2_slice {Q : (World → Prop) → Act → Prop} {k : Nat} {o : Oper} {l : List Oper} {F : World → Prop} {U : Nat → Prop} {a : Act} (n : Nat) (x : Obj) (hf : (depC2 ops k && isFresh o) = true)
    (hw : Region.wanted o (yielded ops a.tmps) = true) (hr : ∀ w', (execOp a.eval o).run P w' = .ok (.value (fval (some n) w'.heap.size)) (w'.alloc x))
    (h : ∀ (g : Nat) (F' : World → Prop) (U' : Nat → Prop), w0.heap.size ≤ g → ¬ U g → (∀ w', F' w' → F w' ∧ Has g x w') → (∀ y, ¬ U' y → ¬ U y ∧ y ≠ g)  → WL2 P ops w0 Q (k + 1) l F' U' (a.put o.dst (.slice (some ⟨g, 0, none⟩) n n))) :
    WL2 P ops w0 Q k (o :: l) F U a := WL2_fresh (some n) x hf hw hr h

/-- All of these blocks. -/
def HasAll : List (Nat × Obj) → World → Prop
  | [], _ => True
  | p :: l, w => Has p.1 p.2 w ∧ HasAll l w
theorem HasAll.stay : ∀ (l : List (Nat × Obj)) (w1 w2 : World), Below w1.heap.size w1 w2 → HasAll l w1 → HasAll l w2
  | [], _, _, _, _ => trivial
  | p :: l, w1, w2, hb, h => ⟨h.1.stay hb, HasAll.stay l w1 w2 hb h.2⟩
theorem HasAll.other {g : Nat} {cs : Array Value} : ∀ (l : List (Nat × Obj)) (w : World), (∀ p ∈ l, p.1 ≠ g) → HasAll l w → HasAll l (w.setRow g cs)
  | [], _, _, _ => trivial
  | p :: l, w, hn, h => ⟨(setRow_other w g p.1 cs (hn p (by simp))).trans h.1, HasAll.other l w (fun q hq => hn q (by simp [hq])) h.2⟩
theorem below_setRow {n : Nat} {w w' : World} (hb : Below n w w') {g : Nat} (hg : n ≤ g) (cs : Array Value) : Below n w (w'.setRow g cs) :=
  ⟨hb.os, hb.tape, hb.output, by simpa using hb.size, fun b hb' => (setRow_other w' g b cs (by omega)).trans (hb.block b hb')⟩

/-- A store over a whole block of the region's own. -/
theorem WL2_put {Q : (World → Prop) → Act → Prop} {k : Nat} {o : Oper} {l : List Oper} {F : World → Prop} {U : Nat → Prop} {a : Act} (L : List (Nat × Obj)) (g : Nat) (old cells : Array Value) (T : TypeId) (hd : (depD2 ops k && isStore o) = true)
    (hw : Region.wanted o (yielded ops a.tmps) = true) (hr : ∀ w', Has g (.cells old T) w' → (execOp a.eval o).run P w' = .ok .skip (w'.setRow g cells)) (hg : w0.heap.size ≤ g)
    (hF : ∀ w', F w' → HasAll L w' ∧ Has g (.cells old T) w') (hne : ∀ p ∈ L, p.1 ≠ g)
    (h : ∀ F' : World → Prop, (∀ w', F' w' → HasAll L w' ∧ Has g (.cells cells T) w') → WL2 P ops w0 Q (k + 1) l F' U (a.put o.dst undef)) :
    WL2 P ops w0 Q k (o :: l) F U a := by
  rw [Bool.and_eq_true] at hd
  refine .inr (.inr (.inr ⟨hd.1, hd.2, hw, fun w' => HasAll L w' ∧ Has g (.cells cells T) w', fun w1 w2 hb h => ⟨HasAll.stay L _ _ hb h.1, h.2.stay hb⟩, fun w' hb hf => ?_, h _ (fun _ h => h)⟩))
  obtain ⟨f1, f2⟩ := hF w' hf
  exact ⟨_, hr w' f2, below_setRow hb hg _, by simp, HasAll.other L _ hne f1, setRow_heap w' g old cells T _ f2⟩
theorem WL2_store {Q : (World → Prop) → Act → Prop} {k : Nat} {o : Oper} {l : List Oper} {F : World → Prop} {U : Nat → Prop} {a : Act} (L : List (Nat × Obj)) (g : Nat) (old cells : Array Value) (T : TypeId) (hd : (depD2 ops k && isStore o) = true)
    (hw : Region.wanted o (yielded ops a.tmps) = true) (ty : TypeId) (x y : Operand) (ho : o.op = .store ty x y) (hx : a.eval x = .pointer (some ⟨g, 0, none⟩)) (hy : a.eval y = .agg cells) (hi : (P.info? ty).map (·.size) = some cells.size) (hold : old.size = cells.size) (h1 : cells.all (·.oneCell') = true) (hg : w0.heap.size ≤ g)
    (hF : ∀ w', F w' → HasAll L w' ∧ Has g (.cells old T) w') (hne : ∀ p ∈ L, p.1 ≠ g)
    (h : ∀ F' : World → Prop, (∀ w', F' w' → HasAll L w' ∧ Has g (.cells cells T) w') → WL2 P ops w0 Q (k + 1) l F' U (a.put o.dst undef)) :
    WL2 P ops w0 Q k (o :: l) F U a := by
  refine WL2_put L g old cells T hd hw (fun w' hh => ?_) hg hF hne h
  unfold execOp
  simp only [ho, hx, hy, Instr.storeAt, Instr.sureAddr, Sem.run_bind, Sem.run_pure, Result.andThen_ok, run_storeVar_row w' g T ty old cells hh hi hold h1]

end

theorem wp_region_fresh2 {P : Program} {id : Nat} {Q : Exit → Act → World → Prop} {a : Act} {w : World} {l : List Oper} (n : Nat) (hm : P.follows .mixedOrders = true) (hB : freshB l.toArray n = true)
    (h : WL2 P l.toArray w (fun F a' => ∀ w', Below w.heap.size w w' → F w' → wpList P l.toArray Q (l.drop n) a' w') 0 (l.take n) (fun _ => True) (fun _ => False) a) : (Code.region id l.toArray true).wp P Q a w := by
  have hn : n ≤ l.length := by
    unfold freshB at hB
    simp only [Bool.and_eq_true, decide_eq_true_eq] at hB
    simpa using hB.1.1.1.1.2
  have hseq : Region.seqB .any l.toArray (l.toArray.size - n) n (Array.replicate n true ++ Array.replicate (l.toArray.size - n) false) = true := by
    unfold freshB at hB
    simp only [Bool.and_eq_true] at hB
    exact hB.2
  have htl : (l.take n).length = n := by simp; omega
  have hdl : (l.drop n).length = l.toArray.size - n := by simp
  refine wp_region_any hm ?_
  have inv0 : HeadInv .any l.toArray n (Array.replicate l.toArray.size false) :=
    ⟨by simp, fun j oj _ hl => (by rw [getD_replicate_false] at hl; cases hl), fun t _ ht => getD_in (by simpa using ht) (getD_replicate_false _ _)⟩
  have hwf := WF_of_WL2 (ops := l.toArray) (l.take n) 0 _ _ a (fun j hj => by
    have hj' : j < n := by rw [htl] at hj; exact hj
    simp [hj']) ⟨0, fun _ h => h.elim⟩ h
  rw [htl] at hwf
  have := any_of_WF2 (P := P) (ops := l.toArray) (w0 := w) (Q' := Q) hB (fun F a' w' hb hF hq => by
    have := wpAny_of_seq (md := .any) (Q' := Q) (l.drop n) n (Array.replicate n true ++ Array.replicate (l.toArray.size - n) false) a' w' (fun j => by simp [List.getElem?_drop]) (by rw [hdl]; exact hseq) (hq w' hb hF)
    rwa [hdl] at this) n (List.range' 0 n) (Array.replicate l.toArray.size false) a { w with drawn := w.drawn + 1 } (fun _ => True) (fun _ => False) (by simp) inv0
    (fun i => by
      simp only [List.mem_range', Nat.zero_add, Nat.one_mul]
      constructor
      · rintro ⟨i, hi, rfl⟩
        exact ⟨hi, getD_in (by simp; omega) (getD_replicate_false _ _)⟩
      · intro hi
        exact ⟨i, hi.1, rfl⟩) (List.pairwise_lt_range' ..) ⟨rfl, rfl, rfl, Nat.le_refl _, fun _ _ => rfl⟩ trivial (fun _ _ _ _ => trivial) (fun _ h => h.elim) hwf
  rw [show n + (l.toArray.size - n) = l.toArray.size by simp; omega] at this
  exact this

/-- .. the world behind a name, the blocks' two ledgers behind variables. -/
theorem wp_region_fresh_gen2 {P : Program} {id : Nat} {Q : Exit → Act → World → Prop} {a : Act} {w : World} {l : List Oper} (n : Nat) (hm : P.follows .mixedOrders = true) (hB : freshB l.toArray n = true)
    (h : ∀ W, W = w → ∀ (F : World → Prop) (U : Nat → Prop), WL2 P l.toArray W (fun F a' => ∀ w', Below W.heap.size W w' → F w' → wpList P l.toArray Q (l.drop n) a' w') 0 (l.take n) F U a) : (Code.region id l.toArray true).wp P Q a w :=
  wp_region_fresh2 n hm hB (h w rfl _ _)

