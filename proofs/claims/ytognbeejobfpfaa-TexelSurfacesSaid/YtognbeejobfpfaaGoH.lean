/- Steps in a region that draws its order and calls functions whose results are slices at an address that is not known ahead. No program is named here. -/
import Derived.Test.YtognbeejobfpfaaGoN
import Derived.Test.YtognbeejobfpfaaFresh3
namespace Go.Proofs.Ytognbeejobfpfaa
open Go.RowKit Go.Sort
set_option linter.unusedVariables false
set_option linter.unusedSimpArgs false

theorem some_le {M y : Nat} (h : some M = some y) : M ≤ y := by cases h; exact Nat.le_refl _
theorem some_in {P : Nat → Prop} {b y : Nat} (h : some b = some y) (hp : P b) : P y := by cases h; exact hp
structure WlH (P : Program) (ops : Array Oper) (W : World) (Q : (World → Prop) → Act → Prop) (k : Nat) (l : List Oper) (F : World → Prop) (U : Nat → Prop) (a : Act) : Prop where
  out : WL3 P ops W Q k l F U a
/-- What the region has laid so far: N; what its calls gave: M'. -/
structure LedN (W : World) (F : World → Prop) (U : Nat → Prop) (N : List Blk) (w0 : Base) (M' : List (Option Addr × List Value)) : Prop where
  has : ∀ w', F w' → HasL N w'
  u : ∀ b ∈ N, U b.g
  nd : (N.map Blk.g).Nodup
  own : ∀ b ∈ N, W.heap.size ≤ b.g ∧ b.fr = (0, 0)
  num : ∀ m ∈ M', m.2 = [] ∨ ∃ b off, m.1 = some ⟨b, off, none⟩ ∧ (∀ w', F w' → ∃ c T fr, Has b (.cells c T fr) w' ∧ ∀ i, i < m.2.length → c.toList[off + i]? = m.2[i]?) ∧
    ((W.heap.size ≤ b ∧ U b ∧ ∀ x ∈ N, x.g ≠ b) ∨ ∃ m' ∈ w0.M, m'.2 ≠ [] ∧ ∃ o, m'.1 = some ⟨b, o, none⟩)
theorem LedN.start (W : World) (F : World → Prop) (U : Nat → Prop) (w0 : Base) : LedN W F U [] w0 [] :=
  ⟨fun _ _ _ h => absurd h List.not_mem_nil, fun _ h => absurd h List.not_mem_nil, List.nodup_nil, fun _ h => absurd h List.not_mem_nil, fun _ h => absurd h List.not_mem_nil⟩
theorem LedN.fresh {W : World} {F : World → Prop} {U : Nat → Prop} {N : List Blk} {w0 : Base} {M' : List (Option Addr × List Value)} (h : LedN W F U N w0 M') {g : Nat} (h1 : W.heap.size ≤ g) (h2 : ¬ U g) (c : Array Value) (T : TypeId) :
    LedN W (fun w' => F w' ∧ Has g (.cells c T) w') (fun y => U y ∨ y = g) (⟨g, c, T, (0, 0), true⟩ :: N) w0 M' := by
  refine ⟨fun w' hF b hm => ?_, fun b hm => ?_, ?_, fun b hm => ?_, fun m hm => ?_⟩
  · rcases List.mem_cons.1 hm with rfl | hm
    · exact hF.2
    · exact h.has w' hF.1 b hm
  · rcases List.mem_cons.1 hm with rfl | hm
    · exact .inr rfl
    · exact .inl (h.u b hm)
  · simp only [List.map_cons, List.nodup_cons]
    refine ⟨fun hm => ?_, h.nd⟩
    obtain ⟨b, hb, he⟩ := List.mem_map.1 hm
    exact h2 (he ▸ h.u b hb)
  · rcases List.mem_cons.1 hm with rfl | hm
    · exact ⟨h1, rfl⟩
    · exact h.own b hm
  · rcases h.num m hm with h0 | ⟨b, off, k1, k2, k3⟩
    · exact .inl h0
    · refine .inr ⟨b, off, k1, fun w' hF => k2 w' hF.1, ?_⟩
      rcases k3 with ⟨k3, k4, k5⟩ | k3
      · refine .inl ⟨k3, .inl k4, fun x hx he => ?_⟩
        rcases List.mem_cons.1 hx with rfl | hx
        · have e1 : g = b := he
          exact h2 (e1 ▸ k4)
        · exact k5 x hx he
      · exact .inr k3
theorem LedN.st {W : World} {F : World → Prop} {U : Nat → Prop} {N L : List Blk} {w0 : Base} {M' : List (Option Addr × List Value)} (h : LedN W F U N w0 M') (hM : St w0 L W) {w' : World} (hb : Below W.heap.size W w') (hF : F w') : St ⟨w0.w, w0.S, M' ++ w0.M⟩ (N ++ L) w' := by
  have hown : ∀ x ∈ N, W.heap.size ≤ x.g := fun x hx => (h.own x hx).1
  refine ⟨Below.next hM.below hb, fun b hm => ?_, ?_, fun b hm ho => ?_, fun m hm => ?_⟩
  · rcases List.mem_append.1 hm with hm | hm
    · exact h.has w' hF b hm
    · exact (hM.has b hm).stay hb
  · rw [List.map_append]
    refine List.nodup_append.2 ⟨h.nd, hM.nd, fun x hx y hy he => ?_⟩
    obtain ⟨b, hb, rfl⟩ := List.mem_map.1 hx
    obtain ⟨b', hb', rfl⟩ := List.mem_map.1 hy
    have h1 := (h.own b hb).1
    have h2 := (hM.has b' hb').lt
    omega
  · rcases List.mem_append.1 hm with hm | hm
    · exact ⟨Nat.le_trans hM.below.size (h.own b hm).1, (h.own b hm).2⟩
    · exact hM.own b hm ho
  · rcases List.mem_append.1 hm with hm | hm
    · rcases h.num m hm with h0 | ⟨b, off, k1, k2, k3⟩
      · exact .inl h0
      · obtain ⟨c, T, fr, j1, j2⟩ := k2 w' hF
        have key : Prov w0.w w0.S b ∧ ∀ x ∈ N ++ L, x.own = true → x.g ≠ b := by
          rcases k3 with ⟨k3, -, k5⟩ | ⟨m', hm', n0, o, ho⟩
          · refine ⟨.inl (Nat.le_trans hM.below.size k3), fun x hx hxo he => ?_⟩
            rcases List.mem_append.1 hx with hx | hx
            · exact k5 x hx he
            · have := (hM.has x hx).lt; omega
          · rcases hM.num m' hm' with q | ⟨b', off', c', T', fr', q1, q2, q3, q4, q5⟩
            · exact absurd q n0
            · rw [ho] at q1
              simp only [Option.some.injEq, Addr.mk.injEq, and_true] at q1
              obtain ⟨rfl, -⟩ := q1
              refine ⟨q4, fun x hx hxo he => ?_⟩
              rcases List.mem_append.1 hx with hx | hx
              · have := hown x hx; have := q2.lt; omega
              · exact q5 x hx hxo he
        exact .inr ⟨b, off, c, T, fr, k1, j1, j2, key.1, key.2⟩
    · exact ((hM.num m hm).more N hown).stay hb
section
variable {P : Program} {ops : Array Oper} {W : World} {Q : (World → Prop) → Act → Prop} {k : Nat} {rest : List Oper} {F : World → Prop} {U : Nat → Prop} {a : Act} {dst : Option Tmp} {op : Op} {ty : TypeId} {pos : String} {after : Array Edge} {guard : Option (Nat × Bool)}
theorem H_val (v : Value) (hc : ∀ w', (Region.wanted ⟨dst, op, ty, pos, after, guard⟩ (yielded ops a.tmps), (execOp a.eval ⟨dst, op, ty, pos, after, guard⟩).run P w') = (true, .ok (.value v) w')) (h : WlH P ops W Q (k + 1) rest F U (a.put dst (v))) : WlH P ops W Q k (⟨dst, op, ty, pos, after, guard⟩ :: rest) F U a :=
  ⟨.inl ⟨v, .inl ⟨(Prod.mk.inj (hc W)).1, fun w' _ => by rw [(Prod.mk.inj (hc w')).2]; exact ⟨rfl, rfl⟩⟩, h.out⟩⟩
theorem H_skip (hc : Region.wanted ⟨dst, op, ty, pos, after, guard⟩ (yielded ops a.tmps) = false) (h : WlH P ops W Q (k + 1) rest F U (a.put dst (undef))) : WlH P ops W Q k (⟨dst, op, ty, pos, after, guard⟩ :: rest) F U a := ⟨.inl ⟨undef, .inr ⟨hc, rfl⟩, h.out⟩⟩
theorem H_int (n : Int) (κ : IntKind) (hc : ∀ w', (Region.wanted ⟨dst, op, ty, pos, after, guard⟩ (yielded ops a.tmps), (execOp a.eval ⟨dst, op, ty, pos, after, guard⟩).run P w') = (true, .ok (.value (.int κ n)) w')) (h : ∀ m, n = m → WlH P ops W Q (k + 1) rest F U (a.put dst (.int κ m))) : WlH P ops W Q k (⟨dst, op, ty, pos, after, guard⟩ :: rest) F U a := H_val _ hc (h n rfl)
theorem H_dec (p : Prop) [Decidable p] (hc : ∀ w', (Region.wanted ⟨dst, op, ty, pos, after, guard⟩ (yielded ops a.tmps), (execOp a.eval ⟨dst, op, ty, pos, after, guard⟩).run P w') = (true, .ok (.value (.bool (decide p))) w')) (ht : p → WlH P ops W Q (k + 1) rest F U (a.put dst (.bool true))) (hf : ¬ p → WlH P ops W Q (k + 1) rest F U (a.put dst (.bool false))) : WlH P ops W Q k (⟨dst, op, ty, pos, after, guard⟩ :: rest) F U a := H_val _ hc (by
  by_cases hp : p
  · rw [decide_eq_true hp]; exact ht hp
  · rw [decide_eq_false hp]; exact hf hp)
theorem H_decn (p : Prop) [Decidable p] (hc : ∀ w', (Region.wanted ⟨dst, op, ty, pos, after, guard⟩ (yielded ops a.tmps), (execOp a.eval ⟨dst, op, ty, pos, after, guard⟩).run P w') = (true, .ok (.value (.bool (!decide p))) w')) (ht : ¬ p → WlH P ops W Q (k + 1) rest F U (a.put dst (.bool true))) (hf : p → WlH P ops W Q (k + 1) rest F U (a.put dst (.bool false))) : WlH P ops W Q k (⟨dst, op, ty, pos, after, guard⟩ :: rest) F U a := H_val _ hc (by
  by_cases hp : p
  · rw [decide_eq_true hp]; exact hf hp
  · rw [decide_eq_false hp]; exact ht hp)
theorem H_bool (b : Bool) (hc : ∀ w', (Region.wanted ⟨dst, op, ty, pos, after, guard⟩ (yielded ops a.tmps), (execOp a.eval ⟨dst, op, ty, pos, after, guard⟩).run P w') = (true, .ok (.value (.bool b)) w')) (ht : b = true → WlH P ops W Q (k + 1) rest F U (a.put dst (.bool true))) (hf : b = false → WlH P ops W Q (k + 1) rest F U (a.put dst (.bool false))) : WlH P ops W Q k (⟨dst, op, ty, pos, after, guard⟩ :: rest) F U a := H_val _ hc (by
  cases b
  · exact hf rfl
  · exact ht rfl)
theorem H_load (i off : Nat) (v : Value) {w0 : Base} {L : List Blk} {t : TypeId} {x : Operand} (hM : St w0 L W)
    (hc : (Region.wanted ⟨dst, .load t x, ty, pos, after, guard⟩ (yielded ops a.tmps), a.eval x, L[i]?, ldVal P t (bAt L i).c off) = (true, .pointer (some ⟨(bAt L i).g, off, none⟩), some (bAt L i), some v)) (h : WlH P ops W Q (k + 1) rest F U (a.put dst (v))) : WlH P ops W Q k (⟨dst, .load t x, ty, pos, after, guard⟩ :: rest) F U a := by
  simp only [Prod.mk.injEq] at hc
  obtain ⟨h1, h2, h3, h4⟩ := hc
  refine ⟨.inl ⟨v, .inl ⟨h1, fun w' hb => ?_⟩, h.out⟩⟩
  have hr := run_ld (P := P) ((hM.get h3).stay hb) h4
  simp [execOp, Instr.loadAt, Instr.sureAddr, h2, hr, plainUpon]
theorem H_loadR {α : Type} (E : α → List Value) (sz : Nat) (d : α) (i : Int) (j b off : Nat) (v : Value) {l : List α} {t : TypeId} {x : Operand} (hR : Rd E sz W (some ⟨b, off, none⟩) l) (hE : ∀ x, (E x).length = sz) (hi : 0 ≤ i ∧ i < l.length)
    (hc : (Region.wanted ⟨dst, .load t x, ty, pos, after, guard⟩ (yielded ops a.tmps), Nat.blt 0 sz, a.eval x, ldVal P t ⟨E (gd d l i)⟩ j) = (true, true, .pointer (some ⟨b, off + i.toNat * sz + j, none⟩), some v))
    (h : WlH P ops W Q (k + 1) rest F U (a.put dst v)) : WlH P ops W Q k (⟨dst, .load t x, ty, pos, after, guard⟩ :: rest) F U a := by
  refine ⟨.inl ⟨v, .inl ⟨(Prod.mk.inj hc).1, fun w' hb => ?_⟩, h.out⟩⟩
  rw [ex_loadR E sz d i j b off v (hR.stay hb) hE hi (Prod.mk.inj hc).2]
  exact ⟨rfl, rfl⟩
theorem H_idx {t : TypeId} {x y : Operand} (e : TypeId) (sz b off n cap : Nat) (i : Int) (hi : 0 ≤ i ∧ i < (n : Int))
    (hc : (Region.wanted ⟨dst, .indexAddr t x y, ty, pos, after, guard⟩ (yielded ops a.tmps), a.eval x, a.eval y, elSize P t) = (true, .slice (some ⟨b, off, none⟩) n cap, .int .i64 i, some (e, sz)))
    (h : WlH P ops W Q (k + 1) rest F U (a.put dst (.pointer (some ⟨b, off + i.toNat * sz, none⟩)))) : WlH P ops W Q k (⟨dst, .indexAddr t x y, ty, pos, after, guard⟩ :: rest) F U a :=
  H_val _ (fun w => Prod.ext (Prod.mk.inj hc).1 (ex_idx hi (Prod.mk.inj hc).2 w)) h
theorem H_fresh (m : Option Nat) (c : Array Value) (T : TypeId) {N : List Blk} {w0 : Base} {M' : List (Option Addr × List Value)} (hL : LedN W F U N w0 M') (hf : (isFresh ⟨dst, op, ty, pos, after, guard⟩, Region.wanted ⟨dst, op, ty, pos, after, guard⟩ (yielded ops a.tmps)) = (true, true))
    (hc : ∀ w', (execOp a.eval ⟨dst, op, ty, pos, after, guard⟩).run P w' = .ok (.value (fval m w'.heap.size)) (w'.alloc (.cells c T))) (h : ∀ g F U, LedN W F U (⟨g, c, T, (0, 0), true⟩ :: N) w0 M' → WlH P ops W Q (k + 1) rest F U (a.put dst (fval m g))) : WlH P ops W Q k (⟨dst, op, ty, pos, after, guard⟩ :: rest) F U a := by
  simp only [Prod.mk.injEq] at hf
  exact ⟨.inr (.inr ⟨hf.1, hf.2, m, _, fun w' _ => hc w', fun g h1 h2 => (h g _ _ (hL.fresh h1 h2 c T)).out⟩)⟩
theorem LedN.same {N : List Blk} {w0 : Base} {M' : List (Option Addr × List Value)} (h : LedN W F U N w0 M') {F' : World → Prop} {U' : Nat → Prop} (hF : ∀ w', F' w' → F w') (hU : ∀ y, U y → U' y) : LedN W F' U' N w0 M' :=
  ⟨fun w' hh => h.has w' (hF w' hh), fun b hb => hU _ (h.u b hb), h.nd, h.own, fun m hm => by
    rcases h.num m hm with h0 | ⟨b, off, k1, k2, k3⟩
    · exact .inl h0
    · refine .inr ⟨b, off, k1, fun w' hh => k2 w' (hF w' hh), ?_⟩
      rcases k3 with ⟨a1, a2, a3⟩ | k3
      · exact .inl ⟨a1, hU _ a2, a3⟩
      · exact .inr k3⟩
theorem H_call {β : Type} (e : β) (enc : β → Value) {w0 : Base} {L N : List Blk} {M' : List (Option Addr × List Value)} (hM : St w0 L W) (hL : LedN W F U N w0 M') {f : FuncId} {args : Array Value} (K : ∀ w', St ⟨w0.w, w0.S, M' ++ w0.M⟩ (N ++ L) w' → Calls P f args w' (Ret (enc e) w'))
    (hd : (depE3 ops k && isCall ⟨dst, op, ty, pos, after, guard⟩) = true) (hc : ∀ w', (Region.wanted ⟨dst, op, ty, pos, after, guard⟩ (yielded ops a.tmps), (execOp a.eval ⟨dst, op, ty, pos, after, guard⟩).run P w') = (true, .ok (.enter f args) w'))
    (h : ∀ r, e = r → ∀ F U, LedN W F U N w0 M' → WlH P ops W Q (k + 1) rest F U (a.put dst (enc r))) : WlH P ops W Q k (⟨dst, op, ty, pos, after, guard⟩ :: rest) F U a := by
  rw [Bool.and_eq_true] at hd
  refine ⟨.inr (.inl ⟨hd.1, hd.2, (Prod.mk.inj (hc W)).1, Unit, fun _ => True, fun _ => enc e, fun _ => none, fun _ _ => True, fun _ => ⟨(), trivial, fun y hy => (by cases hy)⟩, fun _ _ _ _ _ => trivial, fun w' hb hF => ?_, fun p _ _ => (h e rfl _ _ (hL.same (fun _ h => h.1) (fun _ h => .inl h))).out⟩)⟩
  rw [(Prod.mk.inj (hc w')).2]
  exact ⟨rfl, (K w' (hL.st hM hb hF)).mono fun e' w2 ⟨he, hb2⟩ => ⟨(), trivial, he, hb2, fun y hy => (by cases hy), trivial⟩⟩
/-- A slice that a call gave joins the ledger. -/
theorem LedN.know {N : List Blk} {w0 : Base} {M' : List (Option Addr × List Value)} (h : LedN W F U N w0 M') {A : Option Addr} {l : List Value} {g : Option Nat} (hg : ∀ y, g = some y → W.heap.size ≤ y ∧ ¬ U y)
    {S : List (Option Addr × List Value)} (hS : ∀ m ∈ S, m ∈ M' ++ w0.M) {F' : World → Prop} (hF : ∀ w', F' w' → F w')
    (hl : l = [] ∨ ∃ b off, A = some ⟨b, off, none⟩ ∧ (∀ w', F' w' → ∃ c T fr, Has b (.cells c T fr) w' ∧ ∀ i, i < l.length → c.toList[off + i]? = l[i]?) ∧ (g = some b ∨ ∃ m ∈ S, m.2 ≠ [] ∧ ∃ o, m.1 = some ⟨b, o, none⟩)) : LedN W F' (fun y => U y ∨ g = some y) N w0 ((A, l) :: M') := by
  have h' := h.same hF (U' := fun y => U y ∨ g = some y) (fun _ h => .inl h)
  refine ⟨h'.has, h'.u, h'.nd, h'.own, fun m hm => ?_⟩
  rcases List.mem_cons.1 hm with rfl | hm
  · rcases hl with hl | ⟨b, off, k1, k2, k3⟩
    · exact .inl hl
    · refine .inr ⟨b, off, k1, k2, ?_⟩
      rcases k3 with k3 | ⟨m, hm, n0, o, ho⟩
      · exact .inl ⟨(hg b k3).1, .inr k3, fun x hx he => (hg b k3).2 (he ▸ h.u x hx)⟩
      · rcases List.mem_append.1 (hS m hm) with q | q
        · rcases h.num m q with z | ⟨b', off', j1, j2, j3⟩
          · exact absurd z n0
          · rw [ho] at j1
            simp only [Option.some.injEq, Addr.mk.injEq, and_true] at j1
            obtain ⟨rfl, -⟩ := j1
            rcases j3 with ⟨a1, a2, a3⟩ | j3
            · exact .inl ⟨a1, .inl a2, a3⟩
            · exact .inr j3
        · exact .inr ⟨m, q, n0, o, ho⟩
  · exact h'.num m hm
theorem H_callN (e : Bool × List Int) (S : List (Option Addr × List Value)) {w0 : Base} {L N : List Blk} {M' : List (Option Addr × List Value)} (hM : St w0 L W) (hL : LedN W F U N w0 M') {f : FuncId} {args : Array Value}
    (K : ∀ w', St ⟨w0.w, w0.S, M' ++ w0.M⟩ (N ++ L) w' → Calls P f args w' (RetN w' S e)) (hS : ∀ m ∈ S, m ∈ M' ++ w0.M)
    (hd : (depE3 ops k && isCall ⟨dst, op, ty, pos, after, guard⟩) = true) (hc : ∀ w', (Region.wanted ⟨dst, op, ty, pos, after, guard⟩ (yielded ops a.tmps), (execOp a.eval ⟨dst, op, ty, pos, after, guard⟩).run P w') = (true, .ok (.enter f args) w'))
    (h : ∀ r, e = r → ∀ A cap, r.2.length ≤ cap → ∀ F U, LedN W F U N w0 ((A, nv r.2) :: M') → WlH P ops W Q (k + 1) rest F U (a.put dst (.agg #[.bool r.1, .slice A (List.length r.2) cap]))) : WlH P ops W Q k (⟨dst, op, ty, pos, after, guard⟩ :: rest) F U a := by
  rw [Bool.and_eq_true] at hd
  refine ⟨.inr (.inl ⟨hd.1, hd.2, (Prod.mk.inj (hc W)).1, Option Addr × Nat × Option Nat, fun p => e.2.length ≤ p.2.1 ∧ (nv e.2 = [] ∨ ∃ b off, p.1 = some ⟨b, off, none⟩ ∧ (p.2.2 = some b ∨ ∃ m ∈ S, m.2 ≠ [] ∧ ∃ o, m.1 = some ⟨b, o, none⟩)),
    fun p => .agg #[.bool e.1, .slice p.1 (List.length e.2) p.2.1], fun p => p.2.2, fun p w2 => ∀ b off, nv e.2 ≠ [] → p.1 = some ⟨b, off, none⟩ → ∃ c T fr, Has b (.cells c T fr) w2 ∧ ∀ i, i < (nv e.2).length → c.toList[off + i]? = (nv e.2)[i]?,
    fun M => ⟨(some ⟨M, 0, none⟩, e.2.length, some M), ⟨Nat.le_refl _, .inr ⟨M, 0, rfl, .inl rfl⟩⟩, fun y hy => some_le hy⟩, fun p w1 w2 hb hp b off hz hA => ?_, fun w' hb hF => ?_, fun p ha hp => ?_⟩)⟩
  · obtain ⟨c, T, fr, k2, k3⟩ := hp b off hz hA
    exact ⟨c, T, fr, k2.stay hb, k3⟩
  · rw [(Prod.mk.inj (hc w')).2]
    refine ⟨rfl, (K w' (hL.st hM hb hF)).mono fun e' w2 hr => ?_⟩
    obtain ⟨A, cap, rfl, q1, q2, q3⟩ := hr
    rcases q3 with z | ⟨b, off, c, T, fr, k1, k2, k3, k4⟩
    · exact ⟨(A, cap, none), ⟨q1, .inl z⟩, rfl, q2, fun y hy => (by cases hy), fun b off hz => absurd z hz⟩
    · subst k1
      have kf : ∀ b' off', nv e.2 ≠ [] → some (⟨b, off, none⟩ : Addr) = some ⟨b', off', none⟩ → ∃ c T fr, Has b' (.cells c T fr) w2 ∧ ∀ i, i < (nv e.2).length → c.toList[off' + i]? = (nv e.2)[i]? := fun b' off' _ hA => by
        simp only [Option.some.injEq, Addr.mk.injEq, and_true] at hA
        obtain ⟨rfl, rfl⟩ := hA
        exact ⟨c, T, fr, k2, k3⟩
      rcases k4 with k4 | k4
      · exact ⟨(some ⟨b, off, none⟩, cap, some b), ⟨q1, .inr ⟨b, off, rfl, .inl rfl⟩⟩, rfl, q2, fun y hy => some_in (P := fun y => w'.heap.size ≤ y ∧ y < w2.heap.size) hy ⟨k4, k2.lt⟩, kf⟩
      · exact ⟨(some ⟨b, off, none⟩, cap, none), ⟨q1, .inr ⟨b, off, rfl, .inr k4⟩⟩, rfl, q2, fun y hy => (by cases hy), kf⟩
  · refine (h e rfl p.1 p.2.1 ha.1 _ _ (hL.know hp hS (fun _ h => h.1) ?_)).out
    by_cases hz : nv e.2 = []
    · exact .inl hz
    · rcases ha.2 with z | ⟨b, off, k1, k4⟩
      · exact absurd z hz
      · exact .inr ⟨b, off, k1, fun w' hw => hw.2 b off hz k1, k4⟩
theorem H_nil {X : Act → World → Prop} {w0 : Base} {L N : List Blk} {M' : List (Option Addr × List Value)} (hM : St w0 L W) (hL : LedN W F U N w0 M') (h : ∀ w', St ⟨w0.w, w0.S, M' ++ w0.M⟩ (N ++ L) w' → X a w') : WlH P ops W (fun F a' => ∀ w', Below W.heap.size W w' → F w' → X a' w') k [] F U a :=
  ⟨fun w' hb hF => h w' (hL.st hM hb hF)⟩
end
theorem R_drawH {P : Program} {fn : Func} {R : Ending → World → Prop} {k : List Item} {a : Act} {w : World} (w0 : Base) (n : Nat) {id : Nat} {l : List Oper} (hB : (P.follows .mixedOrders, freshB l.toArray n) = (true, true))
    (h : ∀ F U, LedN w F U [] w0 [] → WlH P l.toArray w (fun F a' => ∀ w', Below w.heap.size w w' → F w' → Wp P l.toArray (QN P fn R k) (l.drop n) a' w') 0 (l.take n) F U a) : Run P fn R (.code (.region id l.toArray true) :: k) a w := by
  simp only [Prod.mk.injEq] at hB
  refine R_wp (wp_region_fresh3 n hB.1 hB.2 ?_)
  have h1 := (h (fun _ => True) (fun _ => False) (LedN.start _ _ _ _)).out
  have e : (fun (F : World → Prop) (a' : Act) => ∀ w', Below w.heap.size w w' → F w' → Wp P l.toArray (QN P fn R k) (l.drop n) a' w') = (fun F a' => ∀ w', Below w.heap.size w w' → F w' → wpList P l.toArray (QN P fn R k) (l.drop n) a' w') := by
    funext F a'
    exact propext ⟨fun h w' hb hF => (h w' hb hF).out, fun h w' hb hF => ⟨h w' hb hF⟩⟩
  rw [e] at h1
  exact h1
end Go.Proofs.Ytognbeejobfpfaa
