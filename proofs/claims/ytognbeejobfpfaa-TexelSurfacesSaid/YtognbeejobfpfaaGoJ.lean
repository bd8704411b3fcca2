/- Appending a slice that is known to four zeros of the region's own, in a region that draws its order. No program is named here. -/
import Derived.Test.YtognbeejobfpfaaGoH
namespace Go.Proofs.Ytognbeejobfpfaa
open Go.RowKit Go.Sort
set_option linter.unusedVariables false
set_option linter.unusedSimpArgs false

theorem LedN.drop {W : World} {F : World → Prop} {U : Nat → Prop} {N : List Blk} {w0 : Base} {M' : List (Option Addr × List Value)} (h : LedN W F U N w0 M') (i : Nat) : LedN W F U (N.eraseIdx i) w0 M' := by
  refine ⟨fun w' hF b hm => h.has w' hF b (List.mem_of_mem_eraseIdx hm), fun b hm => h.u b (List.mem_of_mem_eraseIdx hm), ?_, fun b hm => h.own b (List.mem_of_mem_eraseIdx hm), fun m hm => ?_⟩
  · have e : (N.eraseIdx i).map Blk.g = (N.map Blk.g).eraseIdx i := by simp [List.eraseIdx_eq_take_drop_succ, List.map_take, List.map_drop]
    rw [e]; exact h.nd.sublist (List.eraseIdx_sublist _ _)
  · rcases h.num m hm with z | ⟨b, off, k1, k2, k3⟩
    · exact .inl z
    · refine .inr ⟨b, off, k1, k2, ?_⟩
      rcases k3 with ⟨a1, a2, a3⟩ | k3
      · exact .inl ⟨a1, a2, fun x hx => a3 x (List.mem_of_mem_eraseIdx hx)⟩
      · exact .inr k3
section
variable {P : Program} {ops : Array Oper} {W : World} {Q : (World → Prop) → Act → Prop} {k : Nat} {rest : List Oper} {F : World → Prop} {U : Nat → Prop} {a : Act} {dst : Option Tmp} {op : Op} {ty : TypeId} {pos : String} {after : Array Edge} {guard : Option (Nat × Bool)}
theorem run_app0 {w : World} (t ty e : TypeId) {i : TypeInfo} (ht : P.underlying t = some (.slice e)) (hi : P.info? e = some i) (hs : i.size = 1) (b : Addr) (A : Option Addr) (c : Nat) :
    (Builtin.append_ #[t, t] ty #[.slice (some b) 4 4, .slice A 0 c]).run P w = .ok (.slice (some b) 4 4) w := by
  cases A <;> simp [Builtin.append_, run_underlying ht, sizeOf, typeInfo, hi, Builtin.lenOf, Builtin.firstCells, loadCells, loadCellsFrom, storeCells, hs]
theorem H_app4 {w0 : Base} {L N : List Blk} {M' : List (Option Addr × List Value)} {s x : Operand} {t : TypeId} (i j : Nat) (A : Option Addr) (n c : Nat) (e : TypeId) (l : List Int) (hM : St w0 L W) (hL : LedN W F U N w0 M') (hj : w0.M[j]? = some (A, nv l)) (hn : n = List.length l) (hb : n ≤ 1000000)
    (hd : (depE3 ops k && isCall ⟨dst, .call { callee := .builtin .append, args := #[s, x], argTypes := #[t, t] }, ty, pos, after, guard⟩) = true)
    (hc : (Region.wanted ⟨dst, .call { callee := .builtin .append, args := #[s, x], argTypes := #[t, t] }, ty, pos, after, guard⟩ (yielded ops a.tmps), a.eval s, a.eval x, P.underlying t, elemOf' P e, N[i]?, (bAt N i).c, (bAt N i).T) =
      (true, .slice (some ⟨(bAt N i).g, 0, none⟩) 4 4, .slice A n c, some (.slice e), some (1, 8, .int .i64 0), some (bAt N i), ⟨nv [0, 0, 0, 0]⟩, e))
    (h : ∀ l', [0, 0, 0, 0] ++ l = l' → ∀ A' cap, List.length l' ≤ cap → ∀ F U, LedN W F U (N.eraseIdx i) w0 ((A', nv l') :: M') → WlH P ops W Q (k + 1) rest F U (a.put dst (.slice A' (List.length l') cap))) :
    WlH P ops W Q k (⟨dst, .call { callee := .builtin .append, args := #[s, x], argTypes := #[t, t] }, ty, pos, after, guard⟩ :: rest) F U a := by
  subst hn
  simp only [Prod.mk.injEq] at hc
  obtain ⟨h1, h2, h3, h4, h5, h6, h7, h8⟩ := hc
  rw [Bool.and_eq_true] at hd
  obtain ⟨inf, hi, hz, hs, hby⟩ := elemOf'_spec h5
  obtain ⟨o1, o2⟩ := hL.own _ (List.mem_of_getElem? h6)
  have hU := hL.u _ (List.mem_of_getElem? h6)
  have hg : ∀ w', F w' → Has (bAt N i).g (.cells ⟨nv [0, 0, 0, 0]⟩ e (0, 0)) w' := fun w' hF => by
    have := hL.has w' hF _ (List.mem_of_getElem? h6)
    unfold Blk.obj at this
    rw [h7, h8, o2] at this
    exact this
  have hne : ∀ y ∈ N.eraseIdx i, y.g ≠ (bAt N i).g := fun y hy he => by
    rw [List.mem_eraseIdx_iff_getElem] at hy
    obtain ⟨m, hm, hne, rfl⟩ := hy
    have k1 : (N.map Blk.g)[i]? = some (bAt N i).g := by rw [List.getElem?_map, h6]; rfl
    have k2 : (N.map Blk.g)[m]? = some (N[m]).g := by rw [List.getElem?_map, List.getElem?_eq_getElem hm]; rfl
    have hlt : m < (N.map Blk.g).length := by simpa using hm
    exact hne ((List.getElem?_inj hlt hL.nd).1 (by rw [k1, k2, he]))
  generalize hgg : (bAt N i).g = g at *
  have hlen : ([0, 0, 0, 0] ++ l : List Int).length = 4 + l.length := by simp; omega
  have hent := hM.ent j hj
  refine ⟨.inr (.inl ⟨hd.1, hd.2, h1, Option Addr × Nat × Option Nat,
    fun p => (l = [] ∧ p = (some ⟨g, 0, none⟩, 4, none)) ∨ (l ≠ [] ∧ 4 + l.length ≤ p.2.1 ∧ ∃ b, p = (some ⟨b, 0, none⟩, p.2.1, some b)),
    fun p => .slice p.1 ([0, 0, 0, 0] ++ l : List Int).length p.2.1, fun p => p.2.2,
    fun p w2 => ∃ b, p.1 = some ⟨b, 0, none⟩ ∧ ∃ c T fr, Has b (.cells c T fr) w2 ∧ ∀ q, q < (nv ([0, 0, 0, 0] ++ l)).length → c.toList[0 + q]? = (nv ([0, 0, 0, 0] ++ l))[q]?, fun M => ?_, fun p w1 w2 hb' hp => ?_, fun w' hb' hF => ?_, fun p ha hp => ?_⟩)⟩
  · by_cases hl : l = []
    · exact ⟨(some ⟨g, 0, none⟩, 4, none), .inl ⟨hl, rfl⟩, fun y hy => by cases hy⟩
    · exact ⟨(some ⟨M, 0, none⟩, 4 + l.length, some M), .inr ⟨hl, Nat.le_refl _, M, rfl⟩, fun y hy => some_le hy⟩
  · obtain ⟨b, k1, c', T, fr, k2, k3⟩ := hp
    exact ⟨b, k1, c', T, fr, k2.stay hb', k3⟩
  · unfold execOp
    by_cases hl : l = []
    · subst hl
      have hr := run_app0 (P := P) (w := w') t ty e h4 hi hs ⟨g, 0, none⟩ A c
      simp only [resolve, invoke, builtin, Sem.run_bind, Sem.run_pure, Result.andThen_ok, List.map_toArray, List.map_cons, List.map_nil, h2, h3, List.length_nil, hr, retUponE]
      exact ⟨(some ⟨g, 0, none⟩, 4, none), .inl (by simp), rfl, Below.refl _ _, fun y hy => (by cases hy), g, rfl, _, _, _, hg w' hF, fun q hq => by simp⟩
    · rcases hent with z | ⟨b, off, c', T, fr, k1, k2, k3⟩
      · exact absurd (nv_nil.1 z) hl
      · have hA : A = some ⟨b, off, none⟩ := k1
        have hpos := List.length_pos_iff.2 hl
        have hk := k2.stay hb'
        have hr := run_append_grow (P := P) w' t ty e inf (.int .i64 0) h4 hi hz ⟨g, 0, none⟩ 4 4 (nv [0, 0, 0, 0]) (by rw [hs]; rfl) (fun q v hv => by
            have := hg w' hF
            unfold Has at this
            rw [add_off, Nat.zero_add]
            simp only [World.cell?, this]
            simpa using hv) ⟨b, off, none⟩ l.length c (nv l) (by rw [hs, nv_len]; omega) (fun q v hv => by
            unfold Has at hk
            rw [add_off]
            simp only [World.cell?, hk]
            have hq : q < (nv l).length := (List.getElem?_eq_some_iff.1 hv).1
            have := k3 q hq
            rw [show (A, nv l).2 = nv l from rfl] at this
            rw [hv] at this
            simpa using this) (by omega) (by omega) (growslice_fits (by omega) (by rw [hby]; omega))
        subst hA
        simp only [resolve, invoke, builtin, Sem.run_bind, Sem.run_pure, Result.andThen_ok, List.map_toArray, List.map_cons, List.map_nil, h2, h3, hr, retUponE]
        have hge := grownCap_ge w' (4 + l.length) 4 e
        refine ⟨(some ⟨w'.heap.size, 0, none⟩, grownCap w' (4 + l.length) 4 e, some w'.heap.size), .inr ⟨hl, hge, _, rfl⟩, by rw [hlen], ((Below.refl _ _).drew).alloc (by simp) _, fun y hy => ?_, w'.heap.size, rfl, (nv [0, 0, 0, 0]).toArray ++ (nv l).toArray ++ Builtin.zeroCells (Value.int .i64 0).cells (grownCap w' (4 + l.length) 4 e - (4 + l.length)), e, (0, 0), ?_, ?_⟩
        · exact some_in (P := fun y => w'.heap.size ≤ y ∧ y < (w'.drew.alloc _).heap.size) hy ⟨Nat.le_refl _, by simp⟩
        · unfold Has
          rw [alloc_eq_grow]
          show (w'.heap ++ #[_])[w'.heap.size]? = some _
          simp
        · intro q hq
          rw [Nat.zero_add, nv_app]
          have hq' : q < (nv [0, 0, 0, 0] ++ nv l).length := by rw [nv_app] at hq; exact hq
          simp only [Array.toList_append, List.append_assoc]
          rw [← List.append_assoc, List.getElem?_append_left hq']
  · have hcap : ([0, 0, 0, 0] ++ l : List Int).length ≤ p.2.1 := by
      rw [hlen]
      rcases ha with ⟨z, e1⟩ | ⟨z, e1, -⟩
      · rw [e1, z]; simp
      · exact e1
    refine (h _ rfl p.1 p.2.1 hcap _ _ ?_).out
    have hd2 := (hL.drop i).same (F' := fun w' => F w' ∧ ∃ b, p.1 = some ⟨b, 0, none⟩ ∧ ∃ c T fr, Has b (.cells c T fr) w' ∧ ∀ q, q < (nv ([0, 0, 0, 0] ++ l)).length → c.toList[0 + q]? = (nv ([0, 0, 0, 0] ++ l))[q]?) (U' := fun y => U y ∨ p.2.2 = some y) (fun _ h => h.1) (fun _ h => .inl h)
    refine ⟨hd2.has, hd2.u, hd2.nd, hd2.own, fun m hm => ?_⟩
    rcases List.mem_cons.1 hm with rfl | hm
    · right
      rcases ha with ⟨z, e1⟩ | ⟨z, -, b, e1⟩
      · refine ⟨g, 0, by rw [e1], fun w' hw => ?_, .inl ⟨o1, .inl hU, hne⟩⟩
        obtain ⟨b, k1, k2⟩ := hw.2
        rw [e1] at k1
        simp only [Option.some.injEq, Addr.mk.injEq, and_true] at k1
        subst k1
        exact k2
      · have ep : p.2.2 = some b := by rw [e1]
        have e0 : p.1 = some ⟨b, 0, none⟩ := by rw [e1]
        obtain ⟨q1, q2⟩ := hp b ep
        refine ⟨b, 0, e0, fun w' hw => ?_, .inl ⟨q1, .inr ep, fun x hx he => q2 (he ▸ hL.u x (List.mem_of_mem_eraseIdx hx))⟩⟩
        obtain ⟨b', k1, k2⟩ := hw.2
        rw [e0] at k1
        simp only [Option.some.injEq, Addr.mk.injEq, and_true] at k1
        subst k1
        exact k2
    · exact hd2.num m hm
end
end Go.Proofs.Ytognbeejobfpfaa
