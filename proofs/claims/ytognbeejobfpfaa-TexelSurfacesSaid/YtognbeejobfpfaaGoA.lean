/- Appending to a slice that the call builds, by explicit steps. No program is named here. -/
import Derived.Test.YtognbeejobfpfaaGo
import Derived.Laws.AppendOwn
namespace Go.Proofs.Ytognbeejobfpfaa
open Go.RowKit Go.Sort
set_option linter.unusedVariables false
set_option linter.unusedSimpArgs false

def elemOf' (P : Program) (e : TypeId) : Option (Nat × Nat × Value) := match P.info? e with
  | some i => match i.zero with
    | some z => some (i.size, i.bytes, z)
    | none => none
  | none => none
theorem elemOf'_spec {P : Program} {e : TypeId} {sz by' : Nat} {z : Value} (h : elemOf' P e = some (sz, by', z)) : ∃ i, P.info? e = some i ∧ i.zero = some z ∧ i.size = sz ∧ i.bytes = by' := by
  unfold elemOf' at h
  cases hi : P.info? e with
  | none => rw [hi] at h; cases h
  | some i =>
    rw [hi] at h
    simp only at h
    cases hz : i.zero with
    | none => rw [hz] at h; cases h
    | some z' =>
      rw [hz] at h
      simp only [Option.some.injEq, Prod.mk.injEq] at h
      exact ⟨i, rfl, by rw [hz, h.2.2], h.1, h.2.1⟩
/-- What is behind the elements, up to the capacity. -/
structure SlOk (sz n cap : Nat) (rest : List Value) : Prop where
  len : rest.length = (cap - n) * sz
  le : n ≤ cap
  max : cap ≤ maxLen
theorem St.drop {w0 : Base} {w : World} {L : List Blk} (h : St w0 L w) (i : Nat) : St w0 (L.eraseIdx i) w :=
  ⟨h.below, fun b hm => h.has b (List.mem_of_mem_eraseIdx hm), by
    have : (L.eraseIdx i).map Blk.g = (L.map Blk.g).eraseIdx i := by simp [List.eraseIdx_eq_take_drop_succ, List.map_take, List.map_drop]
    rw [this]; exact h.nd.sublist (List.eraseIdx_sublist _ _), fun b hm => h.own b (List.mem_of_mem_eraseIdx hm), fun m hm => (h.num m hm).part fun x hx hxo => ⟨x, List.mem_of_mem_eraseIdx hx, hxo, rfl⟩⟩
theorem bAt_eq {L : List Blk} {i : Nat} (hi : L[i]? = some (bAt L i)) (hlt : i < L.length) : L[i] = bAt L i := (List.getElem?_eq_some_iff.1 hi).2
/-- The block that was left out may come back with other cells. -/
theorem St.back {w0 : Base} {w : World} {L : List Blk} (h : St w0 L w) {i : Nat} (hi : L[i]? = some (bAt L i)) (ho : (bAt L i).own = true) (c : Array Value) : St w0 (⟨(bAt L i).g, c, (bAt L i).T, (0, 0), true⟩ :: L.eraseIdx i) (w.setRow (bAt L i).g c) := by
  have hp := h.put hi ho c
  obtain ⟨o1, o2⟩ := h.own _ (List.mem_of_getElem? hi) ho
  have hlt := (List.getElem?_eq_some_iff.1 hi).1
  have hmem : ∀ b ∈ L.eraseIdx i, b ∈ setB L i c := by
    intro b hm
    unfold setB
    rw [List.mem_eraseIdx_iff_getElem] at hm
    obtain ⟨j, hj, hne, he⟩ := hm
    refine List.mem_iff_getElem.2 ⟨j, by simpa using hj, ?_⟩
    rw [List.getElem_set_ne (Ne.symm hne)]
    exact he
  have hset : setB L i c = L.take i ++ { bAt L i with c := c } :: L.drop (i + 1) := by
    unfold setB
    rw [List.set_eq_take_append_cons_drop, if_pos hlt]
  have herase : L.eraseIdx i = L.take i ++ L.drop (i + 1) := List.eraseIdx_eq_take_drop_succ L i
  have hmb : { bAt L i with c := c } ∈ setB L i c := by rw [hset]; simp
  refine ⟨hp.below, fun b hm => ?_, ?_, fun b hm ho' => ?_, fun m hm => (hp.num m hm).part fun x hx hxo => ?_⟩
  · rcases List.mem_cons.1 hm with rfl | hm
    · have := hp.has _ hmb
      unfold Blk.obj at this
      simp only [o2] at this
      exact this
    · exact hp.has b (hmem b hm)
  · have hn := hp.nd
    rw [hset] at hn
    simp only [List.map_append, List.map_cons] at hn
    simp only [List.map_cons, herase, List.map_append]
    obtain ⟨h1, h2, h3⟩ := List.nodup_append.1 hn
    obtain ⟨h4, h5⟩ := List.nodup_cons.1 h2
    refine List.nodup_cons.2 ⟨fun hm => ?_, List.nodup_append.2 ⟨h1, h5, fun x hx y hy => h3 x hx y (List.mem_cons_of_mem _ hy)⟩⟩
    rcases List.mem_append.1 hm with hm | hm
    · exact h3 _ hm _ (List.mem_cons_self ..) rfl
    · exact h4 hm
  · rcases List.mem_cons.1 hm with rfl | hm
    · exact ⟨o1, rfl⟩
    · exact hp.own b (hmem b hm) ho'
  · rcases List.mem_cons.1 hx with rfl | hx
    · exact ⟨_, hmb, ho, rfl⟩
    · exact ⟨x, hmem x hx, hxo, rfl⟩
section
variable {P : Program} {ops : Array Oper} {Q : Exit → Act → World → Prop} {restO : List Oper} {a : Act} {w : World} {dst : Option Tmp} {ty : TypeId} {pos : String} {after : Array Edge} {guard : Option (Nat × Bool)}
theorem news_at {w0 : Base} {L : List Blk} (hM : St w0 L w) {j : Nat} (hj : L[j]? = some (bAt L j)) {k : Nat} : ∀ i u, ((bAt L j).c.toList.take k)[i]? = some u → w.cell? ((⟨(bAt L j).g, 0, none⟩ : Addr).add i) = some u := by
  intro i u hu
  have hh := hM.get hj
  rw [add_off, Nat.zero_add]
  unfold Has Blk.obj at hh
  simp only [World.cell?, hh]
  rw [List.getElem?_take] at hu
  split at hu
  · simpa using hu
  · cases hu
theorem S_app0 {w0 : Base} {L : List Blk} {s x : Operand} {t : TypeId} (j m c : Nat) (e : TypeId) (sz by' : Nat) (z : Value) (news : List Value) (hM : St w0 L w)
    (hc : (Region.wanted ⟨dst, .call { callee := .builtin .append, args := #[s, x], argTypes := #[t, t] }, ty, pos, after, guard⟩ (yielded ops a.tmps), a.eval s, a.eval x, L[j]?, P.underlying t, elemOf' P e, (bAt L j).c.toList.take (m * sz)) =
      (true, .slice none 0 0, .slice (some ⟨(bAt L j).g, 0, none⟩) m c, some (bAt L j), some (.slice e), some (sz, by', z), news))
    (hb : (Nat.beq news.length (m * sz) && Nat.beq z.cells.size sz && Nat.ble 1 m && Nat.ble (m * by') 140737488355328 && Nat.ble m 140737488355328) = true)
    (h : ∀ g cap rest w', SlOk sz m cap rest → St w0 (⟨g, ⟨news ++ rest⟩, e, (0, 0), true⟩ :: L) w' → Wp P ops Q restO (a.put dst (.slice (some ⟨g, 0, none⟩) m cap)) w') :
    Wp P ops Q (⟨dst, .call { callee := .builtin .append, args := #[s, x], argTypes := #[t, t] }, ty, pos, after, guard⟩ :: restO) a w := by
  simp only [Prod.mk.injEq] at hc
  obtain ⟨h1, h2, h3, h4, h5, h6, h7⟩ := hc
  simp only [Bool.and_eq_true, Nat.beq_eq, Nat.ble_eq] at hb
  obtain ⟨⟨⟨⟨b1, b2⟩, b3⟩, b4⟩, b5⟩ := hb
  obtain ⟨i, hi, hz, hs, hby⟩ := elemOf'_spec h6
  subst hs hby
  have hn := news_at hM h4 (k := m * i.size)
  rw [h7] at hn
  have hr := run_append_nil (P := P) w t ty e i z h5 hi hz ⟨(bAt L j).g, 0, none⟩ m c news b1 hn (by omega) (by omega) (by omega)
  have hge := grownCap_ge w m 0 e
  have hle := grownCap_le_maxLen w m 0 e (by unfold maxLen; omega)
  refine ⟨?_⟩
  unfold wpList
  rw [if_pos h1]
  refine .inl ?_
  unfold Oper.wp execOp
  simp only [resolve, invoke, builtin, Sem.run_bind, Sem.run_pure, Result.andThen_ok, List.map_toArray, List.map_cons, List.map_nil, h2, h3, hr, Oper.upon]
  have hw := h w.heap.size (grownCap w m 0 e) (Builtin.zeroCells z.cells (grownCap w m 0 e - m)).toList _ ⟨by rw [Array.length_toList, size_zeroCells, b2], hge, hle⟩
    (by
      have := hM.drew.alloc (news.toArray ++ Builtin.zeroCells z.cells (grownCap w m 0 e - m)) e
      have e1 : (news.toArray ++ Builtin.zeroCells z.cells (grownCap w m 0 e - m)) = (⟨news ++ (Builtin.zeroCells z.cells (grownCap w m 0 e - m)).toList⟩ : Array Value) := by
        apply Array.toList_inj.1
        simp
      rw [e1] at this
      exact this)
  have e1 : (news.toArray ++ Builtin.zeroCells z.cells (grownCap w m 0 e - m)) = (⟨news ++ (Builtin.zeroCells z.cells (grownCap w m 0 e - m)).toList⟩ : Array Value) := by
    apply Array.toList_inj.1
    simp
  rw [e1]
  exact hw.out
theorem S_appN {w0 : Base} {L : List Blk} {s x : Operand} {t : TypeId} (i j n cap m c : Nat) (e : TypeId) (sz by' : Nat) (z : Value) (xs rest news : List Value) (hM : St w0 L w) (hok : SlOk sz n cap rest)
    (hc : (Region.wanted ⟨dst, .call { callee := .builtin .append, args := #[s, x], argTypes := #[t, t] }, ty, pos, after, guard⟩ (yielded ops a.tmps), a.eval s, a.eval x, L[j]?, P.underlying t, elemOf' P e, (bAt L j).c.toList.take (m * sz), L[i]?, (bAt L i).T, (bAt L i).own, (bAt L i).c) =
      (true, .slice (some ⟨(bAt L i).g, 0, none⟩) n cap, .slice (some ⟨(bAt L j).g, 0, none⟩) m c, some (bAt L j), some (.slice e), some (sz, by', z), news, some (bAt L i), e, true, ⟨xs ++ rest⟩))
    (hb : (Nat.beq news.length (m * sz) && Nat.beq xs.length (n * sz) && Nat.beq z.cells.size sz && Nat.ble 1 m && cells1 news) = true) (hby : (n + m) * by' ≤ 140737488355328 ∧ n + m ≤ 140737488355328)
    (h : ∀ g cap' rest' w', SlOk sz (n + m) cap' rest' → St w0 (⟨g, ⟨(xs ++ news) ++ rest'⟩, e, (0, 0), true⟩ :: L.eraseIdx i) w' → Wp P ops Q restO (a.put dst (.slice (some ⟨g, 0, none⟩) (n + m) cap')) w') :
    Wp P ops Q (⟨dst, .call { callee := .builtin .append, args := #[s, x], argTypes := #[t, t] }, ty, pos, after, guard⟩ :: restO) a w := by
  simp only [Prod.mk.injEq] at hc
  obtain ⟨h1, h2, h3, h4, h5, h6, h7, h8, h9, h10, h11⟩ := hc
  simp only [Bool.and_eq_true, Nat.beq_eq, Nat.ble_eq] at hb
  obtain ⟨⟨⟨⟨b1, b2⟩, b3⟩, b4⟩, b5⟩ := hb
  obtain ⟨inf, hi, hz, hs, hby'⟩ := elemOf'_spec h6
  subst hs hby'
  have hn := news_at hM h4 (k := m * inf.size)
  rw [h7] at hn
  have hown := (hM.own _ (List.mem_of_getElem? h8) h10).2
  have hg := hM.get h8
  unfold Has Blk.obj at hg
  rw [hown, h9, h11] at hg
  have hsz : xs.length + rest.length = cap * inf.size := by
    rw [b2, hok.len, ← Nat.add_mul]
    congr 1
    have := hok.le
    omega
  refine ⟨?_⟩
  unfold wpList
  rw [if_pos h1]
  refine .inl ?_
  unfold Oper.wp execOp
  by_cases hroom : n + m ≤ cap
  · have hfit : n * inf.size + news.length ≤ (⟨xs ++ rest⟩ : Array Value).size := by
      have : (⟨xs ++ rest⟩ : Array Value).size = cap * inf.size := by simp [hsz]
      rw [this, b1, ← Nat.add_mul]
      exact Nat.mul_le_mul_right _ hroom
    have hr := run_append_room (P := P) w t ty e inf h5 hi (bAt L i).g n cap ⟨xs ++ rest⟩ hg ⟨(bAt L j).g, 0, none⟩ m c news b1 hn (fun u hu => List.all_eq_true.1 b5 u hu) hroom hfit
    simp only [resolve, invoke, builtin, Sem.run_bind, Sem.run_pure, Result.andThen_ok, List.map_toArray, List.map_cons, List.map_nil, h2, h3, hr, Oper.upon]
    have e1 : ((xs ++ rest).take (n * inf.size) ++ news ++ (xs ++ rest).drop (n * inf.size + news.length)) = (xs ++ news) ++ rest.drop news.length := by
      rw [← b2, List.take_left, List.drop_append, List.drop_eq_nil_of_le (by omega)]
      simp
    rw [e1]
    refine (h (bAt L i).g cap (rest.drop news.length) _ ⟨?_, hroom, hok.max⟩ ?_).out
    · rw [List.length_drop, hok.len, b1, ← Nat.sub_mul]
      congr 1
      omega
    · have := hM.back h8 h10 ⟨(xs ++ news) ++ rest.drop news.length⟩
      rw [h9] at this
      exact this
  · have holds : ∀ k u, xs[k]? = some u → w.cell? ((⟨(bAt L i).g, 0, none⟩ : Addr).add k) = some u := by
      intro k u hu
      rw [add_off, Nat.zero_add]
      simp only [World.cell?, hg]
      have hk : k < xs.length := (List.getElem?_eq_some_iff.1 hu).1
      simp [List.getElem?_append_left hk, hu]
    have hr := run_append_grow (P := P) w t ty e inf z h5 hi hz ⟨(bAt L i).g, 0, none⟩ n cap xs b2 holds ⟨(bAt L j).g, 0, none⟩ m c news b1 hn (by omega) (by omega) (growslice_fits (by omega) hby.1)
    simp only [resolve, invoke, builtin, Sem.run_bind, Sem.run_pure, Result.andThen_ok, List.map_toArray, List.map_cons, List.map_nil, h2, h3, hr, Oper.upon]
    have hge := grownCap_ge w (n + m) cap e
    have hle := grownCap_le_maxLen w (n + m) cap e (by unfold maxLen; omega)
    have e1 : (xs.toArray ++ news.toArray ++ Builtin.zeroCells z.cells (grownCap w (n + m) cap e - (n + m))) = (⟨(xs ++ news) ++ (Builtin.zeroCells z.cells (grownCap w (n + m) cap e - (n + m))).toList⟩ : Array Value) := by
      apply Array.toList_inj.1
      simp
    rw [e1]
    refine (h w.heap.size _ _ _ ⟨by rw [Array.length_toList, size_zeroCells, b3], hge, hle⟩ ?_).out
    exact (hM.drop i).drew.alloc _ e
end

end Go.Proofs.Ytognbeejobfpfaa
