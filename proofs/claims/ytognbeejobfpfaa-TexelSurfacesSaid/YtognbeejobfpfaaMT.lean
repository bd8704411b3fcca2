/- Slices of textures (a number and a slice of places each): that came in, and that the call has built. No program is named here. Structs with bools compared. Layer 25: what is sampled is the document's; in a texel's middle it is the texel's colour; it lies between the least and the greatest texel. -/
import Derived.Test.YtognbeejobfpfaaGoX
import Derived.Test.YtognbeejobfpfaaGoN
import Derived.Test.YtognbeejobfpfaaMG
import Derived.Laws.StructEq
import Derived.Laws.Cover2
import Derived.Test.YtognbeejobfpfaaL25w
namespace Go.Proofs.Ytognbeejobfpfaa
open Go.RowKit Go.Sort
set_option linter.unusedVariables false
set_option linter.unusedSimpArgs false

/-- A texture: its side, where its places lie, how many could, and which they are. -/
abbrev Tx := Int × Option Addr × Nat × List T3
def tE (x : Tx) : List Value := [.int .i64 x.1, .slice x.2.1 (List.length x.2.2.2) x.2.2.1]
theorem tE_len (x : Tx) : (tE x).length = 2 := rfl
def tx0 : Tx := (0, none, 0, [])
structure TxOk (w : World) (x : Tx) : Prop where
  rd : Rd v3c 3 w x.2.1 x.2.2.2
  cap : List.length x.2.2.2 ≤ x.2.2.1
  inI : InI x.1
  inV : ∀ y ∈ x.2.2.2, InV y
theorem TxOk.stay {w w' : World} {x : Tx} (h : TxOk w x) (hb : Below w.heap.size w w') : TxOk w' x := ⟨h.rd.stay hb, h.cap, h.inI, h.inV⟩
/-- .. of at most a thousand places. -/
structure TxS (w : World) (x : Tx) : Prop extends TxOk w x where
  small : (List.length x.2.2.2 : Int) ≤ 1000
theorem TxS.stay {w w' : World} {x : Tx} (h : TxS w x) (hb : Below w.heap.size w w') : TxS w' x := ⟨h.toTxOk.stay hb, h.small⟩
theorem tx_at {w : World} {L : List Tx} (h : ∀ x ∈ L, TxOk w x) {i : Int} (hi : 0 ≤ i ∧ i < (List.length L : Int)) : TxOk w (gd tx0 L i) := h _ (gd_mem tx0 hi)
theorem txs_at {w : World} {L : List Tx} (h : ∀ x ∈ L, TxS w x) {i : Int} (hi : 0 ≤ i ∧ i < (List.length L : Int)) : TxS w (gd tx0 L i) := h _ (gd_mem tx0 hi)
def flatT : List Tx → List Value
  | [] => []
  | x :: l => tE x ++ flatT l
theorem flatT_at : ∀ (l : List Tx) (i : Nat) (h : i < l.length) (j : Nat), j < 2 → (flatT l)[i * 2 + j]? = (tE l[i])[j]?
  | x :: l, 0, _, j, hj => by
    show (tE x ++ flatT l)[0 * 2 + j]? = _
    rw [List.getElem?_append_left (by rw [tE_len]; omega), show 0 * 2 + j = j by omega]
    rfl
  | x :: l, i + 1, h, j, hj => by
    have ih := flatT_at l i (by simpa using h) j hj
    show (tE x ++ flatT l)[(i + 1) * 2 + j]? = _
    rw [List.getElem?_append_right (by rw [tE_len]; omega), tE_len, show (i + 1) * 2 + j - 2 = i * 2 + j by omega]
    exact ih
theorem flatT_len : ∀ l : List Tx, (flatT l).length = l.length * 2
  | [] => rfl
  | x :: l => by show (tE x ++ flatT l).length = _; rw [List.length_append, flatT_len l, tE_len, List.length_cons]; omega
/-- A slice that the call has built, as Rd. -/
theorem rdT_of {w0 : Base} {w : World} {L : List Blk} (hM : St w0 L w) (i : Nat) (l : List Tx) (rest : List Value) (hi : (L[i]?, (bAt L i).c) = (some (bAt L i), ⟨flatT l ++ rest⟩)) : Rd tE 2 w (some ⟨(bAt L i).g, 0, none⟩) l := by
  simp only [Prod.mk.injEq] at hi
  have hg := hM.get hi.1
  unfold Blk.obj at hg
  rw [hi.2] at hg
  refine .inr ⟨_, _, _, _, _, rfl, hg, fun k hk j hj => ?_⟩
  rw [Nat.zero_add, ← flatT_at l k hk j hj]
  show (flatT l ++ rest)[k * 2 + j]? = _
  rw [List.getElem?_append_left (by rw [flatT_len]; omega)]
theorem all0 {p : Tx → Prop} : ∀ x ∈ ([] : List Tx), p x := fun _ h => absurd h List.not_mem_nil
theorem allc {p : Tx → Prop} {x : Tx} {l : List Tx} (h : p x) (r : ∀ y ∈ l, p y) : ∀ y ∈ x :: l, p y := fun y hy => (List.mem_cons.1 hy).elim (fun e => e ▸ h) (r y)
/-- The level of a bounce. -/
def lvl (L : List Tx) (b : Int) : Tx := gd tx0 L (gmin (gmax b 0) ((List.length L : Int) - 1))
theorem lvl_ix {L : List Tx} (hL : 0 < (List.length L : Int)) (hm : (List.length L : Int) ≤ 1000) {b x y z : Int} (hx : gmax b 0 = x) (hy : IntKind.i64.wrap ((List.length L : Int) - 1) = y) (hz : gmin x y = z) : (0 ≤ z ∧ z < (List.length L : Int)) ∧ z = gmin (gmax b 0) ((List.length L : Int) - 1) := by
  rw [IntKind.wrap_i64] at hy
  rw [gmax_eq] at hx
  rw [gmin_eq] at hz
  rw [gmax_eq, gmin_eq]
  omega
theorem lvl_mem {L : List Tx} (hL : 0 < (List.length L : Int)) (b : Int) : lvl L b ∈ L := by
  unfold lvl
  refine gd_mem tx0 ?_
  rw [gmax_eq, gmin_eq]
  omega
end Go.Proofs.Ytognbeejobfpfaa

namespace Go.Proofs.Ytognbeejobfpfaa
open Go.RowKit Go.Sort
set_option linter.unusedVariables false
set_option linter.unusedSimpArgs false

theorem eqA3 (a b c a' b' c' : Int) (w : World) : (Op.equalIn 10000 36 (.agg #[.int .i64 a, .int .i64 b, .int .i64 c]) (.agg #[.int .i64 a', .int .i64 b', .int .i64 c'])).run Try.prog w = .ok (a == a' && (b == b' && c == c')) w := by
  have u3 := Try.underlying3
  have a3 := Try.isAgg3
  have z3 := Try.sizeOf3
  rw [show (10000 : Nat) = 9999 + 1 from rfl, Op.equalIn]
  simp only [Sem.run_bind, run_underlying Try.underlying36, Result.andThen_ok]
  simp only [Std.Legacy.Range.forIn_eq_forIn_range', Std.Legacy.Range.size, Nat.sub_zero, Nat.add_sub_cancel, Nat.div_one, List.range'_succ, List.range'_zero, List.forIn_cons, List.forIn_nil]
  go_simp
  by_cases h1 : a = a' <;> by_cases h2 : b = b' <;> by_cases h3 : c = c' <;> simp [h1, h2, h3]

theorem eqv__3_int {ops : Array Oper} {a : Act} {w : World} {dst : Option Tmp} {xo yo : Operand} {T2 ty : TypeId} {pos : String} {after : Array Edge} {guard : Option (Nat × Bool)} {x y : Int × Int × Int}
    (hw : Region.wanted ⟨dst, .binOp .eql 36 xo yo T2, ty, pos, after, guard⟩ (yielded ops a.tmps) = true) (hx : a.eval xo = .agg #[.int .i64 x.1, .int .i64 x.2.1, .int .i64 x.2.2]) (hy : a.eval yo = .agg #[.int .i64 y.1, .int .i64 y.2.1, .int .i64 y.2.2]) : (Region.wanted ⟨dst, .binOp .eql 36 xo yo T2, ty, pos, after, guard⟩ (yielded ops a.tmps), (execOp a.eval ⟨dst, .binOp .eql 36 xo yo T2, ty, pos, after, guard⟩).run Try.prog w) = (true, .ok (.value (.bool (decide (x = y)))) w) := by
  refine Prod.ext hw ?_
  have hg : Try.prog.eqGuardType Try.prog.depth 36 = false := by kernel_rfl
  have e : decide (x = y) = (x.1 == y.1 && (x.2.1 == y.2.1 && x.2.2 == y.2.2)) := by
    rw [Bool.eq_iff_iff]
    simp [Prod.ext_iff, and_assoc]
  show (execOp a.eval ⟨dst, .binOp .eql 36 xo yo T2, ty, pos, after, guard⟩).run Try.prog w = _
  rw [e]
  unfold execOp
  simp only [hx, hy]
  simp [eqGuard, hg, binOp, Op.equal, Op.maxDepth, go_sem, Bool.and_assoc, eqA3]
theorem eqv__3_intn {ops : Array Oper} {a : Act} {w : World} {dst : Option Tmp} {xo yo : Operand} {T2 ty : TypeId} {pos : String} {after : Array Edge} {guard : Option (Nat × Bool)} {x y : Int × Int × Int}
    (hw : Region.wanted ⟨dst, .binOp .neq 36 xo yo T2, ty, pos, after, guard⟩ (yielded ops a.tmps) = true) (hx : a.eval xo = .agg #[.int .i64 x.1, .int .i64 x.2.1, .int .i64 x.2.2]) (hy : a.eval yo = .agg #[.int .i64 y.1, .int .i64 y.2.1, .int .i64 y.2.2]) : (Region.wanted ⟨dst, .binOp .neq 36 xo yo T2, ty, pos, after, guard⟩ (yielded ops a.tmps), (execOp a.eval ⟨dst, .binOp .neq 36 xo yo T2, ty, pos, after, guard⟩).run Try.prog w) = (true, .ok (.value (.bool (!decide (x = y)))) w) := by
  refine Prod.ext hw ?_
  have hg : Try.prog.eqGuardType Try.prog.depth 36 = false := by kernel_rfl
  have e : decide (x = y) = (x.1 == y.1 && (x.2.1 == y.2.1 && x.2.2 == y.2.2)) := by
    rw [Bool.eq_iff_iff]
    simp [Prod.ext_iff, and_assoc]
  show (execOp a.eval ⟨dst, .binOp .neq 36 xo yo T2, ty, pos, after, guard⟩).run Try.prog w = _
  rw [e]
  unfold execOp
  simp only [hx, hy]
  simp [eqGuard, hg, binOp, Op.equal, Op.maxDepth, go_sem, Bool.and_assoc, eqA3]

end Go.Proofs.Ytognbeejobfpfaa

namespace Go.Proofs.Ytognbeejobfpfaa
open Go.RowKit Go.Sort
set_option linter.unusedVariables false
set_option linter.unusedSimpArgs false

theorem w64 {n : Int} (h : InI n) : wrap64 n = n := by unfold InI at h; unfold wrap64; omega
theorem pb2 {x y X Y : Int} (hx : 0 ≤ x ∧ x ≤ X) (hy : 0 ≤ y ∧ y ≤ Y) : 0 ≤ x * y ∧ x * y ≤ X * Y := by
  have h1 := Int.mul_nonneg hx.1 hy.1
  have h2 := Int.mul_nonneg (show 0 ≤ X - x by omega) (show 0 ≤ Y by omega)
  have h3 := Int.mul_nonneg hx.1 (show 0 ≤ Y - y by omega)
  have e1 : (X - x) * Y = X * Y - x * Y := Int.sub_mul _ _ _
  have e2 : x * (Y - y) = x * Y - x * y := Int.mul_sub _ _ _
  omega
def In255 (x : T3) : Prop := (0 ≤ x.1 ∧ x.1 ≤ 255) ∧ (0 ≤ x.2.1 ∧ x.2.1 ≤ 255) ∧ (0 ≤ x.2.2 ∧ x.2.2 ≤ 255)
theorem L4_eq (side : Int) (l : List T3) : ∀ (f : Nat) (k : Int), L4_texture_Check side l f k = L4_umbraref14_Check side l f k
  | 0, _ => rfl
  | f + 1, k => by
    rw [L4_texture_Check, L4_umbraref14_Check]
    have ih := fun k => L4_eq side l f k
    generalize gd zero3 l k = p
    obtain ⟨p1, p2, p3⟩ := p
    simp only [lt, gmin_eq, gmax_eq, ih]
    repeat' split
    all_goals first | rfl | (exfalso; omega)
theorem chk_eq (side : Int) (l : List T3) : s_texture_Check side l = s_umbraref14_Check side l := by
  unfold s_texture_Check s_umbraref14_Check s_slices_Contains_g_v s_slices_Index_g_v
  simp only [lt, L4_eq]
  by_cases h1 : side = 1
  · simp [h1]
  · by_cases h2 : side = 2
    · simp [h2]
    · by_cases h4 : side = 4
      · simp [h4]
      · by_cases h8 : side = 8
        · simp [h8]
        · by_cases h16 : side = 16
          · simp [h16]
          · simp [h1, h2, h4, h8, h16]
theorem L4_rng (side : Int) (l : List T3) (hl : (l.length : Int) ≤ 1000) : ∀ (f : Nat) (k : Int), 0 ≤ k → (l.length : Int) - k < f → L4_texture_Check side l f k = 0 → ∀ i, k ≤ i → i < (l.length : Int) → In255 (gd zero3 l i)
  | 0, k, hk, hf, h, i, h1, h2 => by omega
  | f + 1, k, hk, hf, h, i, h1, h2 => by
    rw [L4_texture_Check] at h
    rw [if_pos (by omega)] at h
    simp only [lt, gmin_eq, gmax_eq] at h
    split at h
    · cases h
    · split at h
      · cases h
      · rw [wrI, w64 (by unfold InI; omega)] at h
        by_cases he : i = k
        · subst he
          unfold In255
          omega
        · exact L4_rng side l hl f (k + 1) (by omega) (by omega) h i (by omega) h2
theorem chk_rng {side : Int} {l : List T3} (hl : (l.length : Int) ≤ 1000) (h : s_texture_Check side l = 0) {i : Int} (hi : 0 ≤ i ∧ i < (l.length : Int)) : In255 (gd zero3 l i) := by
  have hs := check_sq h
  have h' := h
  unfold s_texture_Check at h'
  simp only [lt] at h'
  split at h'
  · split at h'
    · exact L4_rng side l hl _ 0 (by omega) (by omega) h' i hi.1 hi.2
    · cases h'
  · cases h'

def tx (side : Int) (l : List T3) (p q : Int) : T3 := gd zero3 l ((q % side) * side + p % side)
theorem tx_rng {side : Int} {l : List T3} (hl : (l.length : Int) ≤ 1000) (h : s_texture_Check side l = 0) (p q : Int) : In255 (tx side l p q) := by
  have hs := check_sq h
  have hb := grid_bd hs.1 (p := q) (q := p)
  exact chk_rng hl h ⟨hb.1, by rw [hs.2]; exact hb.2⟩
theorem at_val {side : Int} {l : List T3} (h : s_texture_Check side l = 0) (x y : Int) : s_texture_At side l x y = (tx side l x y, 0) := by
  have hs := check_sq h
  unfold s_texture_At s_texture_at
  simp only [lt]
  rw [if_pos h, mask_side (y := y) hs.1 rfl, mask_side (y := x) hs.1 rfl, wrI, wrI, grid_wr hs.1]
  rfl
theorem texel_val {side : Int} {l : List T3} (hs : SqT side l) (x y : Int) : s_umbraref14_Texel side l x y = tx side l x y := by
  unfold s_umbraref14_Texel
  simp only [lt]
  rw [mod_side hs.1, mod_side hs.1, wrI, wrI, grid_wr hs.1]
  rfl
theorem floor_val {n : Int} (h : InI n) : s_umbraref25_floor n = n / 65536 := by
  unfold s_umbraref25_floor
  simp only [lt, wrI]
  unfold InI at h
  have h1 := Int.mul_tdiv_add_tmod n 65536
  have h2 := Int.tmod_lt_of_pos n (show (0 : Int) < 65536 by omega)
  have h3 := Int.lt_tmod_of_pos n (show (0 : Int) < 65536 by omega)
  have h4 : 0 ≤ n → 0 ≤ Int.tmod n 65536 := fun h => Int.tmod_nonneg _ h
  generalize Int.tmod n 65536 = r at *
  generalize Int.tdiv n 65536 = q at *
  unfold wrap64
  split <;> omega
def smp (a b c0 c1 c2 c3 : Int) : Int := (c0 * ((65536 - a) * (65536 - b)) + c1 * (a * (65536 - b)) + c2 * ((65536 - a) * b) + c3 * (a * b)) / 255
theorem code_part {a b c0 c1 c2 c3 : Int} (ha : 0 ≤ a ∧ a ≤ 65535) (hb : 0 ≤ b ∧ b ≤ 65535) (h0 : 0 ≤ c0 ∧ c0 ≤ 255) (h1 : 0 ≤ c1 ∧ c1 ≤ 255) (h2 : 0 ≤ c2 ∧ c2 ≤ 255) (h3 : 0 ≤ c3 ∧ c3 ≤ 255) :
    wrap64 (Int.tdiv (wrap64 (wrap64 (wrap64 (wrap64 (0 + wrap64 (c0 * wrap64 (wrap64 (65536 - a) * wrap64 (65536 - b)))) + wrap64 (c1 * wrap64 (a * wrap64 (65536 - b)))) + wrap64 (c2 * wrap64 (wrap64 (65536 - a) * b))) + wrap64 (c3 * wrap64 (a * b)))) 255) = smp a b c0 c1 c2 c3 := by
  unfold smp
  rw [w64 (n := 65536 - a) (by unfold InI; omega), w64 (n := 65536 - b) (by unfold InI; omega)]
  have hp : 0 ≤ 65536 - a ∧ 65536 - a ≤ 65536 := by omega
  have hq : 0 ≤ 65536 - b ∧ 65536 - b ≤ 65536 := by omega
  have ha' : 0 ≤ a ∧ a ≤ 65536 := by omega
  have hb' : 0 ≤ b ∧ b ≤ 65536 := by omega
  generalize 65536 - a = p at *
  generalize 65536 - b = q at *
  have k0 := pb2 hp hq
  have k1 := pb2 ha' hq
  have k2 := pb2 hp hb'
  have k3 := pb2 ha' hb'
  rw [w64 (n := p * q) (by unfold InI; omega), w64 (n := a * q) (by unfold InI; omega), w64 (n := p * b) (by unfold InI; omega), w64 (n := a * b) (by unfold InI; omega)]
  generalize p * q = W0 at *
  generalize a * q = W1 at *
  generalize p * b = W2 at *
  generalize a * b = W3 at *
  have j0 := pb2 h0 k0
  have j1 := pb2 h1 k1
  have j2 := pb2 h2 k2
  have j3 := pb2 h3 k3
  generalize c0 * W0 = S0 at *
  generalize c1 * W1 = S1 at *
  generalize c2 * W2 = S2 at *
  generalize c3 * W3 = S3 at *
  simp only [show (255 : Int) * (65536 * 65536) = 1095216660480 by decide] at j0 j1 j2 j3
  rw [w64 (n := S0) (by unfold InI; omega), w64 (n := S1) (by unfold InI; omega), w64 (n := S2) (by unfold InI; omega), w64 (n := S3) (by unfold InI; omega), w64 (n := 0 + S0) (by unfold InI; omega), w64 (n := 0 + S0 + S1) (by unfold InI; omega), w64 (n := 0 + S0 + S1 + S2) (by unfold InI; omega),
    w64 (n := 0 + S0 + S1 + S2 + S3) (by unfold InI; omega), Int.tdiv_eq_ediv_of_nonneg (by omega), w64 (by unfold InI; omega), Int.zero_add]
theorem ref_part {a b c0 c1 c2 c3 : Int} (ha : 0 ≤ a ∧ a ≤ 65535) (hb : 0 ≤ b ∧ b ≤ 65535) (h0 : 0 ≤ c0 ∧ c0 ≤ 255) (h1 : 0 ≤ c1 ∧ c1 ≤ 255) (h2 : 0 ≤ c2 ∧ c2 ≤ 255) (h3 : 0 ≤ c3 ∧ c3 ≤ 255) :
    wrap64 (Int.tdiv (wrap64 (wrap64 (wrap64 (wrap64 (c0 * wrap64 (65536 - a)) + wrap64 (c1 * a)) * wrap64 (65536 - b)) + wrap64 (wrap64 (wrap64 (c2 * wrap64 (65536 - a)) + wrap64 (c3 * a)) * b))) 255) = smp a b c0 c1 c2 c3 := by
  have e : smp a b c0 c1 c2 c3 = ((c0 * (65536 - a) + c1 * a) * (65536 - b) + (c2 * (65536 - a) + c3 * a) * b) / 255 := by
    unfold smp
    congr 1
    generalize 65536 - a = p
    generalize 65536 - b = q
    grind
  rw [e]
  rw [w64 (n := 65536 - a) (by unfold InI; omega), w64 (n := 65536 - b) (by unfold InI; omega)]
  have hp : 0 ≤ 65536 - a ∧ 65536 - a ≤ 65536 := by omega
  have hq : 0 ≤ 65536 - b ∧ 65536 - b ≤ 65536 := by omega
  have ha' : 0 ≤ a ∧ a ≤ 65536 := by omega
  have hb' : 0 ≤ b ∧ b ≤ 65536 := by omega
  generalize 65536 - a = p at *
  generalize 65536 - b = q at *
  have k0 := pb2 h0 hp
  have k1 := pb2 h1 ha'
  have k2 := pb2 h2 hp
  have k3 := pb2 h3 ha'
  rw [w64 (n := c0 * p) (by unfold InI; omega), w64 (n := c1 * a) (by unfold InI; omega), w64 (n := c2 * p) (by unfold InI; omega), w64 (n := c3 * a) (by unfold InI; omega)]
  generalize c0 * p = W0 at *
  generalize c1 * a = W1 at *
  generalize c2 * p = W2 at *
  generalize c3 * a = W3 at *
  rw [w64 (n := W0 + W1) (by unfold InI; omega), w64 (n := W2 + W3) (by unfold InI; omega)]
  have j0 := pb2 (x := W0 + W1) (X := 33423360) (by omega) hq
  have j1 := pb2 (x := W2 + W3) (X := 33423360) (by omega) hb'
  generalize (W0 + W1) * q = S0 at *
  generalize (W2 + W3) * b = S1 at *
  rw [w64 (n := S0) (by unfold InI; omega), w64 (n := S1) (by unfold InI; omega), w64 (n := S0 + S1) (by unfold InI; omega), Int.tdiv_eq_ediv_of_nonneg (by omega), w64 (by unfold InI; omega)]

theorem side_X {side u : Int} (hs : side = 1 ∨ side = 2 ∨ side = 4 ∨ side = 8 ∨ side = 16) (hu : 0 ≤ u ∧ u ≤ 65535) :
    wrap64 (wrap64 (u * side) - 32768) = u * side - 32768 ∧ -32768 ≤ u * side - 32768 ∧ u * side - 32768 ≤ 1048576 := by
  have : 0 ≤ u * side ∧ u * side ≤ 1048560 := by rcases hs with h | h | h | h | h <;> subst h <;> omega
  refine ⟨?_, by omega, by omega⟩
  rw [w64 (n := u * side) (by unfold InI; omega), w64 (by unfold InI; omega)]
def sval (side : Int) (l : List T3) (X Y : Int) : T3 :=
  (smp (X % 65536) (Y % 65536) (tx side l (X / 65536) (Y / 65536)).1 (tx side l (X / 65536 + 1) (Y / 65536)).1 (tx side l (X / 65536) (Y / 65536 + 1)).1 (tx side l (X / 65536 + 1) (Y / 65536 + 1)).1,
   smp (X % 65536) (Y % 65536) (tx side l (X / 65536) (Y / 65536)).2.1 (tx side l (X / 65536 + 1) (Y / 65536)).2.1 (tx side l (X / 65536) (Y / 65536 + 1)).2.1 (tx side l (X / 65536 + 1) (Y / 65536 + 1)).2.1,
   smp (X % 65536) (Y % 65536) (tx side l (X / 65536) (Y / 65536)).2.2 (tx side l (X / 65536 + 1) (Y / 65536)).2.2 (tx side l (X / 65536) (Y / 65536 + 1)).2.2 (tx side l (X / 65536 + 1) (Y / 65536 + 1)).2.2)
theorem at1 {side : Int} {l : List T3} (h : s_texture_Check side l = 0) {X Y : Int} (hX : -32768 ≤ X ∧ X ≤ 1048576) (hY : -32768 ≤ Y ∧ Y ≤ 1048576) {i j : Int} (hi : 0 ≤ i ∧ i ≤ 1) (hj : 0 ≤ j ∧ j ≤ 1) :
    s_texel_Sample_1 side l X Y i j = tx side l (X / 65536 + i) (Y / 65536 + j) := by
  unfold s_texel_Sample_1
  simp only [lt]
  have e1 : Int.fdiv X (2 ^ 16) = X / 65536 := Int.fdiv_eq_ediv_of_nonneg _ (by decide)
  have e2 : Int.fdiv Y (2 ^ 16) = Y / 65536 := Int.fdiv_eq_ediv_of_nonneg _ (by decide)
  rw [e1, e2, wrI, wrI, w64 (by unfold InI; omega), w64 (by unfold InI; omega), at_val h]
theorem mask16 (x : Int) : bits .and .i64 x 65535 = x % 65536 := i64_mask 16 (by omega) x
theorem sample_ok {side : Int} {l : List T3} (hl : (l.length : Int) ≤ 1000) (h : s_texture_Check side l = 0) {u v : Int} (hu : 0 ≤ u ∧ u ≤ 65535) (hv : 0 ≤ v ∧ v ≤ 65535) :
    s_texel_Sample side l u v = (sval side l (u * side - 32768) (v * side - 32768), 0) := by
  have hs := check_sq h
  unfold s_texel_Sample
  simp only [lt, gmin_eq, gmax_eq]
  rw [if_pos h, if_neg (by omega), if_neg (by omega)]
  simp only [wrI]
  obtain ⟨x1, x2⟩ := side_X hs.1 hu
  obtain ⟨y1, y2⟩ := side_X hs.1 hv
  rw [x1, y1]
  generalize u * side - 32768 = X at *
  generalize v * side - 32768 = Y at *
  rw [at1 h x2 y2 (by omega) (by omega), at1 h x2 y2 (by omega) (by omega), at1 h x2 y2 (by omega) (by omega), at1 h x2 y2 (by omega) (by omega), mask16, mask16]
  simp only [Int.add_zero]
  obtain ⟨a1, a2, a3⟩ := tx_rng hl h (X / 65536) (Y / 65536)
  obtain ⟨b1, b2, b3⟩ := tx_rng hl h (X / 65536 + 1) (Y / 65536)
  obtain ⟨c1, c2, c3⟩ := tx_rng hl h (X / 65536) (Y / 65536 + 1)
  obtain ⟨d1, d2, d3⟩ := tx_rng hl h (X / 65536 + 1) (Y / 65536 + 1)
  have ha : 0 ≤ X % 65536 ∧ X % 65536 ≤ 65535 := by omega
  have hb : 0 ≤ Y % 65536 ∧ Y % 65536 ≤ 65535 := by omega
  rw [code_part ha hb a1 b1 c1 d1, code_part ha hb a2 b2 c2 d2, code_part ha hb a3 b3 c3 d3]
  rfl
theorem ref_ok {side : Int} {l : List T3} (hl : (l.length : Int) ≤ 1000) (h : s_texture_Check side l = 0) {u v : Int} (hu : 0 ≤ u ∧ u ≤ 65535) (hv : 0 ≤ v ∧ v ≤ 65535) :
    s_umbraref25_Sample side l u v = (sval side l (u * side - 32768) (v * side - 32768), 0) := by
  have hs := check_sq h
  have h' := h
  rw [chk_eq] at h'
  unfold s_umbraref25_Sample
  simp only [lt]
  rw [if_pos h', if_neg (by omega), if_neg (by omega), if_neg (by omega), if_neg (by omega)]
  simp only [wrI, texel_val hs]
  obtain ⟨x1, x2⟩ := side_X hs.1 hu
  obtain ⟨y1, y2⟩ := side_X hs.1 hv
  rw [x1, y1]
  generalize u * side - 32768 = X at *
  generalize v * side - 32768 = Y at *
  rw [floor_val (n := X) (by unfold InI; omega), floor_val (n := Y) (by unfold InI; omega)]
  rw [w64 (n := X / 65536 + 1) (by unfold InI; omega), w64 (n := Y / 65536 + 1) (by unfold InI; omega), w64 (n := 65536 * (X / 65536)) (by unfold InI; omega), w64 (n := 65536 * (Y / 65536)) (by unfold InI; omega)]
  have e1 : wrap64 (X - 65536 * (X / 65536)) = X % 65536 := by rw [w64 (by unfold InI; omega)]; omega
  have e2 : wrap64 (Y - 65536 * (Y / 65536)) = Y % 65536 := by rw [w64 (by unfold InI; omega)]; omega
  rw [e1, e2]
  obtain ⟨a1, a2, a3⟩ := tx_rng hl h (X / 65536) (Y / 65536)
  obtain ⟨b1, b2, b3⟩ := tx_rng hl h (X / 65536 + 1) (Y / 65536)
  obtain ⟨c1, c2, c3⟩ := tx_rng hl h (X / 65536) (Y / 65536 + 1)
  obtain ⟨d1, d2, d3⟩ := tx_rng hl h (X / 65536 + 1) (Y / 65536 + 1)
  have ha : 0 ≤ X % 65536 ∧ X % 65536 ≤ 65535 := by omega
  have hb : 0 ≤ Y % 65536 ∧ Y % 65536 ≤ 65535 := by omega
  rw [ref_part ha hb a1 b1 c1 d1, ref_part ha hb a2 b2 c2 d2, ref_part ha hb a3 b3 c3 d3]
  rfl
theorem sample_eq (side : Int) (l : List T3) (hl : (l.length : Int) ≤ 1000) (u v : Int) : s_texel_Sample side l u v = s_umbraref25_Sample side l u v := by
  by_cases h : s_texture_Check side l = 0
  · by_cases hu : (0 ≤ u ∧ u ≤ 65535) ∧ (0 ≤ v ∧ v ≤ 65535)
    · rw [sample_ok hl h hu.1 hu.2, ref_ok hl h hu.1 hu.2]
    · have h' := h
      rw [chk_eq] at h'
      have e1 : s_texel_Sample side l u v = ((0, 0, 0), 2) := by
        unfold s_texel_Sample
        simp only [lt, gmin_eq, gmax_eq]
        rw [if_pos h]
        split
        · rfl
        · rw [if_pos (by omega)]
      have e2 : s_umbraref25_Sample side l u v = ((0, 0, 0), 2) := by
        unfold s_umbraref25_Sample
        simp only [lt]
        rw [if_pos h']
        split
        · rfl
        · split
          · rfl
          · split
            · rfl
            · rw [if_pos (by omega)]
      rw [e1, e2]
  · have h' := h
    rw [chk_eq] at h'
    unfold s_texel_Sample s_umbraref25_Sample
    simp only [lt]
    rw [if_neg h, if_neg h', chk_eq]
theorem color_eq (c : T3) (m : Int) : s_texel_Color c m = s_umbraref25_Color c m := rfl
theorem take_le (l : List T3) : ((List.take (Int.toNat (gmin (List.length l : Int) 260)) l).length : Int) ≤ 1000 := by rw [List.length_take, gmin_eq]; omega
end Go.Proofs.Ytognbeejobfpfaa
