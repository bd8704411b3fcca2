/- Contracts of the lower layers, in one form. -/
import Derived.Test.YtognbeejobfpfaaGoW
import Derived.Test.YtognbeejobfpfaaGoA
import Derived.Test.YtognbeejobfpfaaMV
import Derived.Test.YtognbeejobfpfaaWalkN
import Derived.Test.YtognbeejobfpfaaWalkK
namespace Go.Proofs.Ytognbeejobfpfaa
open Go.RowKit Go.Sort
set_option linter.unusedVariables false
set_option linter.unusedSimpArgs false

def fneg (a : Int) : Int := satSub 0 a
theorem fneg_I (a : Int) : InI (fneg a) := satSub_I _ _
def vof (p : T3) : T3 := (fof p.1, fof p.2.1, fof p.2.2)
theorem vof_I (p : T3) : InV (vof p) := ⟨fof_I _, fof_I _, fof_I _⟩
def vscale (v : T3) (k : Int) : T3 := vmul v (k, k, k)
theorem vscale_I (v : T3) (k : Int) : InV (vscale v k) := vmul_I _ _
theorem vdot_I (a b : T3) : InI (vdot a b) := satAdd_I _ _
theorem fround_I {x : Int} (h : InI x) : InI (fround x) := by unfold fround InI at *; omega
theorem vmost_I {a : T3} (h : InV a) : InI (vmost a) := by
  have h1 := fabs_I h.1
  have h2 := fabs_I h.2.1
  have h3 := fabs_I h.2.2
  unfold vmost InI at *
  omega
theorem fclamp_I {x lo hi : Int} (h1 : InI x) (h2 : InI lo) (h3 : InI hi) : InI (fclamp x lo hi) := by unfold fclamp InI at *; omega
def wof (n : Int) : Int := n
theorem wof_W {n : Int} (h : InI n) : InW (wof n) := by unfold wof InW InI at *; omega
theorem mdN_I (a b c : Int) : InI (mdN a b c) := by
  unfold mdN
  split
  · unfold InI; omega
  · exact clampI_I _

theorem c_fix_Abs (a : Int) (ha : InI a) (w : World) : Calls Try.prog 107 #[.int .i64 a] w (Ret (.int .i64 (fabs a)) w) := (fAbs a ha w).mono fun _ _ h => h.ret

theorem c_fix_Neg (a : Int) (ha : InI a) (w : World) : Calls Try.prog 110 #[.int .i64 a] w (Ret (.int .i64 (fneg a)) w) := (fNeg a ha w).mono fun _ _ h => h.ret

theorem c_fix_Sub (a : Int) (b : Int) (ha : InI a) (hb : InI b) (w : World) : Calls Try.prog 68 #[.int .i64 a, .int .i64 b] w (Ret (.int .i64 (satSub a b)) w) := (fSub a b ha hb w).mono fun _ _ h => h.ret

theorem c_fix_Of (a : Int) (ha : InI a) (w : World) : Calls Try.prog 18 #[.int .i64 a] w (Ret (.int .i64 (fof a)) w) := fOf a ha w

theorem c_fix_Div (a : Int) (b : Int) (ha : InI a) (hb : InI b) (w : World) : Calls Try.prog 17 #[.int .i64 a, .int .i64 b] w (Ret (.int .i64 (fdiv a b)) w) := fDiv a b ha hb w

theorem c_fix_Round (a : Int) (ha : InI a) (w : World) : Calls Try.prog 100 #[.int .i64 a] w (Ret (.int .i64 (fround a)) w) := (fRound a ha w).mono fun _ _ h => h.ret

theorem c_vec_Of (a : Int × Int × Int) (ha : InV a) (w : World) : Calls Try.prog 33 #[.agg #[.int .i64 a.1, .int .i64 a.2.1, .int .i64 a.2.2]] w (Ret (.agg #[.int .i64 ((vof a).1), .int .i64 ((vof a).2.1), .int .i64 ((vof a).2.2)]) w) := vOf a.1 a.2.1 a.2.2 ha.1 ha.2.1 ha.2.2 w

theorem c_vec_Sub (a : Int × Int × Int) (b : Int × Int × Int) (ha : InV a) (hb : InV b) (w : World) : Calls Try.prog 72 #[.agg #[.int .i64 a.1, .int .i64 a.2.1, .int .i64 a.2.2], .agg #[.int .i64 b.1, .int .i64 b.2.1, .int .i64 b.2.2]] w (Ret (.agg #[.int .i64 ((vsub a b).1), .int .i64 ((vsub a b).2.1), .int .i64 ((vsub a b).2.2)]) w) := vSub a b ha hb w

theorem c_vec_Scale (a : Int × Int × Int) (b : Int) (ha : InV a) (hb : InI b) (w : World) : Calls Try.prog 70 #[.agg #[.int .i64 a.1, .int .i64 a.2.1, .int .i64 a.2.2], .int .i64 b] w (Ret (.agg #[.int .i64 ((vscale a b).1), .int .i64 ((vscale a b).2.1), .int .i64 ((vscale a b).2.2)]) w) := vScale a b ha hb w

theorem c_vec_Most (a : Int × Int × Int) (ha : InV a) (w : World) : Calls Try.prog 101 #[.agg #[.int .i64 a.1, .int .i64 a.2.1, .int .i64 a.2.2]] w (Ret (.int .i64 (vmost a)) w) := vMost a ha w

theorem c_umbraref02_Of (a : Int) (ha : InI a) (w : World) : Calls Try.prog 48 #[.int .i64 a] w (Ret (.int .i64 (fof a)) w) := (rOf a ha w).mono fun _ _ h => h.ret

theorem c_umbraref02_Div (a : Int) (b : Int) (ha : InI a) (hb : InI b) (w : World) : Calls Try.prog 49 #[.int .i64 a, .int .i64 b] w (Ret (.int .i64 (fdiv a b)) w) := rDiv a b ha hb w

theorem c_umbraref02_Times (a : Int) (b : Int) (ha : InI a) (hb : InI b) (w : World) : Calls Try.prog 96 #[.int .i64 a, .int .i64 b] w (Ret (.int .i64 (fmul a b)) w) := (rTimes a b ha hb w).mono fun _ _ h => h.ret

theorem c_umbraref02_Size (a : Int) (ha : InI a) (w : World) : Calls Try.prog 83 #[.int .i64 a] w (Ret (.int .u64 (absU a)) w) := (rSize a ha w).mono fun _ _ h => h.ret

theorem c_umbraref03_Both (a : Int × Int × Int) (b : Int × Int × Int) (ha : InV a) (hb : InV b) (w : World) : Calls Try.prog 62 #[.agg #[.int .i64 a.1, .int .i64 a.2.1, .int .i64 a.2.2], .agg #[.int .i64 b.1, .int .i64 b.2.1, .int .i64 b.2.2]] w (Ret (.agg #[.int .i64 ((vmul a b).1), .int .i64 ((vmul a b).2.1), .int .i64 ((vmul a b).2.2)]) w) := r3Both a.1 a.2.1 a.2.2 b.1 b.2.1 b.2.2 ha.1 ha.2.1 ha.2.2 hb.1 hb.2.1 hb.2.2 w

theorem c_wide_Of (a : Int) (ha : InI a) (w : World) : Calls Try.prog 109 #[.int .i64 a] w (Ret (.agg #[.int .i64 (wHi (wof a)), .int .u64 (wLo (wof a))]) w) := wOf a ha w

theorem c_wide_MulDiv (a : Int) (b : Int) (c : Int) (ha : InI a) (hb : InI b) (hc : InI c) (w : World) : Calls Try.prog 103 #[.int .i64 a, .int .i64 b, .int .i64 c] w (Ret (.int .i64 (mdN a b c)) w) := wMulDiv a b c ha hb hc w

theorem cmpW_I (x y : Int) : InI (cmpW x y) := by unfold cmpW InI; split <;> (try split) <;> omega

def wint (x : Int) : Int × Bool := (intN x, fits x)
theorem wint_I {x : Int} (h : InW x) : InI (wint x).1 ∧ True := by
  refine ⟨?_, trivial⟩
  unfold wint intN fits InI
  simp only
  split
  · rename_i h; exact of_decide_eq_true h
  · omega

theorem c_wide_Int (a : Int) (ha : InW a) (w : World) : Calls Try.prog 53 #[.agg #[.int .i64 (wHi a), .int .u64 (wLo a)]] w (Ret (.tuple #[.int .i64 ((wint a).1), .bool ((wint a).2)]) w) := wInt a ha w

def wneg2 (x : Int) : Int × Bool := (negN x, negOk x)
theorem wneg2_W {x : Int} (h : InW x) : InW (wneg2 x).1 ∧ True := ⟨negN_in h, trivial⟩

def wdivT (a d : Int) : Int × Int × Bool := (divQ a d, divR a d, divOk a d)
theorem divR_in (a : Int) {d : Int} (hd : InI d) : InI (divR a d) := by
  unfold divR
  by_cases h : divOk a d
  · rw [if_pos h]
    have h0 : d ≠ 0 := by unfold divOk at h; simp only [Bool.and_eq_true, decide_eq_true_eq] at h; exact h.1
    unfold fr InI at *
    split
    · rename_i hp
      have h1 := Int.emod_nonneg a h0
      have h2 := Int.emod_lt_of_pos a hp
      omega
    · have h1 := Int.emod_nonneg (-a) (show -d ≠ 0 by omega)
      have h2 := Int.emod_lt_of_pos (-a) (show 0 < -d by omega)
      omega
  · rw [if_neg h]; unfold InI; omega
theorem wdivT_W {a d : Int} (h : InW a) (hd : InI d) : InW (wdivT a d).1 ∧ InI (wdivT a d).2.1 ∧ True := ⟨divQ_in a d, divR_in a hd, trivial⟩

theorem c_wide_Div (a : Int) (b : Int) (ha : InW a) (hb : InI b) (w : World) : Calls Try.prog 41 #[.agg #[.int .i64 (wHi a), .int .u64 (wLo a)], .int .i64 b] w (Ret (.tuple #[.agg #[.int .i64 (wHi ((wdivT a b).1)), .int .u64 (wLo ((wdivT a b).1))], .int .i64 ((wdivT a b).2.1), .bool ((wdivT a b).2.2)]) w) := wDiv a b ha hb w

theorem shrN_W {x n : Int} (h : InW x) (hn : InI n) : InW (shrN x n) := by
  unfold shrN
  have hp : (0 : Int) < 2 ^ n.toNat := Int.pow_pos (by omega)
  have h1 : x / 2 ^ n.toNat ≤ max x 0 := by
    rcases Int.le_total 0 x with g | g
    · have := Int.ediv_le_self (2 ^ n.toNat) g; omega
    · have h2 : x / 2 ^ n.toNat ≤ 0 := by
        rw [← Int.not_lt]
        intro h3
        have h4 := Int.ediv_mul_le x (show (2 : Int) ^ n.toNat ≠ 0 by omega)
        have h5 : 0 < x / 2 ^ n.toNat * 2 ^ n.toNat := Int.mul_pos h3 hp
        omega
      omega
  have h2 : min x 0 ≤ x / 2 ^ n.toNat := by
    rcases Int.le_total 0 x with g | g
    · have := Int.ediv_nonneg g (Int.le_of_lt hp); omega
    · have h3 : x ≤ x / 2 ^ n.toNat := by
        rw [Int.le_ediv_iff_mul_le hp]
        have : x * 2 ^ n.toNat ≤ x * 1 := Int.mul_le_mul_of_nonpos_left g (by omega)
        omega
      omega
  unfold InW at *
  omega

theorem c_wide_Shr (a : Int) (b : Int) (ha : InW a) (hb : InI b) (w : World) : Calls Try.prog 106 #[.agg #[.int .i64 (wHi a), .int .u64 (wLo a)], .int .i64 b] w (Ret (.agg #[.int .i64 (wHi (shrN a b)), .int .u64 (wLo (shrN a b))]) w) := wShr a b ha hb w

theorem cellsI_of : ∀ (l : List Int) {c : Array Value}, (∃ rest, c.toList = l.map (Value.int .i64) ++ rest) → ∀ i (h : i < l.length), c[i]? = some (.int .i64 l[i])
  | l, c, ⟨rest, e⟩, i, h => by
    rw [← Array.getElem?_toList, e, List.getElem?_append_left (by simpa using h)]
    simp [h]
/-- Numbers in a block of the walk's. -/
def AllI : List Int → Prop
  | [] => True
  | x :: l => InI x ∧ AllI l
theorem AllI.mem : ∀ {l : List Int}, AllI l → ∀ x ∈ l, InI x
  | _ :: _, h, x, hx => (List.mem_cons.1 hx).elim (fun e => e ▸ h.1) (fun hx => AllI.mem h.2 x hx)
theorem rdI_of {w0 : Base} {w : World} {L : List Blk} (hM : St w0 L w) (l : List Int) (hl : l ≠ []) (i n : Nat) {g : Nat} {cs : Array Value} {T : TypeId} {fr : Nat × Nat} {own : Bool} (hi : L[i]? = some ⟨g, cs, T, fr, own⟩) (hn : n = l.length) (hcs : cs.toList = l.map (Value.int .i64)) :
    RdI w (some ⟨g, 0, none⟩) n l := by
  refine ⟨hn, .inr ⟨g, 0, rfl, fun k hk => ?_⟩⟩
  rw [Nat.zero_add, (hM.at i hi).cell']
  exact cellsI_of l ⟨[], by simpa using hcs⟩ k hk
def AllV : List T3 → Prop
  | [] => True
  | x :: l => InV x ∧ AllV l
theorem AllV.mem : ∀ {l : List T3}, AllV l → ∀ x ∈ l, InV x
  | _ :: _, h, x, hx => (List.mem_cons.1 hx).elim (fun e => e ▸ h.1) (fun hx => AllV.mem h.2 x hx)
def cellsT : List T3 → List Value
  | [] => []
  | x :: l => .int .i64 x.1 :: .int .i64 x.2.1 :: .int .i64 x.2.2 :: cellsT l
theorem cellsT_at : ∀ (l : List T3) (i : Nat) (h : i < l.length), (cellsT l)[i * 3]? = some (.int .i64 l[i].1) ∧ (cellsT l)[i * 3 + 1]? = some (.int .i64 l[i].2.1) ∧ (cellsT l)[i * 3 + 2]? = some (.int .i64 l[i].2.2)
  | x :: l, 0, _ => ⟨rfl, rfl, rfl⟩
  | x :: l, i + 1, h => by
    have ih := cellsT_at l i (by simpa using h)
    rw [show (i + 1) * 3 = i * 3 + 1 + 1 + 1 by omega]
    exact ih
theorem rdV_of {w0 : Base} {w : World} {L : List Blk} (hM : St w0 L w) (l : List T3) (i n : Nat) {g : Nat} {cs : Array Value} {T : TypeId} {fr : Nat × Nat} {own : Bool} (hi : L[i]? = some ⟨g, cs, T, fr, own⟩) (hn : n = l.length) (hcs : cs.toList = cellsT l) :
    RdV w (some ⟨g, 0, none⟩) n l := by
  refine ⟨hn, .inr ⟨g, 0, rfl, fun k hk => ?_⟩⟩
  have h := cellsT_at l k hk
  rw [← hcs] at h
  rw [Nat.zero_add, (hM.at i hi).cell', (hM.at i hi).cell', (hM.at i hi).cell']
  simpa using h

theorem c_fixAdd (l : List Int) (hl : AllI l) (hne : (l.isEmpty, Nat.ble l.length 1000000) = (false, true)) {w0 : Base} {w : World} {L : List Blk} (hM : St w0 L w) (i n cap : Nat) {g : Nat} {cs : Array Value} {T : TypeId} {fr : Nat × Nat} {own : Bool} (hi : L[i]? = some ⟨g, cs, T, fr, own⟩) (hn : n = l.length) (hcs : cs.toList = l.map (Value.int .i64)) :
    Calls Try.prog 66 #[.slice (some ⟨g, 0, none⟩) n cap] w (Ret (.int .i64 (sumF l)) w) := by
  simp only [Prod.mk.injEq, Nat.ble_eq] at hne
  exact (fAdd _ n cap l w (rdI_of hM l (by simpa using hne.1) i n hi hn hcs) hne.2 hl.mem).mono fun _ _ h => h.ret

theorem c_fixMul (l : List Int) (hl : AllI l) (hne : (l.isEmpty, Nat.ble l.length 1000000) = (false, true)) {w0 : Base} {w : World} {L : List Blk} (hM : St w0 L w) (i n cap : Nat) {g : Nat} {cs : Array Value} {T : TypeId} {fr : Nat × Nat} {own : Bool} (hi : L[i]? = some ⟨g, cs, T, fr, own⟩) (hn : n = l.length) (hcs : cs.toList = l.map (Value.int .i64)) :
    Calls Try.prog 95 #[.slice (some ⟨g, 0, none⟩) n cap] w (Ret (.int .i64 (mulF l)) w) := by
  simp only [Prod.mk.injEq, Nat.ble_eq] at hne
  exact fMul _ n cap l w (rdI_of hM l (by simpa using hne.1) i n hi hn hcs) hne.2 hl.mem

theorem c_vecAdd (l : List T3) (hl : AllV l) (hne : Nat.ble l.length 1000000 = true) {w0 : Base} {w : World} {L : List Blk} (hM : St w0 L w) (i n cap : Nat) {g : Nat} {cs : Array Value} {T : TypeId} {fr : Nat × Nat} {own : Bool} (hi : L[i]? = some ⟨g, cs, T, fr, own⟩) (hn : n = l.length) (hcs : cs.toList = cellsT l) :
    Calls Try.prog 69 #[.slice (some ⟨g, 0, none⟩) n cap] w (Ret (.agg #[.int .i64 (sumT l).1, .int .i64 (sumT l).2.1, .int .i64 (sumT l).2.2]) w) :=
  vAdd _ n cap l w (rdV_of hM l i n hi hn hcs) (by rwa [Nat.ble_eq] at hne) hl.mem

theorem c_vecTimes (l : List T3) (hl : AllV l) (hne : Nat.ble l.length 1000000 = true) {w0 : Base} {w : World} {L : List Blk} (hM : St w0 L w) (i n cap : Nat) {g : Nat} {cs : Array Value} {T : TypeId} {fr : Nat × Nat} {own : Bool} (hi : L[i]? = some ⟨g, cs, T, fr, own⟩) (hn : n = l.length) (hcs : cs.toList = cellsT l) :
    Calls Try.prog 61 #[.slice (some ⟨g, 0, none⟩) n cap] w (Ret (.agg #[.int .i64 (mulT l).1, .int .i64 (mulT l).2.1, .int .i64 (mulT l).2.2]) w) :=
  vTimes _ n cap l w (rdV_of hM l i n hi hn hcs) (by rwa [Nat.ble_eq] at hne) hl.mem

end Go.Proofs.Ytognbeejobfpfaa
