/- Numbers in digits, in plain Lean: what trim, size, Sum, Times, Power, half and From compute. Numbers in digits, in plain Lean: the sum. Numbers in digits, in plain Lean: From, Power, half, Times. The document's numbers by their values: what a call computes, as a whole number. -/
import Derived.Test.YtognbeejobfpfaaN2
import Derived.Laws.BitsLemmas
namespace Go.Proofs.Ytognbeejobfpfaa
open Go.RowKit Go.Sort
set_option linter.unusedVariables false
set_option linter.unusedSimpArgs false

/-- The value of digits, the lowest first. -/
def dval : List Int → Int
  | [] => 0
  | d :: l => d + 65536 * dval l
/-- .. of the first k. -/
def pv (l : List Int) : Nat → Int
  | 0 => 0
  | k + 1 => pv l k + gd 0 l (k : Int) * 65536 ^ k
def nval (b : Bool) (l : List Int) : Int := if b = true then -dval l else dval l
def digsF : Nat → Nat → List Int
  | 0, _ => []
  | f + 1, n => if n = 0 then [] else ((n % 65536 : Nat) : Int) :: digsF f (n / 65536)
/-- The digits of a number. -/
def digs (x : Int) : List Int := digsF x.natAbs x.natAbs
/-- A number as the document has it. -/
def nm (x : Int) : Bool × List Int := (decide (x < 0), digs x)

theorem gd_zero (d : Int) (l : List Int) : gd 0 (d :: l) 0 = d := rfl
theorem gd_succ (d : Int) (l : List Int) (k : Nat) : gd 0 (d :: l) ((k : Int) + 1) = gd 0 l (k : Int) := by
  unfold gd
  rw [show Int.toNat ((k : Int) + 1) = k + 1 by omega, Int.toNat_natCast]
  rfl
theorem gd_far (l : List Int) {k : Int} (h : (List.length l : Int) ≤ k) : gd 0 l k = 0 := by
  unfold gd
  rw [List.getD_eq_getElem?_getD, List.getElem?_eq_none (by omega)]
  rfl
theorem Dg_cons {d : Int} {l : List Int} (h : Dg (d :: l)) : (0 ≤ d ∧ d ≤ 65535) ∧ Dg l := by
  refine ⟨h 0, fun j => ?_⟩
  by_cases hj : 0 ≤ j
  · have := h ((j.toNat : Int) + 1)
    rw [gd_succ] at this
    rw [show (j.toNat : Int) = j by omega] at this
    exact this
  · have := h (((0 : Nat) : Int) + 1)
    rw [gd_succ] at this
    rw [gd_neg l (by omega)]
    exact this
theorem Dg_mk {d : Int} {l : List Int} (hd : 0 ≤ d ∧ d ≤ 65535) (h : Dg l) : Dg (d :: l) := fun j => by
  by_cases hj : 0 < j
  · have := h (j - 1)
    have e := gd_succ d l (j - 1).toNat
    rw [show (((j - 1).toNat : Nat) : Int) = j - 1 by omega, show j - 1 + 1 = j by omega] at e
    rw [e]
    exact this
  · have e : gd 0 (d :: l) j = d := by
      unfold gd
      rw [show j.toNat = 0 by omega]
      rfl
    rw [e]; exact hd
theorem Dg_nil : Dg [] := fun j => ⟨Int.le_refl _, by show (0 : Int) ≤ 65535; omega⟩
theorem pv_cons (d : Int) (l : List Int) : ∀ k, pv (d :: l) (k + 1) = d + 65536 * pv l k
  | 0 => by simp [pv, gd_zero]
  | k + 1 => by
    rw [pv, pv_cons d l k, pv]
    have e : gd 0 (d :: l) ((k + 1 : Nat) : Int) = gd 0 l (k : Int) := gd_succ d l k
    rw [e, Int.pow_succ]
    grind
theorem pv_len : ∀ l : List Int, pv l l.length = dval l
  | [] => rfl
  | d :: l => by rw [List.length_cons, pv_cons, pv_len l, dval]
theorem pv_far (l : List Int) : ∀ k, l.length ≤ k → pv l k = dval l
  | 0, h => by have : l = [] := List.length_eq_zero_iff.1 (by omega); subst this; rfl
  | k + 1, h => by
    by_cases hk : l.length = k + 1
    · rw [← hk, pv_len]
    · rw [pv, pv_far l k (by omega), gd_far l (by omega), Int.zero_mul, Int.add_zero]
theorem bpow (k : Nat) : (0 : Int) < 65536 ^ k := Int.pow_pos (by omega)
theorem pv_bd {l : List Int} (h : Dg l) : ∀ k, 0 ≤ pv l k ∧ pv l k < 65536 ^ k
  | 0 => by simp [pv]
  | k + 1 => by
    have ih := pv_bd h k
    have hd := h (k : Int)
    have hp := bpow k
    rw [pv, Int.pow_succ]
    generalize gd 0 l (k : Int) = d at *
    generalize (65536 : Int) ^ k = B at *
    have h1 := Int.mul_le_mul_of_nonneg_right (show d ≤ 65535 by omega) (Int.le_of_lt hp)
    have h2 := Int.mul_nonneg hd.1 (Int.le_of_lt hp)
    omega
theorem dval_bd {l : List Int} (h : Dg l) : 0 ≤ dval l ∧ dval l < 65536 ^ l.length := by rw [← pv_len]; exact pv_bd h _
theorem pv_congr {l l' : List Int} : ∀ k, (∀ j : Nat, j < k → gd 0 l (j : Int) = gd 0 l' (j : Int)) → pv l k = pv l' k
  | 0, _ => rfl
  | k + 1, h => by rw [pv, pv, pv_congr k (fun j hj => h j (by omega)), h k (by omega)]
/-- No digit 0 on top. -/
def Trim (l : List Int) : Prop := l = [] ∨ gd 0 l ((List.length l : Int) - 1) ≠ 0
theorem Trim_cons {d : Int} {l : List Int} (h : Trim (d :: l)) : Trim l := by
  by_cases h0 : l = []
  · exact .inl h0
  · rcases h with h | h
    · cases h
    · right
      have hp := List.length_pos_iff.2 h0
      have e := gd_succ d l (l.length - 1)
      rw [show (((l.length - 1 : Nat) : Int) + 1) = (List.length (d :: l) : Int) - 1 by rw [List.length_cons]; omega] at e
      rw [e, show ((l.length - 1 : Nat) : Int) = (List.length l : Int) - 1 by omega] at h
      exact h
theorem trim_pos : ∀ {l : List Int}, Dg l → Trim l → l ≠ [] → 0 < dval l
  | [], _, _, h => absurd rfl h
  | d :: l, hd, ht, _ => by
    obtain ⟨h1, h2⟩ := Dg_cons hd
    by_cases h0 : l = []
    · subst h0
      rcases ht with ht | ht
      · cases ht
      · have : d ≠ 0 := ht
        show 0 < d + 65536 * 0
        omega
    · have := trim_pos h2 (Trim_cons ht) h0
      rw [dval]; omega
theorem digsF_of : ∀ (l : List Int) (f : Nat), Dg l → Trim l → (dval l).toNat ≤ f → l = digsF f (dval l).toNat
  | [], 0, _, _, _ => rfl
  | [], f + 1, _, _, _ => rfl
  | d :: l, f, hd, ht, hf => by
    have hp := trim_pos hd ht (by simp)
    obtain ⟨h1, h2⟩ := Dg_cons hd
    have hb := (dval_bd h2).1
    rw [dval] at hf hp
    cases f with
    | zero => omega
    | succ f =>
      rw [dval, digsF, if_neg (by omega)]
      have e1 : (((d + 65536 * dval l).toNat % 65536 : Nat) : Int) = d := by omega
      have e2 : (d + 65536 * dval l).toNat / 65536 = (dval l).toNat := by omega
      rw [e1, e2, ← digsF_of l f h2 (Trim_cons ht) (by omega)]
theorem digsF_ok : ∀ (f n : Nat), n ≤ f → Dg (digsF f n) ∧ dval (digsF f n) = n ∧ (digsF f n = [] ↔ n = 0) ∧ Trim (digsF f n)
  | 0, n, h => by
    obtain rfl : n = 0 := by omega
    exact ⟨Dg_nil, rfl, by simp [digsF], .inl rfl⟩
  | f + 1, n, h => by
    rw [digsF]
    by_cases h0 : n = 0
    · rw [if_pos h0]
      exact ⟨Dg_nil, by simp [dval, h0], by simp [h0], .inl rfl⟩
    · rw [if_neg h0]
      obtain ⟨a1, a2, a3, a4⟩ := digsF_ok f (n / 65536) (by omega)
      refine ⟨Dg_mk (by omega) a1, by rw [dval, a2]; omega, by simp [h0], .inr ?_⟩
      by_cases hz : digsF f (n / 65536) = []
      · rw [hz]
        have := a3.1 hz
        show ((n % 65536 : Nat) : Int) ≠ 0
        omega
      · rcases a4 with a4 | a4
        · exact absurd a4 hz
        · have hp := List.length_pos_iff.2 hz
          have e := gd_succ ((n % 65536 : Nat) : Int) (digsF f (n / 65536)) ((digsF f (n / 65536)).length - 1)
          rw [show ((((digsF f (n / 65536)).length - 1 : Nat) : Int) + 1) = (List.length (((n % 65536 : Nat) : Int) :: digsF f (n / 65536)) : Int) - 1 by rw [List.length_cons]; omega] at e
          rw [e, show (((digsF f (n / 65536)).length - 1 : Nat) : Int) = (List.length (digsF f (n / 65536)) : Int) - 1 by omega]
          exact a4
theorem digs_Dg (x : Int) : Dg (digs x) := (digsF_ok _ _ (Nat.le_refl _)).1
theorem digs_val (x : Int) : dval (digs x) = (x.natAbs : Int) := (digsF_ok _ _ (Nat.le_refl _)).2.1
theorem digs_nil (x : Int) : digs x = [] ↔ x = 0 := by unfold digs; rw [(digsF_ok _ _ (Nat.le_refl _)).2.2.1]; omega
theorem digs_Trim (x : Int) : Trim (digs x) := (digsF_ok _ _ (Nat.le_refl _)).2.2.2
theorem digs_of {l : List Int} (hd : Dg l) (ht : Trim l) : l = digs (dval l) := by
  have hb := (dval_bd hd).1
  unfold digs
  rw [show (dval l).natAbs = (dval l).toNat by omega]
  exact digsF_of l _ hd ht (Nat.le_refl _)
theorem nval_nm (x : Int) : nval (nm x).1 (nm x).2 = x := by
  unfold nval nm
  simp only [decide_eq_true_eq, digs_val]
  split <;> omega
theorem digs_abs {x y : Int} (h : x.natAbs = y.natAbs) : digs x = digs y := by unfold digs; rw [h]

/- trim -/
theorem trim_loop (b : Bool) (l : List Int) (hl : l.length ≤ 100000) : ∀ (f : Nat) (k : Int), 0 ≤ k → k ≤ (List.length l : Int) → k < f →
    ∃ m, L2_umbraref01_trim b l f k = m ∧ 0 ≤ m ∧ m ≤ k ∧ (m = 0 ∨ gd 0 l (m - 1) ≠ 0) ∧ ∀ j, m ≤ j → j < k → gd 0 l j = 0
  | 0, k, h0, h1, h2 => by omega
  | f + 1, k, h0, h1, h2 => by
    rw [L2_umbraref01_trim]
    simp only [lt, wrI]
    by_cases hk : k > 0
    · rw [if_pos hk, w64' (by omega)]
      by_cases hg : gd 0 l (k - 1) = 0
      · rw [if_pos hg]
        obtain ⟨m, e, a1, a2, a3, a4⟩ := trim_loop b l hl f (k - 1) (by omega) (by omega) (by omega)
        refine ⟨m, e, a1, by omega, a3, fun j j1 j2 => ?_⟩
        by_cases hj : j = k - 1
        · rw [hj]; exact hg
        · exact a4 j j1 (by omega)
      · rw [if_neg hg]
        exact ⟨k, rfl, h0, by omega, .inr hg, fun j j1 j2 => by omega⟩
    · rw [if_neg hk]
      exact ⟨k, rfl, h0, by omega, .inl (by omega), fun j j1 j2 => by omega⟩
theorem gd_take (l : List Int) (m : Nat) (j : Nat) (hj : j < m) : gd 0 (l.take m) (j : Int) = gd 0 l (j : Int) := by
  unfold gd
  rw [List.getD_eq_getElem?_getD, List.getD_eq_getElem?_getD, Int.toNat_natCast, List.getElem?_take_of_lt hj]
theorem Dg_take {l : List Int} (h : Dg l) (m : Nat) : Dg (l.take m) := fun j => by
  by_cases hj : j.toNat < m
  · have e := gd_take l m j.toNat hj
    have e1 : gd 0 (l.take m) j = gd 0 (l.take m) ((j.toNat : Nat) : Int) := by unfold gd; rw [Int.toNat_natCast]
    rw [e1, e]
    exact h _
  · have e1 : gd 0 (l.take m) j = 0 := by
      unfold gd
      rw [List.getD_eq_getElem?_getD, List.getElem?_take_eq_none (by omega)]
      rfl
    rw [e1]; omega
theorem trim_law (b : Bool) {l : List Int} (hd : Dg l) (hl : l.length ≤ 100000) : s_umbraref01_trim b l = ((if dval l = 0 then false else b), digs (dval l)) := by
  unfold s_umbraref01_trim
  simp only [lt]
  obtain ⟨m, e, a1, a2, a3, a4⟩ := trim_loop b l hl (Int.toNat ((List.length l : Int)) + 1) (List.length l : Int) (by omega) (by omega) (by omega)
  rw [e]
  have hlen : (l.take m.toNat).length = m.toNat := by rw [List.length_take]; omega
  have hv : dval (l.take m.toNat) = dval l := by
    rw [← pv_len l, ← pv_far (l.take m.toNat) l.length (by rw [hlen]; omega)]
    refine pv_congr _ (fun j hj => ?_)
    by_cases hjm : j < m.toNat
    · exact gd_take l _ j hjm
    · rw [gd_far _ (by rw [hlen]; omega), a4 (j : Int) (by omega) (by omega)]
  have ht : Trim (l.take m.toNat) := by
    rcases a3 with a3 | a3
    · left; rw [a3]; rfl
    · by_cases h0 : m.toNat = 0
      · left; rw [h0]; rfl
      · right
        rw [hlen]
        have := gd_take l m.toNat (m.toNat - 1) (by omega)
        rw [show ((m.toNat - 1 : Nat) : Int) = (m.toNat : Int) - 1 by omega] at this
        rw [this, show (m.toNat : Int) - 1 = m - 1 by omega]
        exact a3
  have hdd := digs_of (Dg_take hd m.toNat) ht
  rw [hv] at hdd
  by_cases hm : m = 0
  · have h0 : dval l = 0 := by rw [← hv, hm]; rfl
    rw [if_pos hm, if_pos h0, ← hdd]
  · have h0 : ¬ dval l = 0 := by
      have := trim_pos (Dg_take hd m.toNat) ht (fun h => by have := congrArg List.length h; rw [hlen] at this; simp at this; omega)
      rw [hv] at this
      omega
    rw [if_neg hm, if_neg h0, ← hdd]

/- size -/
def sg (x : Int) : Int := if x < 0 then -1 else if x > 0 then 1 else 0
theorem dig_gd (b : Bool) (l : List Int) (k : Int) : s_umbraref01_digit b l k = gd 0 l k := by
  unfold s_umbraref01_digit
  split
  · rfl
  · exact (gd_far l (by omega)).symm
theorem size_loop (bP : Bool) {lP : List Int} (bQ : Bool) {lQ : List Int} (hP : Dg lP) (hQ : Dg lQ) : ∀ (f : Nat) (k : Int), -1 ≤ k → k ≤ 100000 → k + 1 < f →
    L2_umbraref01_size bP lP bQ lQ f k = sg (pv lP (k + 1).toNat - pv lQ (k + 1).toNat)
  | 0, k, h0, h1, h2 => by omega
  | f + 1, k, h0, h1, h2 => by
    rw [L2_umbraref01_size]
    simp only [lt, wrI, dig_gd]
    by_cases hk : k ≥ 0
    · rw [if_pos hk, w64' (by omega)]
      have e : (k + 1).toNat = k.toNat + 1 := by omega
      have ek : ((k.toNat : Nat) : Int) = k := by omega
      have b1 := pv_bd hP k.toNat
      have b2 := pv_bd hQ k.toNat
      have hp := bpow k.toNat
      rw [e, pv, pv, ek]
      have d1 := hP k
      have d2 := hQ k
      by_cases c1 : gd 0 lP k < gd 0 lQ k
      · rw [if_pos c1]
        have := Int.mul_le_mul_of_nonneg_right (show gd 0 lP k + 1 ≤ gd 0 lQ k by omega) (Int.le_of_lt hp)
        rw [Int.add_mul, Int.one_mul] at this
        unfold sg
        rw [if_pos (by omega)]
      · rw [if_neg c1]
        by_cases c2 : gd 0 lP k > gd 0 lQ k
        · rw [if_pos c2]
          have := Int.mul_le_mul_of_nonneg_right (show gd 0 lQ k + 1 ≤ gd 0 lP k by omega) (Int.le_of_lt hp)
          rw [Int.add_mul, Int.one_mul] at this
          unfold sg
          rw [if_neg (by omega), if_pos (by omega)]
        · rw [if_neg c2, size_loop bP bQ hP hQ f (k - 1) (by omega) (by omega) (by omega), show (k - 1 + 1).toNat = k.toNat by omega, show gd 0 lP k = gd 0 lQ k by omega]
          congr 1
          omega
    · rw [if_neg hk, show (k + 1).toNat = 0 by omega]
      rfl
theorem size_law (bP : Bool) {lP : List Int} (bQ : Bool) {lQ : List Int} (hP : Dg lP) (hQ : Dg lQ) (h1 : lP.length ≤ 1000) (h2 : lQ.length ≤ 1000) : s_umbraref01_size bP lP bQ lQ = sg (dval lP - dval lQ) := by
  unfold s_umbraref01_size
  simp only [lt, wrI, gmax_eq]
  rw [w64' (by omega), size_loop bP bQ hP hQ _ _ (by omega) (by omega) (by omega), pv_far lP _ (by omega), pv_far lQ _ (by omega)]
end Go.Proofs.Ytognbeejobfpfaa

namespace Go.Proofs.Ytognbeejobfpfaa
open Go.RowKit Go.Sort
set_option linter.unusedVariables false
set_option linter.unusedSimpArgs false

theorem gd_app (o : List Int) (v : Int) (j : Nat) : gd 0 (o ++ [v]) (j : Int) = if j = o.length then v else gd 0 o (j : Int) := by
  unfold gd
  rw [List.getD_eq_getElem?_getD, List.getD_eq_getElem?_getD, Int.toNat_natCast]
  by_cases h : j = o.length
  · rw [if_pos h, h, List.getElem?_append_right (by omega)]
    simp
  · rw [if_neg h]
    by_cases h2 : j < o.length
    · rw [List.getElem?_append_left h2]
    · rw [List.getElem?_eq_none (by rw [List.length_append]; simp; omega), List.getElem?_eq_none (by omega)]
theorem gd_nat (l : List Int) (j : Int) : gd 0 l j = gd 0 l ((j.toNat : Nat) : Int) := by unfold gd; rw [Int.toNat_natCast]
theorem Dg_app {o : List Int} (h : Dg o) {v : Int} (hv : 0 ≤ v ∧ v ≤ 65535) : Dg (o ++ [v]) := fun j => by
  rw [gd_nat, gd_app]
  split
  · exact hv
  · exact h _
theorem pv_app (o : List Int) (v : Int) : pv (o ++ [v]) (o.length + 1) = pv o o.length + v * 65536 ^ o.length := by
  rw [pv, gd_app, if_pos rfl]
  congr 1
  exact pv_congr _ (fun j hj => by rw [gd_app, if_neg (by omega)])
/-- What the loop of Sum keeps: σ is 1 or -1. -/
structure SumI (σ : Int) (lP lQ : List Int) (k : Nat) (c : Int) (o : List Int) : Prop where
  len : o.length = k
  dg : Dg o
  c1 : -1 ≤ c ∧ c ≤ 1
  val : pv o k + c * 65536 ^ k = pv lP k + σ * pv lQ k
theorem sum_step {σ : Int} {lP lQ : List Int} {k : Nat} {c : Int} {o : List Int} (h : SumI σ lP lQ k c o) {y c' : Int} (hy : y + c' * 65536 = gd 0 lP (k : Int) + σ * gd 0 lQ (k : Int) + c) (h1 : 0 ≤ y ∧ y ≤ 65535) (h2 : -1 ≤ c' ∧ c' ≤ 1) :
    SumI σ lP lQ (k + 1) c' (o ++ [y]) := by
  refine ⟨by rw [List.length_append, h.len]; rfl, Dg_app h.dg h1, h2, ?_⟩
  have hl := h.len
  subst hl
  have hv := h.val
  rw [pv_app, pv, pv, Int.pow_succ]
  generalize gd 0 lP ((o.length : Nat) : Int) = p at *
  generalize gd 0 lQ ((o.length : Nat) : Int) = q at *
  generalize pv o o.length = a at *
  generalize pv lP o.length = u at *
  generalize pv lQ o.length = v at *
  generalize (65536 : Int) ^ o.length = B at *
  grind
theorem s_loop (bP : Bool) {lP : List Int} (bQ : Bool) {lQ : List Int} (hP : Dg lP) (hQ : Dg lQ) (h1 : lP.length ≤ 1000) (h2 : lQ.length ≤ 1000) : ∀ (f k : Nat) (c : Int) (o : List Int), SumI 1 lP lQ k c o → k ≤ 1000 → 1000 - k < f →
    ∃ (K : Nat) (c' : Int) (o' : List Int), L6_umbraref01_Sum_1_s bP lP bQ lQ f (k : Int) c o = ((K : Int), c', o') ∧ SumI 1 lP lQ K c' o' ∧ lP.length ≤ K ∧ lQ.length ≤ K ∧ K ≤ 1000
  | 0, k, c, o, h, hk, hf => by omega
  | f + 1, k, c, o, h, hk, hf => by
    rw [L6_umbraref01_Sum_1_s]
    simp only [lt, wrI, gmax_eq, dig_gd]
    have d1 := hP (k : Int)
    have d2 := hQ (k : Int)
    have hc := h.c1
    by_cases hm : (k : Int) < max (List.length lP : Int) (List.length lQ : Int)
    · rw [if_pos hm, w64' (n := gd 0 lP (k : Int) + gd 0 lQ (k : Int)) (by omega), w64' (n := gd 0 lP (k : Int) + gd 0 lQ (k : Int) + c) (by omega), w64' (n := (k : Int) + 1) (by omega)]
      have ek : (k : Int) + 1 = ((k + 1 : Nat) : Int) := by omega
      rw [ek]
      by_cases c1 : gd 0 lP (k : Int) + gd 0 lQ (k : Int) + c < 0
      · rw [if_pos c1, w64' (n := gd 0 lP (k : Int) + gd 0 lQ (k : Int) + c + 65536) (by omega), if_neg (by omega)]
        exact s_loop bP bQ hP hQ h1 h2 f (k + 1) (-1) _ (sum_step h (by omega) (by omega) (by omega)) (by omega) (by omega)
      · rw [if_neg c1]
        by_cases c2 : gd 0 lP (k : Int) + gd 0 lQ (k : Int) + c > 65535
        · rw [if_pos c2, w64' (n := gd 0 lP (k : Int) + gd 0 lQ (k : Int) + c - 65536) (by omega)]
          exact s_loop bP bQ hP hQ h1 h2 f (k + 1) 1 _ (sum_step h (by omega) (by omega) (by omega)) (by omega) (by omega)
        · rw [if_neg c2]
          exact s_loop bP bQ hP hQ h1 h2 f (k + 1) 0 _ (sum_step h (by omega) (by omega) (by omega)) (by omega) (by omega)
    · rw [if_neg hm]
      exact ⟨k, c, o, rfl, h, by omega, by omega, hk⟩
theorem d_loop (bP : Bool) {lP : List Int} (bQ : Bool) {lQ : List Int} (hP : Dg lP) (hQ : Dg lQ) (h1 : lP.length ≤ 1000) (h2 : lQ.length ≤ 1000) : ∀ (f k : Nat) (c : Int) (o : List Int), SumI (-1) lP lQ k c o → k ≤ 1000 → 1000 - k < f →
    ∃ (K : Nat) (c' : Int) (o' : List Int), L6_umbraref01_Sum_1_d bP lP bQ lQ f (k : Int) c o = ((K : Int), c', o') ∧ SumI (-1) lP lQ K c' o' ∧ lP.length ≤ K ∧ lQ.length ≤ K ∧ K ≤ 1000
  | 0, k, c, o, h, hk, hf => by omega
  | f + 1, k, c, o, h, hk, hf => by
    rw [L6_umbraref01_Sum_1_d]
    simp only [lt, wrI, gmax_eq, dig_gd]
    have d1 := hP (k : Int)
    have d2 := hQ (k : Int)
    have hc := h.c1
    by_cases hm : (k : Int) < max (List.length lP : Int) (List.length lQ : Int)
    · rw [if_pos hm, w64' (n := gd 0 lP (k : Int) - gd 0 lQ (k : Int)) (by omega), w64' (n := gd 0 lP (k : Int) - gd 0 lQ (k : Int) + c) (by omega), w64' (n := (k : Int) + 1) (by omega)]
      have ek : (k : Int) + 1 = ((k + 1 : Nat) : Int) := by omega
      rw [ek]
      by_cases c1 : gd 0 lP (k : Int) - gd 0 lQ (k : Int) + c < 0
      · rw [if_pos c1, w64' (n := gd 0 lP (k : Int) - gd 0 lQ (k : Int) + c + 65536) (by omega), if_neg (by omega)]
        exact d_loop bP bQ hP hQ h1 h2 f (k + 1) (-1) _ (sum_step h (by omega) (by omega) (by omega)) (by omega) (by omega)
      · rw [if_neg c1]
        by_cases c2 : gd 0 lP (k : Int) - gd 0 lQ (k : Int) + c > 65535
        · rw [if_pos c2, w64' (n := gd 0 lP (k : Int) - gd 0 lQ (k : Int) + c - 65536) (by omega)]
          exact d_loop bP bQ hP hQ h1 h2 f (k + 1) 1 _ (sum_step h (by omega) (by omega) (by omega)) (by omega) (by omega)
        · rw [if_neg c2]
          exact d_loop bP bQ hP hQ h1 h2 f (k + 1) 0 _ (sum_step h (by omega) (by omega) (by omega)) (by omega) (by omega)
    · rw [if_neg hm]
      exact ⟨k, c, o, rfl, h, by omega, by omega, hk⟩
def sumfin (b : Bool) (E : Int × Int × List Int) : Bool × List Int := if E.2.1 > 0 then s_umbraref01_trim b (E.2.2 ++ [E.2.1]) else s_umbraref01_trim b E.2.2
theorem sumfin_law {σ : Int} {lP lQ : List Int} {K : Nat} {c : Int} {o : List Int} (h : SumI σ lP lQ K c o) (h1 : lP.length ≤ K) (h2 : lQ.length ≤ K) (hK : K ≤ 1000) (b : Bool) (hT : 0 ≤ dval lP + σ * dval lQ) :
    sumfin b ((K : Int), c, o) = ((if dval lP + σ * dval lQ = 0 then false else b), digs (dval lP + σ * dval lQ)) := by
  have hv := h.val
  rw [pv_far lP K h1, pv_far lQ K h2] at hv
  have hb := pv_bd h.dg K
  have hl := h.len
  have hp := bpow K
  have hc := h.c1
  show (if c > 0 then s_umbraref01_trim b (o ++ [c]) else s_umbraref01_trim b o) = _
  by_cases c1 : c > 0
  · have e : dval (o ++ [c]) = dval lP + σ * dval lQ := by
      rw [← pv_len, List.length_append, List.length_singleton, pv_app, hl]
      exact hv
    rw [if_pos c1, trim_law b (Dg_app h.dg (by omega)) (by rw [List.length_append, hl]; simp; omega), e]
  · have hc0 : c = 0 := by
      rcases (show c = 0 ∨ c = -1 by omega) with h | h
      · exact h
      · rw [h] at hv; omega
    have e : dval o = dval lP + σ * dval lQ := by
      rw [← pv_len, hl, ← hv, hc0]; omega
    rw [if_neg c1, trim_law b h.dg (by omega), e]
theorem SumI_0 (σ : Int) (lP lQ : List Int) : SumI σ lP lQ 0 0 [] := ⟨rfl, Dg_nil, by omega, by simp [pv]⟩
theorem sum1_s (bP : Bool) (lP : List Int) (bQ : Bool) (lQ : List Int) (h : bP = bQ) : s_umbraref01_Sum_1 bP lP bQ lQ = sumfin bP (L6_umbraref01_Sum_1_s bP lP bQ lQ 1001 0 0 []) := by
  rw [L6_umbraref01_Sum_1_s]
  unfold s_umbraref01_Sum_1
  rw [if_pos h]
  have e1 : IntKind.i64.wrap ((0 : Int) + 1) = 1 := by decide +kernel
  have e2 : Int.toNat (1000 - 1) + 1 = 1000 := rfl
  simp only [lt, e1, e2, List.nil_append]
  by_cases c0 : 0 < gmax (List.length lP : Int) (List.length lQ : Int)
  · rw [if_pos c0, if_pos c0]
    generalize IntKind.i64.wrap (IntKind.i64.wrap (s_umbraref01_digit bP lP 0 + s_umbraref01_digit bQ lQ 0) + 0) = x
    by_cases c1 : x < 0
    · rw [if_pos c1, if_pos c1]
      by_cases c2 : IntKind.i64.wrap (x + 65536) > 65535
      · rw [if_pos c2, if_pos c2]; rfl
      · rw [if_neg c2, if_neg c2]; rfl
    · rw [if_neg c1, if_neg c1]
      by_cases c2 : x > 65535
      · rw [if_pos c2, if_pos c2]; rfl
      · rw [if_neg c2, if_neg c2]; rfl
  · rw [if_neg c0, if_neg c0]; rfl
theorem sum1_d (bP : Bool) (lP : List Int) (bQ : Bool) (lQ : List Int) (h : ¬ bP = bQ) (hs : ¬ s_umbraref01_size bP lP bQ lQ < 0) : s_umbraref01_Sum_1 bP lP bQ lQ = sumfin bP (L6_umbraref01_Sum_1_d bP lP bQ lQ 1001 0 0 []) := by
  rw [L6_umbraref01_Sum_1_d]
  unfold s_umbraref01_Sum_1
  rw [if_neg h]
  have e1 : IntKind.i64.wrap ((0 : Int) + 1) = 1 := by decide +kernel
  have e2 : Int.toNat (1000 - 1) + 1 = 1000 := rfl
  simp only [lt, e1, e2, List.nil_append]
  rw [if_neg hs]
  by_cases c0 : 0 < gmax (List.length lP : Int) (List.length lQ : Int)
  · rw [if_pos c0, if_pos c0]
    generalize IntKind.i64.wrap (IntKind.i64.wrap (s_umbraref01_digit bP lP 0 - s_umbraref01_digit bQ lQ 0) + 0) = x
    by_cases c1 : x < 0
    · rw [if_pos c1, if_pos c1]
      by_cases c2 : IntKind.i64.wrap (x + 65536) > 65535
      · rw [if_pos c2, if_pos c2]; rfl
      · rw [if_neg c2, if_neg c2]; rfl
    · rw [if_neg c1, if_neg c1]
      by_cases c2 : x > 65535
      · rw [if_pos c2, if_pos c2]; rfl
      · rw [if_neg c2, if_neg c2]; rfl
  · rw [if_neg c0, if_neg c0]; rfl
theorem nm_of (b : Bool) {T : Int} (hT : 0 ≤ T) {X : Int} (hX : X = if b = true then -T else T) : ((if T = 0 then false else b), digs T) = nm X := by
  unfold nm
  cases b
  · simp only [Bool.false_eq_true, if_false] at hX
    subst hX
    rw [show decide (X < 0) = false by simp; omega]
    simp
  · simp only [if_true] at hX
    rw [show digs T = digs X from digs_abs (by omega)]
    by_cases h : T = 0
    · rw [if_pos h, show decide (X < 0) = false by simp; omega]
    · rw [if_neg h, show decide (X < 0) = true by simp; omega]
theorem Sum_law (bP : Bool) {lP : List Int} (bQ : Bool) {lQ : List Int} (hP : Dg lP) (hQ : Dg lQ) (h1 : lP.length ≤ 1000) (h2 : lQ.length ≤ 1000) : s_umbraref01_Sum bP lP bQ lQ = nm (nval bP lP + nval bQ lQ) := by
  have v1 := (dval_bd hP).1
  have v2 := (dval_bd hQ).1
  have hz := size_law bP bQ hP hQ h1 h2
  unfold s_umbraref01_Sum nval
  by_cases hb : bP = bQ
  · rw [if_neg (fun q => q.1 hb), sum1_s _ _ _ _ hb]
    obtain ⟨K, c, o, e, hI, k1, k2, k3⟩ := s_loop bP bQ hP hQ h1 h2 1001 0 0 [] (SumI_0 _ _ _) (by omega) (by omega)
    rw [show ((0 : Nat) : Int) = 0 by rfl] at e
    rw [e, sumfin_law hI k1 k2 k3 bP (by omega)]
    subst hb
    refine nm_of bP (by omega) ?_
    split <;> omega
  · by_cases hs : s_umbraref01_size bP lP bQ lQ < 0
    · rw [if_pos ⟨hb, hs⟩, sum1_d _ _ _ _ (fun q => hb q.symm) (size_anti hs)]
      obtain ⟨K, c, o, e, hI, k1, k2, k3⟩ := d_loop bQ bP hQ hP h2 h1 1001 0 0 [] (SumI_0 _ _ _) (by omega) (by omega)
      rw [show ((0 : Nat) : Int) = 0 by rfl] at e
      have hT : 0 ≤ dval lQ + -1 * dval lP := by
        rw [hz] at hs
        unfold sg at hs
        split at hs
        · omega
        · split at hs <;> omega
      rw [e, sumfin_law hI k1 k2 k3 bQ hT]
      refine nm_of bQ hT ?_
      cases bP <;> cases bQ <;> simp at hb ⊢ <;> omega
    · rw [if_neg (fun q => hs q.2), sum1_d _ _ _ _ hb hs]
      obtain ⟨K, c, o, e, hI, k1, k2, k3⟩ := d_loop bP bQ hP hQ h1 h2 1001 0 0 [] (SumI_0 _ _ _) (by omega) (by omega)
      rw [show ((0 : Nat) : Int) = 0 by rfl] at e
      have hT : 0 ≤ dval lP + -1 * dval lQ := by
        rw [hz] at hs
        unfold sg at hs
        split at hs
        · omega
        · omega
      rw [e, sumfin_law hI k1 k2 k3 bP hT]
      refine nm_of bP hT ?_
      cases bP <;> cases bQ <;> simp at hb ⊢ <;> omega
end Go.Proofs.Ytognbeejobfpfaa

namespace Go.Proofs.Ytognbeejobfpfaa
open Go.RowKit Go.Sort
set_option linter.unusedVariables false
set_option linter.unusedSimpArgs false

theorem wrapU64 (n : Int) (h₀ : 0 ≤ n) (h₁ : n < 2 ^ 64) : IntKind.u64.wrap n = n := by rw [wrU]; omega
theorem wrapI62 (n : Int) (h₀ : 0 ≤ n) (h₁ : n < 2 ^ 62) : IntKind.i64.wrap n = n := by rw [IntKind.wrap_i64]; omega
theorem u64_low16 {x : Int} (h : 0 ≤ x ∧ x < 18446744073709551616) : bits .and .u64 x 65535 = x % 65536 := bits_mask .u64 64 (by decide) wrapU64 16 (by decide) x h.1 (by omega)
theorem or_comm' {x y : Int} (hx : 0 ≤ x ∧ x < 4611686018427387904) (hy : 0 ≤ y ∧ y < 4611686018427387904) : bits .or .i64 x y = bits .or .i64 y x := by
  obtain ⟨a, rfl⟩ := Int.eq_ofNat_of_zero_le hx.1
  obtain ⟨b, rfl⟩ := Int.eq_ofNat_of_zero_le hy.1
  rw [(bits_nat .i64 62 (by decide) wrapI62 a b (by omega) (by omega)).2, (bits_nat .i64 62 (by decide) wrapI62 b a (by omega) (by omega)).2, Nat.or_comm]
theorem or_hi {y x : Int} (hy : 0 ≤ y ∧ y ≤ 32767) (hx : x = 0 ∨ x = 32768) : bits .or .i64 y x = y + x := by
  rw [or_comm' (by omega) (by omega), bits_join .i64 62 (by decide) wrapI62 15 x y (by omega) (by omega) (by omega) (by omega) (by omega) (by omega)]
  omega
theorem From_law {u : Int} (h : 0 ≤ u ∧ u < 18446744073709551616) : s_umbraref01_From u = nm u := by
  unfold s_umbraref01_From
  have e1 : Int.fdiv u (2 ^ 16) = u / 65536 := Int.fdiv_eq_ediv_of_nonneg _ (by decide)
  have e2 : Int.fdiv u (2 ^ 32) = u / 4294967296 := Int.fdiv_eq_ediv_of_nonneg _ (by decide)
  have e3 : Int.fdiv u (2 ^ 48) = u / 281474976710656 := Int.fdiv_eq_ediv_of_nonneg _ (by decide)
  simp only [lt, wrI, e1, e2, e3]
  rw [u64_low16 h, u64_low16 (x := u / 65536) (by omega), u64_low16 (x := u / 4294967296) (by omega), w64' (n := u % 65536) (by omega), w64' (n := u / 65536 % 65536) (by omega), w64' (n := u / 4294967296 % 65536) (by omega), w64' (n := u / 281474976710656) (by omega)]
  have hd : Dg [u % 65536, u / 65536 % 65536, u / 4294967296 % 65536, u / 281474976710656] := Dg_mk (by omega) (Dg_mk (by omega) (Dg_mk (by omega) (Dg_mk (by omega) Dg_nil)))
  have hv : dval [u % 65536, u / 65536 % 65536, u / 4294967296 % 65536, u / 281474976710656] = u := by
    simp only [dval]
    omega
  rw [trim_law false hd (by simp), hv]
  exact nm_of false h.1 (by simp)
theorem dval_set : ∀ (l : List Int) (j : Nat) (v : Int), j < l.length → dval (l.set j v) = dval l + (v - gd 0 l (j : Int)) * 65536 ^ j
  | [], j, v, h => by simp at h
  | d :: l, 0, v, h => by
    rw [List.set_cons_zero, dval, dval, Int.pow_zero]
    have : gd 0 (d :: l) ((0 : Nat) : Int) = d := rfl
    rw [this]; omega
  | d :: l, j + 1, v, h => by
    have ih := dval_set l j v (by simpa using h)
    have e : gd 0 (d :: l) ((j + 1 : Nat) : Int) = gd 0 l (j : Int) := gd_succ d l j
    rw [List.set_cons_succ, dval, dval, ih, e, Int.pow_succ]
    generalize gd 0 l (j : Int) = g at *
    generalize (65536 : Int) ^ j = B at *
    generalize dval l = V at *
    grind
theorem dval_rep : ∀ n : Nat, dval (List.replicate n (0 : Int)) = 0
  | 0 => rfl
  | n + 1 => by rw [List.replicate_succ, dval, dval_rep n]; rfl
theorem Dg_set {l : List Int} (h : Dg l) {i : Int} (hi : 0 ≤ i ∧ i < (List.length l : Int)) {v : Int} (hv : 0 ≤ v ∧ v ≤ 65535) : Dg (List.set l (Int.toNat i) v) := fun j => by
  by_cases h0 : 0 ≤ j
  · rw [gd_set l hi v j h0]
    split
    · exact hv
    · exact h j
  · rw [gd_neg _ (by omega), gd_set l hi v 0 (by omega)]
    split
    · exact hv
    · exact h 0
theorem two_pow_split (n : Nat) : (2 : Int) ^ (n % 16) * 65536 ^ (n / 16) = 2 ^ n := by
  have : (65536 : Int) = 2 ^ 16 := by decide
  rw [this, ← Int.pow_mul, ← Int.pow_add]
  congr 1
  omega
theorem Power_law {n : Int} (h : 0 ≤ n ∧ n ≤ 1000) : s_umbraref01_Power n = nm (2 ^ n.toNat) := by
  unfold s_umbraref01_Power
  have ht1 : Int.tdiv n 16 = n / 16 := Int.tdiv_eq_ediv_of_nonneg h.1
  have ht2 : Int.tmod n 16 = n % 16 := Int.tmod_eq_emod_of_nonneg h.1
  simp only [lt, wrI, ht1, ht2]
  rw [w64' (n := n / 16) (by omega), w64' (n := n / 16 + 1) (by omega)]
  have hr : (n % 16).toNat < 16 := by omega
  have hp : 0 < (2 : Int) ^ (n % 16).toNat ∧ (2 : Int) ^ (n % 16).toNat ≤ 65535 := by
    have : ∀ m, m < 16 → 0 < (2 : Int) ^ m ∧ (2 : Int) ^ m ≤ 65535 := by decide +kernel
    exact this _ hr
  have hlen : (List.replicate (n / 16 + 1).toNat (0 : Int)).length = (n / 16 + 1).toNat := by simp
  have hd := Dg_set (Dg_rep (n / 16 + 1).toNat) (i := n / 16) (by rw [hlen]; omega) (v := (2 : Int) ^ (n % 16).toNat) (by omega)
  have hv : dval (List.set (List.replicate (n / 16 + 1).toNat (0 : Int)) (n / 16).toNat ((2 : Int) ^ (n % 16).toNat)) = 2 ^ n.toNat := by
    rw [dval_set _ _ _ (by rw [hlen]; omega), dval_rep, gd_rep, ← two_pow_split n.toNat]
    rw [show (n % 16).toNat = n.toNat % 16 by omega, show (n / 16).toNat = n.toNat / 16 by omega, Int.zero_add, Int.sub_zero]
  have ht : Trim (List.set (List.replicate (n / 16 + 1).toNat (0 : Int)) (n / 16).toNat ((2 : Int) ^ (n % 16).toNat)) := by
    right
    rw [List.length_set, hlen, gd_set _ (by rw [hlen]; omega) _ _ (by omega), if_pos (by omega)]
    omega
  have hdd := digs_of hd ht
  rw [hv] at hdd
  rw [hdd]
  unfold nm
  have hpp : (0 : Int) < 2 ^ n.toNat := Int.pow_pos (by omega)
  rw [show decide ((2 : Int) ^ n.toNat < 0) = false by simp; omega]
theorem half_loop (b : Bool) {l : List Int} (hd : Dg l) (hl : l.length ≤ 1000) : ∀ (f k : Nat) (o : List Int), o.length = l.length → Dg o → k ≤ l.length → 2 * pv o k = pv l k - gd 0 l 0 % 2 + (gd 0 l (k : Int) % 2) * 65536 ^ k → l.length - k < f →
    ∃ K o', L3_umbraref01_half b l f (k : Int) o = (K, o') ∧ o'.length = l.length ∧ Dg o' ∧ 2 * dval o' = dval l - gd 0 l 0 % 2
  | 0, k, o, h1, h2, h3, h4, h5 => by omega
  | f + 1, k, o, h1, h2, h3, h4, h5 => by
    rw [L3_umbraref01_half]
    simp only [lt, wrI, dig_gd]
    have ef : Int.fdiv (gd 0 l (k : Int)) (2 ^ 1) = gd 0 l (k : Int) / 2 := Int.fdiv_eq_ediv_of_nonneg _ (by decide)
    have em : bits .and .i64 (gd 0 l (wrap64 ((k : Int) + 1))) 1 = gd 0 l (wrap64 ((k : Int) + 1)) % 2 := i64_bit _
    by_cases hk : k < l.length
    · rw [if_pos (by omega), ef, em, w64' (n := (k : Int) + 1) (by omega), show (k : Int) + 1 = ((k + 1 : Nat) : Int) by omega]
      have d1 := hd (k : Int)
      have d2 := hd ((k + 1 : Nat) : Int)
      rw [w64' (n := gd 0 l ((k + 1 : Nat) : Int) % 2 * 2 ^ 15) (by omega), or_hi (by omega) (by omega), Int.toNat_natCast]
      refine half_loop b hd hl f (k + 1) _ (by rw [List.length_set]; exact h1) (Dg_set (i := (k : Int)) h2 (by omega) (by omega)) (by omega) ?_ (by omega)
      have e1 : pv (List.set o k (gd 0 l (k : Int) / 2 + gd 0 l ((k + 1 : Nat) : Int) % 2 * 2 ^ 15)) (k + 1) = pv o k + (gd 0 l (k : Int) / 2 + gd 0 l ((k + 1 : Nat) : Int) % 2 * 2 ^ 15) * 65536 ^ k := by
        have hs := fun j hj => gd_set o (i := (k : Int)) (by omega) (gd 0 l (k : Int) / 2 + gd 0 l ((k + 1 : Nat) : Int) % 2 * 2 ^ 15) j hj
        rw [Int.toNat_natCast] at hs
        rw [pv, hs (k : Int) (by omega), if_pos rfl]
        congr 1
        exact pv_congr _ (fun j hj => by rw [hs (j : Int) (by omega), if_neg (by omega)])
      rw [e1, pv, Int.pow_succ 65536 k]
      have hm := Int.mul_ediv_add_emod (gd 0 l (k : Int)) 2
      generalize gd 0 l (k : Int) / 2 = q at *
      generalize gd 0 l (k : Int) % 2 = r at *
      generalize gd 0 l (k : Int) = p at *
      generalize gd 0 l ((k + 1 : Nat) : Int) % 2 = s at *
      generalize gd 0 l 0 % 2 = t at *
      generalize (65536 : Int) ^ k = B at *
      generalize pv o k = a at *
      generalize pv l k = u at *
      subst hm
      grind
    · rw [if_neg (by omega)]
      have hkk : k = l.length := by omega
      refine ⟨_, o, rfl, h1, h2, ?_⟩
      rw [gd_far l (k := (k : Int)) (by omega), pv_far o k (by omega), pv_far l k (by omega)] at h4
      omega
theorem half_law (b : Bool) {l : List Int} (hd : Dg l) (hl : l.length ≤ 1000) : s_umbraref01_half b l = nm (dval l / 2) := by
  unfold s_umbraref01_half
  simp only [lt]
  obtain ⟨K, o, e, a1, a2, a3⟩ := half_loop b hd hl (Int.toNat ((List.length l : Int) - 0) + 1) 0 (List.replicate (Int.toNat (List.length l : Int)) 0) (by simp) (Dg_rep _) (by omega) (by simp [pv]; omega) (by omega)
  have e' : L3_umbraref01_half b l (Int.toNat ((List.length l : Int) - 0) + 1) 0 (List.replicate (Int.toNat (List.length l : Int)) 0) = (K, o) := e
  rw [e']
  show (s_umbraref01_trim false o) = _
  have hb := dval_bd a2
  have h0 := hd 0
  rw [trim_law false a2 (by omega), show dval l / 2 = dval o by omega]
  exact nm_of false hb.1 (by simp)
theorem times_in (bP : Bool) {lP : List Int} (bQ : Bool) {lQ : List Int} (hP : Dg lP) (hQ : Dg lQ) (h1 : lP.length ≤ 400) (h2 : lQ.length ≤ 400) {i : Int} (hi : 0 ≤ i ∧ i < (List.length lP : Int)) (o : List Int) :
    ∀ (f : Nat) (c k : Int) (p : List Int), (0 ≤ k ∧ k ≤ (List.length lQ : Int) + 1) → (List.length p : Int) = (List.length lP : Int) + (List.length lQ : Int) + 1 → Dg p → (0 ≤ c ∧ c ≤ 65535) → Zt p (max (i + (List.length lQ : Int)) (i + k)) → (k = (List.length lQ : Int) + 1 → c = 0) →
      dval p + c * 65536 ^ (i + k).toNat = dval o + gd 0 lP i * 65536 ^ i.toNat * pv lQ k.toNat → (List.length lQ : Int) + 1 - k < f →
      ∃ c' k' p', L7_umbraref01_Times bP lP bQ lQ i f c k p = (c', k', p') ∧ (List.length p' : Int) = (List.length lP : Int) + (List.length lQ : Int) + 1 ∧ Dg p' ∧ Zt p' (i + (List.length lQ : Int) + 1) ∧ dval p' = dval o + gd 0 lP i * 65536 ^ i.toNat * dval lQ
  | 0, c, k, p, a1, a2, a3, a4, a5, a6, a7, a8 => by omega
  | f + 1, c, k, p, a1, a2, a3, a4, a5, a6, a7, a8 => by
    have go : k ≤ (List.length lQ : Int) → ∀ x66, IntKind.i64.wrap (k + 1) = x66 → ∀ x52, IntKind.i64.wrap (IntKind.i64.wrap (gd 0 p (IntKind.i64.wrap (i + k)) + IntKind.i64.wrap (gd 0 lP i * s_umbraref01_digit bQ lQ k)) + c) = x52 →
        ∃ c' k' p', L7_umbraref01_Times bP lP bQ lQ i f (Int.fdiv x52 (2 ^ 16)) x66 (List.set p (Int.toNat (IntKind.i64.wrap (i + k))) (bits .and .i64 x52 65535)) = (c', k', p') ∧ (List.length p' : Int) = (List.length lP : Int) + (List.length lQ : Int) + 1 ∧ Dg p' ∧ Zt p' (i + (List.length lQ : Int) + 1) ∧ dval p' = dval o + gd 0 lP i * 65536 ^ i.toNat * dval lQ := by
      intro hk x66 e10 x52 e5
      obtain ⟨t1, t2, t3, t4⟩ := tstep hP hQ a3 a4 a5 hi ⟨a1.1, hk⟩ a2 h1 h2 rfl rfl rfl rfl e5 rfl rfl rfl rfl e10
      have hd := dig_rng hQ bQ k
      have ew : IntKind.i64.wrap (i + k) = i + k := by rw [wrI, w64' (by omega)]
      rw [ew] at e5 t1 t3 ⊢
      obtain ⟨hX, hX1, hX2⟩ := tnow (hP i) hd (a3 (i + k)) a4 rfl rfl e5
      rw [dig_gd] at hX
      rw [wrI, w64' (by omega)] at e10
      subst e10
      refine times_in bP bQ hP hQ h1 h2 hi o f _ _ _ (by omega) (by rw [List.length_set]; exact a2) t1 t2 t3 t4 ?_ (by omega)
      rw [dval_set _ _ _ (by omega), low16, high16, show (((i + k).toNat : Nat) : Int) = i + k by omega, show (i + (k + 1)).toNat = (i + k).toNat + 1 by omega, show (k + 1).toNat = k.toNat + 1 by omega, pv, show ((k.toNat : Nat) : Int) = k by omega, Int.pow_succ 65536 (i + k).toNat]
      have epow : (65536 : Int) ^ (i + k).toNat = 65536 ^ i.toNat * 65536 ^ k.toNat := by rw [← Int.pow_add]; congr 1; omega
      rw [epow] at a7 ⊢
      have hm := Int.mul_ediv_add_emod x52 65536
      generalize x52 / 65536 = q at *
      generalize x52 % 65536 = r at *
      generalize (65536 : Int) ^ i.toNat = A at *
      generalize (65536 : Int) ^ k.toNat = B at *
      generalize pv lQ k.toNat = V at *
      generalize gd 0 lQ k = y at *
      generalize gd 0 lP i = x at *
      generalize gd 0 p (i + k) = z at *
      generalize dval p = D at *
      generalize dval o = D0 at *
      rw [← hm] at hX
      clear t1 t2 t3 t4 e5 hm
      grind
    rw [L7_umbraref01_Times]
    simp only [lt]
    by_cases hk : k < (List.length lQ : Int)
    · rw [if_pos hk]
      exact go (by omega) _ rfl _ rfl
    · rw [if_neg hk]
      by_cases hc : c > 0
      · rw [if_pos hc]
        exact go (by omega) _ rfl _ rfl
      · rw [if_neg hc]
        have hc0 : c = 0 := by omega
        refine ⟨_, _, _, rfl, a2, a3, a5.mono (by omega), ?_⟩
        rw [hc0, pv_far lQ _ (by omega)] at a7
        omega
theorem times_out (bP : Bool) {lP : List Int} (bQ : Bool) {lQ : List Int} (hP : Dg lP) (hQ : Dg lQ) (h1 : lP.length ≤ 400) (h2 : lQ.length ≤ 400) :
    ∀ (f : Nat) (i : Int) (o : List Int), (0 ≤ i ∧ i ≤ (List.length lP : Int)) → (List.length o : Int) = (List.length lP : Int) + (List.length lQ : Int) + 1 → Dg o → Zt o (i + (List.length lQ : Int)) → dval o = pv lP i.toNat * dval lQ → (List.length lP : Int) - i < f →
      ∃ i' o', L3_umbraref01_Times bP lP bQ lQ f i o = (i', o') ∧ (List.length o' : Int) = (List.length lP : Int) + (List.length lQ : Int) + 1 ∧ Dg o' ∧ dval o' = dval lP * dval lQ
  | 0, i, o, a1, a2, a3, a4, a5, a6 => by omega
  | f + 1, i, o, a1, a2, a3, a4, a5, a6 => by
    rw [L3_umbraref01_Times]
    simp only [lt]
    by_cases hi : i < (List.length lP : Int)
    · rw [if_pos hi]
      obtain ⟨c', k', p', e, b1, b2, b3, b4⟩ := times_in bP bQ hP hQ h1 h2 (i := i) (by omega) o (Int.toNat ((List.length lQ : Int) + 1 - 0) + 1) 0 0 o (by omega) a2 a3 (by omega) (a4.mono (by omega)) (fun _ => rfl)
        (by rw [Int.zero_mul, show Int.toNat 0 = 0 by rfl, pv, Int.mul_zero]) (by omega)
      rw [e, wrI, w64' (by omega)]
      refine times_out bP bQ hP hQ h1 h2 f (i + 1) p' (by omega) b1 b2 (b3.mono (by omega)) ?_ (by omega)
      rw [b4, a5, show (i + 1).toNat = i.toNat + 1 by omega, pv, show ((i.toNat : Nat) : Int) = i by omega, Int.add_mul]
    · rw [if_neg hi]
      refine ⟨_, _, rfl, a2, a3, ?_⟩
      rw [a5, pv_far lP _ (by omega)]
theorem Times_law (bP : Bool) {lP : List Int} (bQ : Bool) {lQ : List Int} (hP : Dg lP) (hQ : Dg lQ) (h1 : lP.length ≤ 400) (h2 : lQ.length ≤ 400) : s_umbraref01_Times bP lP bQ lQ = nm (nval bP lP * nval bQ lQ) := by
  unfold s_umbraref01_Times
  simp only [lt, wrI]
  rw [w64' (n := (List.length lP : Int) + (List.length lQ : Int)) (by omega), w64' (n := (List.length lP : Int) + (List.length lQ : Int) + 1) (by omega)]
  obtain ⟨i', o', e, b1, b2, b3⟩ := times_out bP bQ hP hQ h1 h2 (Int.toNat ((List.length lP : Int) - 0) + 1) 0 (List.replicate ((List.length lP : Int) + (List.length lQ : Int) + 1).toNat 0) (by omega) (by simp; omega) (Dg_rep _) (Zt_rep _ _)
    (by rw [dval_rep, show Int.toNat 0 = 0 by rfl, pv, Int.zero_mul]) (by omega)
  rw [e]
  have v1 := (dval_bd hP).1
  have v2 := (dval_bd hQ).1
  have hp := Int.mul_nonneg v1 v2
  unfold nval
  by_cases hb : bP = bQ
  · rw [if_pos hb]
    show (s_umbraref01_trim false o') = _
    rw [trim_law false b2 (by omega), b3]
    refine nm_of false hp ?_
    subst hb
    cases bP <;> simp [Int.neg_mul_neg, Int.neg_mul, Int.mul_neg]
  · rw [if_neg hb]
    show (s_umbraref01_trim true o') = _
    rw [trim_law true b2 (by omega), b3]
    refine nm_of true hp ?_
    cases bP <;> cases bQ <;> simp [Int.neg_mul_neg, Int.neg_mul, Int.mul_neg] at hb ⊢
end Go.Proofs.Ytognbeejobfpfaa

namespace Go.Proofs.Ytognbeejobfpfaa
open Go.RowKit Go.Sort
set_option linter.unusedVariables false
set_option linter.unusedSimpArgs false

/-- Sign and digits are those of x. -/
def NC (b : Bool) (l : List Int) (x : Int) : Prop := b = decide (x < 0) ∧ l = digs x
/-- .. their value is x (there may be digits 0 on top). -/
structure NV (b : Bool) (l : List Int) (x : Int) : Prop where
  dg : Dg l
  len : l.length ≤ 400
  val : nval b l = x
def absI (x : Int) : Int := (x.natAbs : Int)
theorem absI_eq (x : Int) : absI x = (x.natAbs : Int) := rfl
theorem absI_nn (x : Int) : 0 ≤ absI x := by unfold absI; omega
theorem absI_pos {x : Int} (h : 0 ≤ x) : absI x = x := by unfold absI; omega
/-- The digit number i. -/
def dg (x i : Int) : Int := absI x / 65536 ^ i.toNat % 65536
def BIG : Int := 2037035976334486086268445688409378161051468393665936250636140449354381299763336706183397376
theorem BIG_eq : BIG = 65536 ^ 18 * 4096 := by decide +kernel
theorem nc_nm (x : Int) : NC (nm x).1 (nm x).2 x := ⟨rfl, rfl⟩
theorem nc_of {r : Bool × List Int} {x : Int} (h : nm x = r) : NC r.1 r.2 x := by subst h; exact nc_nm x
theorem nc_eq {b : Bool} {l : List Int} {x X : Int} (h : NC b l x) (e : x = X) : (b, l) = nm X := by obtain ⟨h1, h2⟩ := h; subst h1 h2 e; rfl
theorem nc_2 {b b' : Bool} {l l' : List Int} {x X x' X' : Int} (h : NC b l x) (e : x = X) (h' : NC b' l' x') (e' : x' = X') : ((b, l), (b', l')) = (nm X, nm X') := by rw [nc_eq h e, nc_eq h' e']
theorem nc_abs {b : Bool} {l : List Int} {x : Int} (h : NC b l x) : NC false l (absI x) := by
  obtain ⟨h1, h2⟩ := h
  refine ⟨by have := absI_nn x; simp; omega, ?_⟩
  rw [h2]
  exact digs_abs (by unfold absI; omega)
theorem nc_pos {b : Bool} {l : List Int} {x : Int} (h : NC b l x) (hx : 0 ≤ x) : NC false l x := by have := nc_abs h; rw [absI_pos hx] at this; exact this
theorem nc_neg {b : Bool} {l : List Int} {x : Int} (h : NC b l x) (hx : x ≠ 0) : NC true l (-absI x) := by
  obtain ⟨h1, h2⟩ := h
  refine ⟨by have := absI_eq x; simp; omega, ?_⟩
  rw [h2]
  exact digs_abs (by unfold absI; omega)
theorem nc_0 : NC false [] 0 := ⟨by decide, ((digs_nil 0).2 rfl).symm⟩
theorem nc_1 : NC false [1] 1 := ⟨by decide, by decide +kernel⟩
theorem nc_m1 : NC true [1] (-1) := ⟨by decide, by decide +kernel⟩
theorem nc_len {b : Bool} {l : List Int} {x : Int} (h : NC b l x) : l = [] ↔ x = 0 := by rw [h.2]; exact digs_nil x
theorem nc_len0 {b : Bool} {l : List Int} {x : Int} (h : NC b l x) : (List.length l : Int) = 0 ↔ x = 0 := by
  rw [← nc_len h, ← List.length_eq_zero_iff]; omega
theorem nc_lenp {b : Bool} {l : List Int} {x : Int} (h : NC b l x) : (List.length l : Int) > 0 ↔ x ≠ 0 := by
  have := nc_len0 h
  omega
theorem nc_b {b : Bool} {l : List Int} {x : Int} (h : NC b l x) : b = true ↔ x < 0 := by rw [h.1, decide_eq_true_eq]
theorem nc_bf {b : Bool} {l : List Int} {x : Int} (h : NC b l x) (hb : b = false) : ¬ x < 0 := fun q => by rw [(nc_b h).2 q] at hb; cases hb
theorem digs_len (x : Int) (m : Nat) (h : absI x < 65536 ^ m) : (digs x).length ≤ m := by
  have hv := digs_val x
  rw [← absI_eq] at hv
  rcases digs_Trim x with ht | ht
  · rw [ht]; exact Nat.zero_le _
  · by_cases hz : digs x = []
    · rw [hz]; exact Nat.zero_le _
    · have hp := List.length_pos_iff.2 hz
      have hb := pv_bd (digs_Dg x) ((digs x).length - 1)
      have e := pv_len (digs x)
      rw [show (digs x).length = ((digs x).length - 1) + 1 by omega, pv] at e
      rw [show (((digs x).length - 1 : Nat) : Int) = ((digs x).length : Int) - 1 by omega] at e
      have hd := digs_Dg x (((digs x).length : Int) - 1)
      have hge := Int.mul_le_mul_of_nonneg_right (show 1 ≤ gd 0 (digs x) (((digs x).length : Int) - 1) by omega) (Int.le_of_lt (bpow ((digs x).length - 1)))
      rw [Int.one_mul] at hge
      have hlt : (65536 : Int) ^ ((digs x).length - 1) < 65536 ^ m := by rw [hv] at e; omega
      have hlt' : (65536 : Nat) ^ ((digs x).length - 1) < 65536 ^ m := Int.ofNat_lt.1 (by rw [Int.natCast_pow, Int.natCast_pow]; exact hlt)
      have := (Nat.pow_lt_pow_iff_right (a := 65536) (by decide)).1 hlt'
      omega
theorem nv_nc {b : Bool} {l : List Int} {x : Int} (h : NC b l x) (hx : -BIG ≤ x ∧ x ≤ BIG) : NV b l x := by
  obtain ⟨h1, h2⟩ := h
  subst h1 h2
  refine ⟨digs_Dg x, ?_, nval_nm x⟩
  have hlt : absI x < 65536 ^ 20 := by
    have e1 := BIG_eq
    have e : (65536 : Int) ^ 18 * 4096 < 65536 ^ 20 := by decide +kernel
    rw [← e1] at e
    generalize (65536 : Int) ^ 20 = Z at *
    generalize BIG = Y at *
    rw [absI_eq]
    omega
  have := digs_len x 20 hlt
  omega
theorem nc_bnd {b : Bool} {l : List Int} {x : Int} (h : NC b l x) (hx : -BIG ≤ x ∧ x ≤ BIG) : l.length ≤ 400 := (nv_nc h hx).len
theorem nv_abs {b : Bool} {l : List Int} {x : Int} (h : NV b l x) : dval l = absI x := by
  have := (dval_bd h.dg).1
  have hv := h.val
  unfold nval at hv
  rw [absI_eq]
  split at hv <;> omega
theorem gd_val {l : List Int} (h : Dg l) : ∀ k : Nat, gd 0 l (k : Int) = dval l / 65536 ^ k % 65536 := by
  have key : ∀ (k : Nat) (l : List Int), Dg l → gd 0 l (k : Int) = dval l / 65536 ^ k % 65536 := by
    intro k
    induction k with
    | zero =>
      intro l hl
      cases l with
      | nil => rfl
      | cons d l =>
        have h1 := (Dg_cons hl).1
        have e : gd 0 (d :: l) ((0 : Nat) : Int) = d := rfl
        rw [e, dval, Int.pow_zero, Int.ediv_one]
        omega
    | succ k ih =>
      intro l hl
      cases l with
      | nil =>
        have e : gd 0 ([] : List Int) ((k + 1 : Nat) : Int) = 0 := gd_far _ (by simp; omega)
        rw [e, dval, Int.zero_ediv]; rfl
      | cons d l =>
        obtain ⟨h1, h2⟩ := Dg_cons hl
        have e : gd 0 (d :: l) ((k + 1 : Nat) : Int) = gd 0 l (k : Int) := gd_succ d l k
        rw [e, ih l h2, dval, Int.pow_succ, Int.mul_comm (65536 ^ k), ← Int.ediv_ediv_of_nonneg (by omega)]
        rw [show (d + 65536 * dval l) / 65536 = dval l by omega]
  exact fun k => key k l h
theorem k_digit (b : Bool) (l : List Int) (x i : Int) (h : NV b l x) (A : Option Addr) (n c : Nat) (hn : n = List.length l) (hc : n ≤ c) (hi : 0 ≤ i) (w : World) (hA : Ent w (A, nv l)) :
    Calls Try.prog 86 #[.agg #[.bool b, .slice A n c], .int .i64 i] w (Ret (.int .i64 (dg x i)) w) := by
  have hw := w_umbraref01_digit b l i A n c hn hc hi w hA
  have e : s_umbraref01_digit b l i = dg x i := by
    rw [dig_gd, gd_nat, gd_val h.dg, nv_abs h]
    rfl
  unfold e_umbraref01_digit at hw
  rw [e] at hw
  exact hw
theorem k_size (b : Bool) (l : List Int) (x : Int) (b' : Bool) (l' : List Int) (y : Int) (h : NV b l x) (h' : NV b' l' y) (A : Option Addr) (n c : Nat) (A' : Option Addr) (n' c' : Nat) (hn : n = List.length l) (hc : n ≤ c) (hn' : n' = List.length l') (hc' : n' ≤ c') (w : World) (hA : Ent w (A, nv l)) (hA' : Ent w (A', nv l')) :
    Calls Try.prog 85 #[.agg #[.bool b, .slice A n c], .agg #[.bool b', .slice A' n' c']] w (Ret (.int .i64 (sg (absI x - absI y))) w) := by
  have l1 := h.len
  have l2 := h'.len
  have hw := w_umbraref01_size b l b' l' A n c A' n' c' hn hc hn' hc' (by omega) (by omega) w hA hA'
  unfold e_umbraref01_size at hw
  rw [size_law b b' h.dg h'.dg (by omega) (by omega), nv_abs h, nv_abs h'] at hw
  exact hw
theorem k_Sum (b : Bool) (l : List Int) (x : Int) (b' : Bool) (l' : List Int) (y : Int) (h : NV b l x) (h' : NV b' l' y) (A : Option Addr) (n c : Nat) (A' : Option Addr) (n' c' : Nat) (hn : n = List.length l) (hc : n ≤ c) (hn' : n' = List.length l') (hc' : n' ≤ c') (w : World) (hA : Ent w (A, nv l)) (hA' : Ent w (A', nv l')) :
    Calls Try.prog 55 #[.agg #[.bool b, .slice A n c], .agg #[.bool b', .slice A' n' c']] w (RetN w [(A, nv l), (A', nv l')] (nm (x + y))) := by
  have l1 := h.len
  have l2 := h'.len
  have hw := w_umbraref01_Sum b l b' l' A n c A' n' c' hn hc hn' hc' (by omega) (by omega) w hA hA'
  unfold e_umbraref01_Sum at hw
  rw [Sum_law b b' h.dg h'.dg (by omega) (by omega), h.val, h'.val] at hw
  exact hw
theorem k_Times (b : Bool) (l : List Int) (x : Int) (b' : Bool) (l' : List Int) (y : Int) (h : NV b l x) (h' : NV b' l' y) (A : Option Addr) (n c : Nat) (A' : Option Addr) (n' c' : Nat) (hn : n = List.length l) (hc : n ≤ c) (hn' : n' = List.length l') (hc' : n' ≤ c') (w : World) (hA : Ent w (A, nv l)) (hA' : Ent w (A', nv l')) :
    Calls Try.prog 56 #[.agg #[.bool b, .slice A n c], .agg #[.bool b', .slice A' n' c']] w (RetN w [(A, nv l), (A', nv l')] (nm (x * y))) := by
  have hw := w_umbraref01_Times b l b' l' A n c A' n' c' hn hc hn' hc' h.len h'.len h.dg h'.dg w hA hA'
  unfold e_umbraref01_Times at hw
  rw [Times_law b b' h.dg h'.dg h.len h'.len, h.val, h'.val] at hw
  exact hw
theorem k_half (b : Bool) (l : List Int) (x : Int) (h : NV b l x) (A : Option Addr) (n c : Nat) (hn : n = List.length l) (hc : n ≤ c) (w : World) (hA : Ent w (A, nv l)) :
    Calls Try.prog 91 #[.agg #[.bool b, .slice A n c]] w (RetN w [(A, nv l)] (nm (absI x / 2))) := by
  have l1 := h.len
  have hw := w_umbraref01_half b l A n c hn hc (by omega) w hA
  unfold e_umbraref01_half at hw
  rw [half_law b h.dg (by omega), nv_abs h] at hw
  exact hw
theorem k_trim (b : Bool) (l : List Int) (x : Int) (h : NV b l x) (A : Option Addr) (n c : Nat) (hn : n = List.length l) (hc : n ≤ c) (w : World) (hA : Ent w (A, nv l)) :
    Calls Try.prog 87 #[.agg #[.bool b, .slice A n c]] w (RetN w [(A, nv l)] (nm x)) := by
  have l1 := h.len
  have hw := w_umbraref01_trim b l A n c hn hc (by omega) w hA
  unfold e_umbraref01_trim at hw
  have hb := (dval_bd h.dg).1
  rw [trim_law b h.dg (by omega), nm_of b hb (X := x) (by rw [← h.val]; rfl)] at hw
  exact hw
theorem k_Power (i : Int) (hi : 0 ≤ i ∧ i ≤ 1000) (w : World) : Calls Try.prog 89 #[.int .i64 i] w (RetN w [] (nm (2 ^ i.toNat))) := by
  have hw := w_umbraref01_Power i hi w
  unfold e_umbraref01_Power at hw
  rw [Power_law hi] at hw
  exact hw
theorem inU_lt {u : Int} (h : InU u) : 0 ≤ u ∧ u < 18446744073709551616 := by unfold InU at h; omega
theorem k_From (u : Int) (hu : InU u) (w : World) : Calls Try.prog 88 #[.int .u64 u] w (RetN w [] (nm u)) := by
  have e := congrArg e_umbraref01_From (From_law (inU_lt hu))
  have hw := w_umbraref01_From u hu w
  rw [e] at hw
  exact hw
section
variable {P : Program} {ops : Array Oper} {Q : Exit → Act → World → Prop} {rest : List Oper} {a : Act} {w : World} {dst : Option Tmp} {op : Op} {ty : TypeId} {pos : String} {after : Array Edge} {guard : Option (Nat × Bool)}
theorem S_callB (X : Int) (S : List (Option Addr × List Value)) {w0 : Base} {L : List Blk} (hM : St w0 L w) {f : FuncId} {args : Array Value} (K : Calls P f args w (RetN w S (nm X))) (hS : ∀ m ∈ S, m ∈ w0.M)
    (hc : (Region.wanted ⟨dst, op, ty, pos, after, guard⟩ (yielded ops a.tmps), (execOp a.eval ⟨dst, op, ty, pos, after, guard⟩).run P w) = (true, .ok (.enter f args) w))
    (h : ∀ x, X = x → ∀ b l, NC b l x → ∀ A cap, List.length l ≤ cap → ∀ w', St ⟨w0.w, w0.S, (A, nv l) :: w0.M⟩ L w' → Wp P ops Q rest (a.put dst (.agg #[.bool b, .slice A (List.length l) cap])) w') : Wp P ops Q (⟨dst, op, ty, pos, after, guard⟩ :: rest) a w :=
  S_callN (nm X) S hM K hS hc fun r hr A cap hcap w' hM' => h X rfl r.1 r.2 (nc_of hr) A cap hcap w' hM'
theorem S_callBB (X Y : Int) (S : List (Option Addr × List Value)) {w0 : Base} {L : List Blk} (hM : St w0 L w) {f : FuncId} {args : Array Value} (K : Calls P f args w (RetNN w S (nm X, nm Y))) (hS : ∀ m ∈ S, m ∈ w0.M)
    (hc : (Region.wanted ⟨dst, op, ty, pos, after, guard⟩ (yielded ops a.tmps), (execOp a.eval ⟨dst, op, ty, pos, after, guard⟩).run P w) = (true, .ok (.enter f args) w))
    (h : ∀ x, X = x → ∀ y, Y = y → ∀ b l, NC b l x → ∀ b' l', NC b' l' y → ∀ A cap A' cap', List.length l ≤ cap → List.length l' ≤ cap' → ∀ w', St ⟨w0.w, w0.S, (A, nv l) :: (A', nv l') :: w0.M⟩ L w' → Wp P ops Q rest (a.put dst (.tuple #[.agg #[.bool b, .slice A (List.length l) cap], .agg #[.bool b', .slice A' (List.length l') cap']])) w') : Wp P ops Q (⟨dst, op, ty, pos, after, guard⟩ :: rest) a w :=
  S_callNN (nm X, nm Y) S hM K hS hc fun r hr A cap A' cap' h1 h2 w' hM' => h X rfl Y rfl r.1.1 r.1.2 (nc_of (congrArg Prod.fst hr)) r.2.1 r.2.2 (nc_of (congrArg Prod.snd hr)) A cap A' cap' h1 h2 w' hM'
end
section
variable {P : Program} {ops : Array Oper} {W : World} {Q : (World → Prop) → Act → Prop} {k : Nat} {rest : List Oper} {F : World → Prop} {U : Nat → Prop} {a : Act} {dst : Option Tmp} {op : Op} {ty : TypeId} {pos : String} {after : Array Edge} {guard : Option (Nat × Bool)}
theorem H_callB (X : Int) (S : List (Option Addr × List Value)) {w0 : Base} {L N : List Blk} {M' : List (Option Addr × List Value)} (hM : St w0 L W) (hL : LedN W F U N w0 M') {f : FuncId} {args : Array Value}
    (K : ∀ w', St ⟨w0.w, w0.S, M' ++ w0.M⟩ (N ++ L) w' → Calls P f args w' (RetN w' S (nm X))) (hS : ∀ m ∈ S, m ∈ M' ++ w0.M)
    (hd : (depE3 ops k && isCall ⟨dst, op, ty, pos, after, guard⟩) = true) (hc : ∀ w', (Region.wanted ⟨dst, op, ty, pos, after, guard⟩ (yielded ops a.tmps), (execOp a.eval ⟨dst, op, ty, pos, after, guard⟩).run P w') = (true, .ok (.enter f args) w'))
    (h : ∀ x, X = x → ∀ b l, NC b l x → ∀ A cap, List.length l ≤ cap → ∀ F U, LedN W F U N w0 ((A, nv l) :: M') → WlH P ops W Q (k + 1) rest F U (a.put dst (.agg #[.bool b, .slice A (List.length l) cap]))) : WlH P ops W Q k (⟨dst, op, ty, pos, after, guard⟩ :: rest) F U a :=
  H_callN (nm X) S hM hL K hS hd hc fun r hr A cap hcap F U hL' => h X rfl r.1 r.2 (nc_of hr) A cap hcap F U hL'
end
end Go.Proofs.Ytognbeejobfpfaa
