/- Layer 25: in a texel's middle a texture has the texel's colour; what is sampled lies between the least and the greatest texel. -/
import Derived.Test.YtognbeejobfpfaaL25y
import Derived.Test.YtognbeejobfpfaaGoF
namespace Go.Proofs.Ytognbeejobfpfaa
open Go.RowKit Go.Sort
set_option linter.unusedVariables false
set_option linter.unusedSimpArgs false

theorem part_val {c : Int} (h : 0 ≤ c ∧ c ≤ 255) : fdiv (fof c) (fof 255) = c * 4294967296 / 255 := by
  have e1 : fof c = c * 4294967296 := by unfold fof; rw [clampI_in (by unfold InI; omega)]
  have e2 : fof 255 = 1095216660480 := by decide
  rw [e1, e2]
  unfold fdiv fq
  rw [if_neg (by omega), if_pos (by omega)]
  have e3 : c * 4294967296 * 4294967296 / 1095216660480 = c * 4294967296 / 255 := by omega
  rw [e3, clampI_in (by unfold InI; omega)]
theorem mid_u {side x : Int} (hs : side = 1 ∨ side = 2 ∨ side = 4 ∨ side = 8 ∨ side = 16) (hx : InU8 x) :
    ∃ i U, Int.tmod (wrap64 x) side = i ∧ wrap64 (Int.tdiv (wrap64 (wrap64 (wrap64 (2 * i) + 1) * 32768)) side) = U ∧ (0 ≤ U ∧ U ≤ 65535) ∧ U * side - 32768 = 65536 * i := by
  unfold InU8 at hx
  refine ⟨_, _, rfl, rfl, ?_⟩
  rw [w64 (n := x) (by unfold InI; omega), Int.tmod_eq_emod_of_nonneg (by omega)]
  have hi : 0 ≤ x % side ∧ x % side < side := ⟨Int.emod_nonneg _ (by omega), Int.emod_lt_of_pos _ (by omega)⟩
  generalize x % side = i at *
  rw [w64 (n := 2 * i) (by unfold InI; omega), w64 (n := 2 * i + 1) (by unfold InI; omega), w64 (n := (2 * i + 1) * 32768) (by unfold InI; omega), Int.tdiv_eq_ediv_of_nonneg (by omega)]
  rcases hs with h | h | h | h | h <;> subst h
  all_goals
    rw [w64 (by unfold InI; omega)]
    omega
theorem smp_0 (c0 c1 c2 c3 : Int) : smp 0 0 c0 c1 c2 c3 = c0 * 4294967296 / 255 := by
  unfold smp
  congr 1
  omega
theorem TexelMiddle_law (side : Int) (l : List T3) (x y : Int) (hx : InU8 x) (hy : InU8 y) : s_umbralaw25_TexelMiddle side l x y = true := by
  unfold s_umbralaw25_TexelMiddle
  simp only [lt]
  have hl := take_le l
  generalize List.take (Int.toNat (gmin (List.length l : Int) 260)) l = t at *
  by_cases h : s_texture_Check side t = 0
  · rw [if_pos h]
    have hs := check_sq h
    simp only [wrI]
    obtain ⟨i, U, e1, e2, hU, e3⟩ := mid_u hs.1 hx
    obtain ⟨j, V, d1, d2, hV, d3⟩ := mid_u hs.1 hy
    rw [e1, d1, e2, d2, sample_ok hl h hU hV, at_val h, e3, d3, if_pos rfl, if_pos rfl]
    have m1 : 65536 * i % 65536 = 0 := by omega
    have m2 : 65536 * j % 65536 = 0 := by omega
    have m3 : 65536 * i / 65536 = i := by omega
    have m4 : 65536 * j / 65536 = j := by omega
    have hv : sval side t (65536 * i) (65536 * j) = s_texel_Color (tx side t i j) 255 := by
      unfold sval s_texel_Color s_texel_Color_1
      simp only [lt]
      rw [m1, m2, m3, m4, smp_0, smp_0, smp_0]
      obtain ⟨a1, a2, a3⟩ := tx_rng hl h i j
      rw [part_val a1, part_val a2, part_val a3]
    rw [if_pos hv, if_pos works25x]
  · rw [if_neg h, if_pos works25x]

theorem smp_btw {a b c0 c1 c2 c3 lo hi : Int} (ha : 0 ≤ a ∧ a ≤ 65535) (hb : 0 ≤ b ∧ b ≤ 65535) (h0 : lo ≤ c0 ∧ c0 ≤ hi) (h1 : lo ≤ c1 ∧ c1 ≤ hi) (h2 : lo ≤ c2 ∧ c2 ≤ hi) (h3 : lo ≤ c3 ∧ c3 ≤ hi) :
    lo * 4294967296 / 255 ≤ smp a b c0 c1 c2 c3 ∧ smp a b c0 c1 c2 c3 ≤ hi * 4294967296 / 255 := by
  unfold smp
  have hp : 0 ≤ 65536 - a := by omega
  have hq : 0 ≤ 65536 - b := by omega
  have es : (65536 - a) * (65536 - b) + a * (65536 - b) + (65536 - a) * b + a * b = 4294967296 := by grind
  have k0 := Int.mul_nonneg hp hq
  have k1 := Int.mul_nonneg ha.1 hq
  have k2 := Int.mul_nonneg hp hb.1
  have k3 := Int.mul_nonneg ha.1 hb.1
  generalize (65536 - a) * (65536 - b) = W0 at *
  generalize a * (65536 - b) = W1 at *
  generalize (65536 - a) * b = W2 at *
  generalize a * b = W3 at *
  have el : lo * 4294967296 = lo * W0 + lo * W1 + lo * W2 + lo * W3 := by rw [← es]; grind
  have eh : hi * 4294967296 = hi * W0 + hi * W1 + hi * W2 + hi * W3 := by rw [← es]; grind
  rw [el, eh]
  have a0 := Int.mul_le_mul_of_nonneg_right h0.1 k0
  have a1 := Int.mul_le_mul_of_nonneg_right h1.1 k1
  have a2 := Int.mul_le_mul_of_nonneg_right h2.1 k2
  have a3 := Int.mul_le_mul_of_nonneg_right h3.1 k3
  have b0 := Int.mul_le_mul_of_nonneg_right h0.2 k0
  have b1 := Int.mul_le_mul_of_nonneg_right h1.2 k1
  have b2 := Int.mul_le_mul_of_nonneg_right h2.2 k2
  have b3 := Int.mul_le_mul_of_nonneg_right h3.2 k3
  exact ⟨Int.ediv_le_ediv (by omega) (by omega), Int.ediv_le_ediv (by omega) (by omega)⟩

def Btw (r4 : List T3) (g : T3 → Int) (X : Int) : Prop :=
  (∀ i, 0 ≤ i → i < (r4.length : Int) → 0 ≤ g (gd zero3 r4 i) ∧ g (gd zero3 r4 i) ≤ 255) ∧
  ∀ lo hi, (∀ i, 0 ≤ i → i < (r4.length : Int) → lo ≤ g (gd zero3 r4 i) ∧ g (gd zero3 r4 i) ≤ hi) → lo * 4294967296 / 255 ≤ X ∧ X ≤ hi * 4294967296 / 255
theorem btw_next {r4 : List T3} {g : T3 → Int} {X k lo hi : Int} (hB : Btw r4 g X) (hk : 0 ≤ k) (hk' : k < (r4.length : Int)) (hlo : 0 ≤ lo ∧ lo ≤ 255) (hhi : 0 ≤ hi ∧ hi ≤ 255)
    (h : ∀ i, 0 ≤ i → i < k → lo ≤ g (gd zero3 r4 i) ∧ g (gd zero3 r4 i) ≤ hi) :
    (0 ≤ gmin lo (g (gd zero3 r4 k)) ∧ gmin lo (g (gd zero3 r4 k)) ≤ 255) ∧ (0 ≤ gmax hi (g (gd zero3 r4 k)) ∧ gmax hi (g (gd zero3 r4 k)) ≤ 255) ∧
    ∀ i, 0 ≤ i → i < k + 1 → gmin lo (g (gd zero3 r4 k)) ≤ g (gd zero3 r4 i) ∧ g (gd zero3 r4 i) ≤ gmax hi (g (gd zero3 r4 k)) := by
  have h1 := hB.1 k hk hk'
  rw [gmin_eq, gmax_eq]
  refine ⟨by omega, by omega, ?_⟩
  intro i hi0 hi1
  by_cases he : i = k
  · subst he; omega
  · have := h i hi0 (by omega)
    omega
theorem btw_2 (side : Int) (l : List T3) (u v : Int) (r4 : List T3) (r14 : T3 × Int) (hl : (r4.length : Int) ≤ 1000) (hB : Btw r4 (·.2.2) r14.1.2.2) :
    ∀ (f : Nat) (k lo hi : Int), 0 ≤ k → k ≤ (r4.length : Int) → (r4.length : Int) - k < f → (0 ≤ lo ∧ lo ≤ 255) → (0 ≤ hi ∧ hi ≤ 255) →
      (∀ i, 0 ≤ i → i < k → lo ≤ (gd zero3 r4 i).2.2 ∧ (gd zero3 r4 i).2.2 ≤ hi) → L10_umbralaw25_TexelBetween_2 side l u v r4 r14 f k lo hi = true
  | 0, k, lo, hi, hk, hk', hf, _, _, _ => by omega
  | f + 1, k, lo, hi, hk, hk', hf, hlo, hhi, h => by
    rw [L10_umbralaw25_TexelBetween_2]
    simp only [lt, wrI]
    by_cases hc : k < (r4.length : Int)
    · obtain ⟨n1, n2, n3⟩ := btw_next (g := (·.2.2)) hB hk hc hlo hhi h
      rw [if_pos hc, w64 (by unfold InI; omega)]
      exact btw_2 side l u v r4 r14 hl hB f (k + 1) _ _ (by omega) (by omega) (by omega) n1 n2 n3
    · have hx := hB.2 lo hi (fun i h0 h1 => h i h0 (by omega))
      rw [if_neg hc, part_val hlo, part_val hhi, if_neg (by omega), if_neg (by omega), if_pos works25x]
theorem btw_1 (side : Int) (l : List T3) (u v : Int) (r4 : List T3) (r14 : T3 × Int) (hl : (r4.length : Int) ≤ 1000) (hB : Btw r4 (·.2.1) r14.1.2.1) (hB2 : Btw r4 (·.2.2) r14.1.2.2) :
    ∀ (f : Nat) (k lo hi : Int), 0 ≤ k → k ≤ (r4.length : Int) → (r4.length : Int) - k < f → (0 ≤ lo ∧ lo ≤ 255) → (0 ≤ hi ∧ hi ≤ 255) →
      (∀ i, 0 ≤ i → i < k → lo ≤ (gd zero3 r4 i).2.1 ∧ (gd zero3 r4 i).2.1 ≤ hi) → L10_umbralaw25_TexelBetween_1 side l u v r4 r14 f k lo hi = true
  | 0, k, lo, hi, hk, hk', hf, _, _, _ => by omega
  | f + 1, k, lo, hi, hk, hk', hf, hlo, hhi, h => by
    rw [L10_umbralaw25_TexelBetween_1]
    simp only [lt, wrI]
    by_cases hc : k < (r4.length : Int)
    · obtain ⟨n1, n2, n3⟩ := btw_next (g := (·.2.1)) hB hk hc hlo hhi h
      rw [if_pos hc, w64 (by unfold InI; omega)]
      exact btw_1 side l u v r4 r14 hl hB hB2 f (k + 1) _ _ (by omega) (by omega) (by omega) n1 n2 n3
    · have hx := hB.2 lo hi (fun i h0 h1 => h i h0 (by omega))
      rw [if_neg hc, part_val hlo, part_val hhi, if_neg (by omega), if_neg (by omega)]
      exact btw_2 side l u v r4 r14 hl hB2 _ 0 255 0 (by omega) (by omega) (by omega) (by omega) (by omega) (fun i h0 h1 => absurd h1 (by omega))
theorem btw_0 (side : Int) (l : List T3) (u v : Int) (r4 : List T3) (r14 : T3 × Int) (hl : (r4.length : Int) ≤ 1000) (hB : Btw r4 (·.1) r14.1.1) (hB1 : Btw r4 (·.2.1) r14.1.2.1) (hB2 : Btw r4 (·.2.2) r14.1.2.2) :
    ∀ (f : Nat) (k lo hi : Int), 0 ≤ k → k ≤ (r4.length : Int) → (r4.length : Int) - k < f → (0 ≤ lo ∧ lo ≤ 255) → (0 ≤ hi ∧ hi ≤ 255) →
      (∀ i, 0 ≤ i → i < k → lo ≤ (gd zero3 r4 i).1 ∧ (gd zero3 r4 i).1 ≤ hi) → L10_umbralaw25_TexelBetween_0 side l u v r4 r14 f k lo hi = true
  | 0, k, lo, hi, hk, hk', hf, _, _, _ => by omega
  | f + 1, k, lo, hi, hk, hk', hf, hlo, hhi, h => by
    rw [L10_umbralaw25_TexelBetween_0]
    simp only [lt, wrI]
    by_cases hc : k < (r4.length : Int)
    · obtain ⟨n1, n2, n3⟩ := btw_next (g := (·.1)) hB hk hc hlo hhi h
      rw [if_pos hc, w64 (by unfold InI; omega)]
      exact btw_0 side l u v r4 r14 hl hB hB1 hB2 f (k + 1) _ _ (by omega) (by omega) (by omega) n1 n2 n3
    · have hx := hB.2 lo hi (fun i h0 h1 => h i h0 (by omega))
      rw [if_neg hc, part_val hlo, part_val hhi, if_neg (by omega), if_neg (by omega)]
      exact btw_1 side l u v r4 r14 hl hB1 hB2 _ 0 255 0 (by omega) (by omega) (by omega) (by omega) (by omega) (fun i h0 h1 => absurd h1 (by omega))
theorem tx_btw {side : Int} {l : List T3} (hs : SqT side l) {g : T3 → Int} {lo hi : Int} (h : ∀ i, 0 ≤ i → i < (l.length : Int) → lo ≤ g (gd zero3 l i) ∧ g (gd zero3 l i) ≤ hi) (p q : Int) :
    lo ≤ g (tx side l p q) ∧ g (tx side l p q) ≤ hi := by
  have hb := grid_bd hs.1 (p := q) (q := p)
  exact h _ hb.1 (by rw [hs.2]; exact hb.2)
theorem TexelBetween_law (side : Int) (l : List T3) (u v : Int) (hu : InU16 u) (hv : InU16 v) : s_umbralaw25_TexelBetween side l u v = true := by
  unfold s_umbralaw25_TexelBetween
  simp only [lt, wrI]
  have hl := take_le l
  generalize List.take (Int.toNat (gmin (List.length l : Int) 260)) l = t at *
  unfold InU16 at hu hv
  rw [w64 (n := u) (by unfold InI; omega), w64 (n := v) (by unfold InI; omega)]
  by_cases h : s_texture_Check side t = 0
  · have hs := check_sq h
    rw [sample_ok hl h (by omega) (by omega), if_pos rfl]
    obtain ⟨x1, x2⟩ := side_X hs.1 (u := u) (by omega)
    obtain ⟨y1, y2⟩ := side_X hs.1 (u := v) (by omega)
    generalize u * side - 32768 = X at *
    generalize v * side - 32768 = Y at *
    have ha : 0 ≤ X % 65536 ∧ X % 65536 ≤ 65535 := by omega
    have hb : 0 ≤ Y % 65536 ∧ Y % 65536 ≤ 65535 := by omega
    refine btw_0 side l u v t _ hl ⟨fun i h0 h1 => (chk_rng hl h ⟨h0, h1⟩).1, fun lo hi hh => ?_⟩ ⟨fun i h0 h1 => (chk_rng hl h ⟨h0, h1⟩).2.1, fun lo hi hh => ?_⟩ ⟨fun i h0 h1 => (chk_rng hl h ⟨h0, h1⟩).2.2, fun lo hi hh => ?_⟩ _ 0 255 0 (by omega) (by omega) (by omega) (by omega) (by omega) (fun i h0 h1 => absurd h1 (by omega))
    · exact smp_btw ha hb (tx_btw hs (g := (·.1)) hh _ _) (tx_btw hs (g := (·.1)) hh _ _) (tx_btw hs (g := (·.1)) hh _ _) (tx_btw hs (g := (·.1)) hh _ _)
    · exact smp_btw ha hb (tx_btw hs (g := (·.2.1)) hh _ _) (tx_btw hs (g := (·.2.1)) hh _ _) (tx_btw hs (g := (·.2.1)) hh _ _) (tx_btw hs (g := (·.2.1)) hh _ _)
    · exact smp_btw ha hb (tx_btw hs (g := (·.2.2)) hh _ _) (tx_btw hs (g := (·.2.2)) hh _ _) (tx_btw hs (g := (·.2.2)) hh _ _) (tx_btw hs (g := (·.2.2)) hh _ _)
  · have e : s_texel_Sample side t u v = ((0, 0, 0), s_texture_Check side t) := by
      unfold s_texel_Sample
      simp only [lt]
      rw [if_neg h]
    rw [e, if_neg h, if_pos rfl, if_pos rfl, if_pos works25x]
theorem lawTexelMiddle {w : World} (s : Int) (hs : InI s) (A : Option Addr) (n cap : Nat) (l : List T3) (hn : n ≤ cap) (hc : cap ≤ maxLen) (hr : RdV w A n l) (hI : ∀ x ∈ l, InV x) (x : Int) (hx' : Fits .u8 x) (y : Int) (hy' : Fits .u8 y) :
    Calls Try.prog 5 #[.agg #[.int .i64 s, .slice A n cap], .int .u8 x, .int .u8 y] w (Ret (.bool true) w) := by
  obtain ⟨rfl, hR⟩ := hr.rd
  have hx := fit_u8 hx'
  have hy := fit_u8 hy'
  have hw := w_umbralaw25_TexelMiddle s l x y hx hy w A cap hR hn hI
  rw [TexelMiddle_law _ _ _ _ hx hy] at hw
  exact hw
theorem lawTexelBetween {w : World} (s : Int) (hs : InI s) (A : Option Addr) (n cap : Nat) (l : List T3) (hn : n ≤ cap) (hc : cap ≤ maxLen) (hr : RdV w A n l) (hI : ∀ x ∈ l, InV x) (u : Int) (hu' : Fits .u16 u) (v : Int) (hv' : Fits .u16 v) :
    Calls Try.prog 3 #[.agg #[.int .i64 s, .slice A n cap], .int .u16 u, .int .u16 v] w (Ret (.bool true) w) := by
  obtain ⟨rfl, hR⟩ := hr.rd
  have hu : InU16 u := by have := bounds_u16 hu'; unfold InU16; omega
  have hv : InU16 v := by have := bounds_u16 hv'; unfold InU16; omega
  have hw := w_umbralaw25_TexelBetween s l u v hu hv w A cap hR hn hI
  rw [TexelBetween_law _ _ _ _ hu hv] at hw
  exact hw
end Go.Proofs.Ytognbeejobfpfaa
