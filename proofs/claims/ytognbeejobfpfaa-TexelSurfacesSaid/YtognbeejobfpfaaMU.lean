/- Layer 25: TexelSurfaces, in plain Lean. Layer 25: TexelSurfaces as its frame asks for it. -/
import Derived.Test.YtognbeejobfpfaaL25s
import Derived.Test.YtognbeejobfpfaaGoF
namespace Go.Proofs.Ytognbeejobfpfaa
open Go.RowKit Go.Sort
set_option linter.unusedVariables false
set_option linter.unusedSimpArgs false

theorem same_L (side : Int) (l : List T3) (hl : (List.length l : Int) ≤ 1000) : ∀ (f : Nat) (k : Int), 0 ≤ k → k ≤ (List.length l : Int) → (List.length l : Int) - k < f → L4_umbraref14_Same side l side l f k = true
  | 0, k, h0, h1, h => by exfalso; have : (List.length l : Int) - k < 0 := h; omega
  | f + 1, k, h0, h1, h => by
    rw [L4_umbraref14_Same]
    simp only [lt, if_true]
    split
    · rename_i hk
      have e : IntKind.i64.wrap (k + 1) = k + 1 := by rw [IntKind.wrap_i64]; omega
      rw [e]
      exact same_L side l hl f (k + 1) (by omega) (by omega) (by omega)
    · rfl
theorem same_refl (side : Int) (l : List T3) (hl : (List.length l : Int) ≤ 1000) : s_umbraref14_Same side l side l = true := by
  unfold s_umbraref14_Same
  rw [if_pos rfl, if_pos rfl]
  exact same_L side l hl _ 0 (by omega) (by omega) (by omega)
theorem surf_eq (L : List Tx) (c : T3) (uv : (Int × Int) × (Int × Int) × (Int × Int)) (m : Int × Int × Int × Int) (b : Int) (hc : InV c) (hm : InM m) (huv : ((InI uv.1.1 ∧ InI uv.1.2) ∧ (InI uv.2.1.1 ∧ InI uv.2.1.2) ∧ (InI uv.2.2.1 ∧ InI uv.2.2.2)))
    (hL : 0 < (List.length L : Int)) (hl : (List.length L : Int) ≤ 1000) (hS : ∀ x ∈ L, (List.length x.2.2.2 : Int) ≤ 1000) : s_texel_Surface_1 L c uv m b = s_umbraref25_Surface_1 L c uv m b := by
  unfold s_texel_Surface_1 s_umbraref25_Surface_1
  simp only [lt]
  have hn : ¬ (List.length L : Int) = 0 := by omega
  rw [if_neg hn, bary_eq m uv hm huv]
  have e : gd tx0 L (gmin (gmax b 0) (IntKind.i64.wrap ((List.length L : Int) - 1))) = lvl L b := gd1 hL hl rfl rfl rfl
  rw [e]
  have hs := hS _ (lvl_mem hL b)
  rw [← sample_eq _ _ hs, ← color_eq]
  rw [mulT2 (i_texel_Color c 65535 hc (by unfold InI; omega))]
theorem few_small (x : Tx) : (List.length (fewT x).2.2.2 : Int) ≤ 1000 := take_le _
theorem sm0 : ∀ x ∈ ([] : List Tx), (List.length x.2.2.2 : Int) ≤ 1000 := fun _ h => absurd h List.not_mem_nil
theorem smc {x : Tx} {l : List Tx} (r : ∀ y ∈ l, (List.length y.2.2.2 : Int) ≤ 1000) : ∀ y ∈ fewT x :: l, (List.length y.2.2.2 : Int) ≤ 1000 := fun y hy => (List.mem_cons.1 hy).elim (fun e => e ▸ few_small x) (r y)
theorem leafT {L : List Tx} {b z : Int} (hz : gmin (gmax b 0) (IntKind.i64.wrap ((List.length L : Int) - 1)) = z) {c : T3} {uv : (Int × Int) × (Int × Int) × (Int × Int)} {m : Int × Int × Int × Int} (hc : InV c) (hm : InM m) (huv : ((InI uv.1.1 ∧ InI uv.1.2) ∧ (InI uv.2.1.1 ∧ InI uv.2.1.2) ∧ (InI uv.2.2.1 ∧ InI uv.2.2.2)))
    (hL : 0 < (List.length L : Int)) (hl : (List.length L : Int) ≤ 1000) (hS : ∀ x ∈ L, (List.length x.2.2.2 : Int) ≤ 1000) :
    (if (List.length L : Int) > 0 then (if s_umbraref14_Same (lvl L b).1 (lvl L b).2.2.2 (gd tx0 L z).1 (gd tx0 L z).2.2.2 = true then (if s_texel_Surface_1 L c uv m b = s_umbraref25_Surface_1 L c uv m b then (if s_umbralaw25_works = true then true else false) else false) else false) else false) = true := by
  have e : gd tx0 L z = lvl L b := gd1 hL hl rfl rfl hz
  rw [e, if_pos (show (List.length L : Int) > 0 from hL), if_pos (same_refl _ _ (hS _ (lvl_mem hL b))), if_pos (surf_eq L c uv m b hc hm huv hL hl hS), if_pos works25o]
theorem ite_t {p : Prop} [Decidable p] {a b : Bool} (ha : a = true) (hb : b = true) : (if p then a else b) = true := by split <;> assumption
theorem TexelSurfaces_true (L : List Tx) (p : (Int × Int × Int) × ((Int × Int) × (Int × Int) × (Int × Int)) × (Int × Int × Int × Int) × Int) (hc : InV p.1) (huv : ((InI p.2.1.1.1 ∧ InI p.2.1.1.2) ∧ (InI p.2.1.2.1.1 ∧ InI p.2.1.2.1.2) ∧ (InI p.2.1.2.2.1 ∧ InI p.2.1.2.2.2))) (hm : InM p.2.2.1) : s_umbralaw25_TexelSurfaces L p = true := by
  unfold s_umbralaw25_TexelSurfaces
  simp only [lt]
  have h0 : s_texel_Surface_0 p.1 p.2.1 p.2.2.1 p.2.2.2 = s_umbraref25_Surface_0 p.1 p.2.1 p.2.2.1 p.2.2.2 := by
    unfold s_texel_Surface_0 s_umbraref25_Surface_0
    simp only [lt]
    exact color_eq _ _
  refine ite_t (ite_t (ite_t (ite_t (ite_t (ite_t (ite_t (leafT rfl hc hm huv (by simp) (by simp) (smc (smc (smc (smc (smc (smc sm0))))))) (leafT rfl hc hm huv (by simp) (by simp) (smc (smc (smc (smc (smc (smc sm0)))))))) (leafT rfl hc hm huv (by simp) (by simp) (smc (smc (smc (smc (smc sm0))))))) (leafT rfl hc hm huv (by simp) (by simp) (smc (smc (smc (smc sm0)))))) (leafT rfl hc hm huv (by simp) (by simp) (smc (smc (smc sm0))))) (leafT rfl hc hm huv (by simp) (by simp) (smc (smc sm0)))) (leafT rfl hc hm huv (by simp) (by simp) (smc sm0))) ?_
  rw [if_pos h0, if_pos works25o]
end Go.Proofs.Ytognbeejobfpfaa

namespace Go.Proofs.Ytognbeejobfpfaa
open Go.RowKit Go.Sort
set_option linter.unusedVariables false
set_option linter.unusedSimpArgs false

theorem lawTexelSurfaces {w : World} (A : Option Addr) (n cap : Nat) (L : List Tx) (hn : n ≤ cap) (hc : cap ≤ maxLen) (hr : n = L.length ∧ Rd tE 2 w A L) (hT : ∀ x ∈ L, TxOk w x) (ns1 : List Int) (h1 : Al2 Fits [.i64, .i64, .i64, .i64, .i64, .i64, .i64, .i64, .i64, .i64, .i64, .i64, .i64, .i64] ns1) :
    Calls Try.prog 8 #[.slice A n cap, .agg (vals [.i64, .i64, .i64, .i64, .i64, .i64, .i64, .i64, .i64, .i64, .i64, .i64, .i64, .i64] ns1).toArray] w (Ret (.bool true) w) := by
  obtain ⟨rfl, hR⟩ := hr
  obtain ⟨b1_0, l1_0, rfl, f1_0, h1⟩ := al2_cons h1
  obtain ⟨b1_1, l1_1, rfl, f1_1, h1⟩ := al2_cons h1
  obtain ⟨b1_2, l1_2, rfl, f1_2, h1⟩ := al2_cons h1
  obtain ⟨b1_3, l1_3, rfl, f1_3, h1⟩ := al2_cons h1
  obtain ⟨b1_4, l1_4, rfl, f1_4, h1⟩ := al2_cons h1
  obtain ⟨b1_5, l1_5, rfl, f1_5, h1⟩ := al2_cons h1
  obtain ⟨b1_6, l1_6, rfl, f1_6, h1⟩ := al2_cons h1
  obtain ⟨b1_7, l1_7, rfl, f1_7, h1⟩ := al2_cons h1
  obtain ⟨b1_8, l1_8, rfl, f1_8, h1⟩ := al2_cons h1
  obtain ⟨b1_9, l1_9, rfl, f1_9, h1⟩ := al2_cons h1
  obtain ⟨b1_10, l1_10, rfl, f1_10, h1⟩ := al2_cons h1
  obtain ⟨b1_11, l1_11, rfl, f1_11, h1⟩ := al2_cons h1
  obtain ⟨b1_12, l1_12, rfl, f1_12, h1⟩ := al2_cons h1
  obtain ⟨b1_13, l1_13, rfl, f1_13, h1⟩ := al2_cons h1
  obtain rfl := al2_nil h1
  have hp : (InV (((b1_0, b1_1, b1_2), ((b1_3, b1_4), (b1_5, b1_6), (b1_7, b1_8)), (b1_9, b1_10, b1_11, b1_12), b1_13)).1 ∧ (((InI (((b1_0, b1_1, b1_2), ((b1_3, b1_4), (b1_5, b1_6), (b1_7, b1_8)), (b1_9, b1_10, b1_11, b1_12), b1_13)).2.1.1.1 ∧ InI (((b1_0, b1_1, b1_2), ((b1_3, b1_4), (b1_5, b1_6), (b1_7, b1_8)), (b1_9, b1_10, b1_11, b1_12), b1_13)).2.1.1.2) ∧ (InI (((b1_0, b1_1, b1_2), ((b1_3, b1_4), (b1_5, b1_6), (b1_7, b1_8)), (b1_9, b1_10, b1_11, b1_12), b1_13)).2.1.2.1.1 ∧ InI (((b1_0, b1_1, b1_2), ((b1_3, b1_4), (b1_5, b1_6), (b1_7, b1_8)), (b1_9, b1_10, b1_11, b1_12), b1_13)).2.1.2.1.2) ∧ (InI (((b1_0, b1_1, b1_2), ((b1_3, b1_4), (b1_5, b1_6), (b1_7, b1_8)), (b1_9, b1_10, b1_11, b1_12), b1_13)).2.1.2.2.1 ∧ InI (((b1_0, b1_1, b1_2), ((b1_3, b1_4), (b1_5, b1_6), (b1_7, b1_8)), (b1_9, b1_10, b1_11, b1_12), b1_13)).2.1.2.2.2))) ∧ InM (((b1_0, b1_1, b1_2), ((b1_3, b1_4), (b1_5, b1_6), (b1_7, b1_8)), (b1_9, b1_10, b1_11, b1_12), b1_13)).2.2.1 ∧ InI (((b1_0, b1_1, b1_2), ((b1_3, b1_4), (b1_5, b1_6), (b1_7, b1_8)), (b1_9, b1_10, b1_11, b1_12), b1_13)).2.2.2) := ⟨⟨fit_i64 f1_0, fit_i64 f1_1, fit_i64 f1_2⟩, ⟨⟨fit_i64 f1_3, fit_i64 f1_4⟩, ⟨fit_i64 f1_5, fit_i64 f1_6⟩, ⟨fit_i64 f1_7, fit_i64 f1_8⟩⟩, ⟨fit_i64 f1_9, fit_i64 f1_10, fit_i64 f1_11, fit_i64 f1_12⟩, fit_i64 f1_13⟩
  have hw := w_umbralaw25_TexelSurfaces L ((b1_0, b1_1, b1_2), ((b1_3, b1_4), (b1_5, b1_6), (b1_7, b1_8)), (b1_9, b1_10, b1_11, b1_12), b1_13) hp w A cap hR hT
  rw [TexelSurfaces_true L ((b1_0, b1_1, b1_2), ((b1_3, b1_4), (b1_5, b1_6), (b1_7, b1_8)), (b1_9, b1_10, b1_11, b1_12), b1_13) hp.1 hp.2.1 hp.2.2.1] at hw
  exact hw
end Go.Proofs.Ytognbeejobfpfaa
