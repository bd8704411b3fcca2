/- wide.Add over a slice that the walk knows. -/
import Derived.Test.YtognbeejobfpfaaMG
import Derived.Test.YtognbeejobfpfaaAddTwo
namespace Go.Proofs.Ytognbeejobfpfaa
open Go.RowKit
set_option linter.unusedVariables false
set_option linter.unusedSimpArgs false

def AllW : List Int → Prop
  | [] => True
  | x :: l => InW x ∧ AllW l
theorem AllW.mem : ∀ {l : List Int}, AllW l → ∀ x ∈ l, InW x
  | _ :: _, h, x, hx => (List.mem_cons.1 hx).elim (fun e => e ▸ h.1) (fun hx => AllW.mem h.2 x hx)
def cellsW : List Int → List Value
  | [] => []
  | x :: l => .int .i64 (wHi x) :: .int .u64 (wLo x) :: cellsW l
theorem cellsW_at : ∀ (l : List Int) (i : Nat) (h : i < l.length), (cellsW l)[i * 2]? = some (.int .i64 (wHi l[i])) ∧ (cellsW l)[i * 2 + 1]? = some (.int .u64 (wLo l[i]))
  | x :: l, 0, _ => ⟨rfl, rfl⟩
  | x :: l, i + 1, h => by
    have ih := cellsW_at l i (by simpa using h)
    rw [show (i + 1) * 2 = i * 2 + 1 + 1 by omega]
    exact ih
theorem Has.cell' {g : Nat} {c : Array Value} {T : TypeId} {fr : Nat × Nat} {w : World} (h : Has g (.cells c T fr) w) (o : Nat) : w.cell? ⟨g, o, none⟩ = c[o]? := by
  unfold Has at h
  simp [World.cell?, h]
def addW (l : List Int) : Int × Bool := ((addL 0 l).getD 0, (addL 0 l).isSome)
def e_addW (r : Int × Bool) : Value := .tuple #[.agg #[.int .i64 (wHi r.1), .int .u64 (wLo r.1)], .bool r.2]
theorem wAddL (l : List Int) (hW : AllW l) {w0 : Base} {w : World} {L : List Blk} (hM : St w0 L w) (i n cap : Nat) {g : Nat} {cs : Array Value} {T : TypeId} {fr : Nat × Nat} {own : Bool} (hi : L[i]? = some ⟨g, cs, T, fr, own⟩) (hl : (Nat.ble l.length 1000000, n) = (true, l.length)) (hcs : cs.toList = cellsW l) :
    Calls Try.prog 52 #[.slice (some ⟨g, 0, none⟩) n cap] w (Ret (e_addW (addW l)) w) := by
  have hh := hM.at i hi
  simp only [Prod.mk.injEq, Nat.ble_eq] at hl
  refine wAdd_ne g 0 n cap l hl.2 hl.1 hW.mem w hh.lt (fun k hk => ?_)
  have h := cellsW_at l k hk
  rw [← hcs] at h
  rw [Nat.zero_add, hh.cell', hh.cell']
  simpa using h
theorem addL_W : ∀ (l : List Int) (s : Int), InW s → InW ((addL s l).getD 0)
  | [], s, h => h
  | x :: l, s, h => by
    unfold addL
    split
    · rename_i hb; exact addL_W l _ (InWb_iff.1 hb)
    · unfold InW; simp
theorem addW_W (l : List Int) : InW (addW l).1 ∧ True := ⟨addL_W l 0 (by unfold InW; omega), trivial⟩

end Go.Proofs.Ytognbeejobfpfaa
