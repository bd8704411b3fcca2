/- Values that came in, opened: structs and arrays in their cells, slices of them in memory. No program is named here. -/
import Derived.Test.YtognbeejobfpfaaBase
import Derived.ProofKit
import Derived.OpenShut
import Derived.ChangeOld
namespace Go.Proofs.Ytognbeejobfpfaa
open Go.RowKit Go.WideShapes
set_option linter.unusedVariables false
set_option linter.unusedSimpArgs false

def Al2 {α β : Type} (R : α → β → Prop) : List α → List β → Prop
  | [], [] => True
  | a :: as, b :: bs => R a b ∧ Al2 R as bs
  | _, _ => False
theorem Al2.len {α β : Type} {R : α → β → Prop} : ∀ {as : List α} {bs : List β}, Al2 R as bs → as.length = bs.length
  | [], [], _ => rfl
  | _ :: as, _ :: bs, h => by simp [Al2.len (as := as) (bs := bs) h.2]
  | [], _ :: _, h => h.elim
  | _ :: _, [], h => h.elim
theorem Al2.app {α β : Type} {R : α → β → Prop} : ∀ {as : List α} {bs : List β} {as' : List α} {bs' : List β}, Al2 R as bs → Al2 R as' bs' → Al2 R (as ++ as') (bs ++ bs')
  | [], [], _, _, _, k => k
  | _ :: as, _ :: bs, _, _, h, k => ⟨h.1, Al2.app (as := as) (bs := bs) h.2 k⟩
  | [], _ :: _, _, _, h, _ => h.elim
  | _ :: _, [], _, _, h, _ => h.elim

def reps {α : Type} : Nat → List α → List α
  | 0, _ => []
  | k + 1, l => l ++ reps k l
theorem reps_len {α : Type} (l : List α) : ∀ k, (reps k l).length = k * l.length
  | 0 => by simp [reps]
  | k + 1 => by simp [reps, reps_len l k, Nat.add_mul, Nat.add_comm]

def tiles (f : TypeId → Option (List TypeId)) (P : Program) : List Field → Nat → Option (List TypeId)
  | [], _ => some []
  | x :: xs, off => if x.offset = off then (f x.type).bind fun l => if l.length = P.cellsOf x.type then (tiles f P xs (off + l.length)).map (l ++ ·) else none else none
/-- The types of the cells of a value: structs and arrays laid flat. -/
def leaves (P : Program) : Nat → TypeId → Option (List TypeId)
  | 0, _ => none
  | n + 1, t =>
    match P.underlying t with
    | some (.struct fs) => (tiles (leaves P n) P fs.toList 0).bind fun l => if l.length = P.cellsOf t then some l else none
    | some (.array k e) => (leaves P n e).bind fun l => if l.length = P.cellsOf e ∧ k * l.length = P.cellsOf t then some (reps k l) else none
    | some _ => some [t]
    | none => none

section
variable {H : Type} {enc : TypeId × Value → H} {P : Program} {w : World} {base : Nat} {spare : Nat → Bool} {held : Bool}
def LeafOk (enc : TypeId × Value → H) (P : Program) (w : World) (base : Nat) (spare : Nat → Bool) (held : Bool) (t : TypeId) (c : Value) : Prop := ∃ m y, DataW.trod enc P w base spare held m t [c] = some y

theorem tiles_open {n : Nat} (ih : ∀ t ts, leaves P n t = some ts → ∀ fuel cs x, DataW.trod enc P w base spare held fuel t cs = some x → Al2 (LeafOk enc P w base spare held) ts cs) (m : Nat) (cs : List Value) :
    ∀ (fs : List Field) (off : Nat) (ts : List TypeId), tiles (leaves P n) P fs off = some ts → (∀ f ∈ fs, ∃ y, DataW.trod enc P w base spare held m f.type ((cs.drop f.offset).take (P.cellsOf f.type)) = some y) →
      Al2 (LeafOk enc P w base spare held) ts ((cs.drop off).take ts.length)
  | [], _, ts, h, _ => by simp [tiles] at h; subst h; simp [Al2]
  | x :: xs, off, ts, h, hf => by
    unfold tiles at h
    split at h
    · rename_i ho
      cases hl : leaves P n x.type with
      | none => simp [hl] at h
      | some l =>
        simp only [hl, Option.bind_some] at h
        split at h
        · rename_i hs
          cases hr : tiles (leaves P n) P xs (off + l.length) with
          | none => simp [hr] at h
          | some r =>
            simp only [hr, Option.map_some, Option.some.injEq] at h
            subst h
            obtain ⟨y, hy⟩ := hf x (by simp)
            have h1 := ih _ _ hl _ _ _ hy
            rw [ho, ← hs] at h1
            have h2 := tiles_open ih m cs xs (off + l.length) r hr (fun f hf' => hf f (by simp [hf']))
            rw [List.length_append, List.take_add, List.drop_drop]
            exact h1.app h2
        · cases h
    · cases h

theorem reps_open {n : Nat} {e : TypeId} {l : List TypeId} (hl : leaves P n e = some l) (ih : ∀ t ts, leaves P n t = some ts → ∀ fuel cs x, DataW.trod enc P w base spare held fuel t cs = some x → Al2 (LeafOk enc P w base spare held) ts cs) (m : Nat) (cs : List Value) :
    ∀ (k i : Nat), (∀ j, j < k → ∃ y, DataW.trod enc P w base spare held m e ((cs.drop ((i + j) * l.length)).take l.length) = some y) → Al2 (LeafOk enc P w base spare held) (reps k l) ((cs.drop (i * l.length)).take (k * l.length))
  | 0, i, _ => by simp [reps, Al2]
  | k + 1, i, hf => by
    obtain ⟨y, hy⟩ := hf 0 (by omega)
    have h1 := ih _ _ hl _ _ _ hy
    have h2 := reps_open hl ih m cs k (i + 1) (fun j hj => by have := hf (j + 1) (by omega); rwa [show i + (j + 1) = i + 1 + j by omega] at this)
    rw [show (k + 1) * l.length = l.length + k * l.length by rw [Nat.add_mul, Nat.one_mul, Nat.add_comm], List.take_add, List.drop_drop]
    rw [show i * l.length + l.length = (i + 1) * l.length by rw [Nat.add_mul, Nat.one_mul]]
    exact Al2.app h1 h2

theorem flat_open : ∀ (n : Nat) (t : TypeId) (ts : List TypeId), leaves P n t = some ts → ∀ fuel cs x, DataW.trod enc P w base spare held fuel t cs = some x → Al2 (LeafOk enc P w base spare held) ts cs
  | 0, _, _, h => by simp [leaves] at h
  | n + 1, t, ts, h => by
    intro fuel cs x hx
    unfold leaves at h
    cases hu : P.underlying t with
    | none => rw [hu] at h; simp at h
    | some u =>
      rw [hu] at h
      have one : (∃ c, cs = [c]) → ts = [t] → Al2 (LeafOk enc P w base spare held) ts cs := by
        rintro ⟨c, rfl⟩ rfl
        exact ⟨⟨fuel, x, hx⟩, trivial⟩
      cases u
      case struct fs =>
        simp only at h
        cases hl : tiles (leaves P n) P fs.toList 0 with
        | none => simp [hl] at h
        | some l =>
          simp only [hl, Option.bind_some] at h
          split at h
          · rename_i hsz
            simp only [Option.some.injEq] at h
            subst h
            obtain ⟨xs, m, -, -, hlen, hfs, hall⟩ := DataW.trod_struct hu hx
            have := tiles_open (flat_open n) m cs fs.toList 0 l hl (by
              intro f hf
              obtain ⟨i, hi, rfl⟩ := List.getElem_of_mem hf
              have hi' : i < fs.size := by simpa using hi
              have h2 := hall i fs[i] (by simp [hi'])
              refine ⟨xs[i]'(by omega), ?_⟩
              rw [Array.getElem_toList, h2, List.getElem?_eq_getElem])
            rw [List.drop_zero, hsz, ← hlen, List.take_length] at this
            exact this
          · cases h
      case array k e =>
        simp only at h
        cases hl : leaves P n e with
        | none => simp [hl] at h
        | some l =>
          simp only [hl, Option.bind_some] at h
          split at h
          · rename_i hsz
            simp only [Option.some.injEq] at h
            subst h
            obtain ⟨xs, m, -, -, hlen, hxs, hall⟩ := DataW.trod_array hu hx
            have := reps_open hl (flat_open n) m cs k 0 (by
              intro j hj
              have h2 := hall j hj
              refine ⟨xs[j]'(by omega), ?_⟩
              rw [Nat.zero_add, hsz.1, h2, List.getElem?_eq_getElem])
            rw [Nat.zero_mul, List.drop_zero, hsz.2, ← hlen, List.take_length] at this
            exact this
          · cases h
      all_goals
        refine one ?_ (by simpa using h.symm)
        cases fuel with
        | zero => simp [DataW.trod] at hx
        | succ m =>
          unfold DataW.trod at hx
          rw [hu] at hx
          split at hx <;> simp_all

def kinds (P : Program) : List TypeId → Option (List IntKind)
  | [] => some []
  | t :: ts => match P.underlying t with
    | some (.int k) => (kinds P ts).map (k :: ·)
    | _ => none
def vals : List IntKind → List Int → List Value
  | k :: ks, n :: ns => .int k n :: vals ks ns
  | _, _ => []
def Fits (k : IntKind) (n : Int) : Prop := (Lit.int k n).wf = true
theorem ints_open : ∀ {ts : List TypeId} {cs : List Value} {ks : List IntKind}, Al2 (LeafOk enc P w base spare held) ts cs → kinds P ts = some ks → ∃ ns, cs = vals ks ns ∧ Al2 Fits ks ns
  | [], [], ks, _, h => by simp [kinds] at h; subst h; exact ⟨[], rfl, trivial⟩
  | t :: ts, c :: cs, ks, h, hk => by
    unfold kinds at hk
    cases hu : P.underlying t with
    | none => rw [hu] at hk; simp at hk
    | some u =>
      rw [hu] at hk
      cases u
      case int k =>
        simp only at hk
        cases hr : kinds P ts with
        | none => simp [hr] at hk
        | some r =>
          simp only [hr, Option.map_some, Option.some.injEq] at hk
          subst hk
          obtain ⟨ns, e1, e2⟩ := ints_open h.2 hr
          obtain ⟨m, y, hy⟩ := h.1
          obtain ⟨a, e3, -, e4⟩ := DataW.trod_int hu hy
          simp only [List.cons.injEq, and_true] at e3
          subst e3 e1
          exact ⟨a :: ns, rfl, e4, e2⟩
      all_goals simp at hk
  | [], _ :: _, _, h, _ => h.elim
  | _ :: _, [], _, h, _ => h.elim

/-- A struct or an array whose cells are all integers, by value. -/
def flatKinds (P : Program) (t : TypeId) : Option (List IntKind) := (leaves P 9 t).bind (kinds P)
def isFlat (P : Program) (t : TypeId) : Bool := match P.underlying t with
  | some (.struct _) | some (.array _ _) => true
  | _ => false
theorem open_flat {r : Reach} {b0 : Nat} {t : TypeId} {v : Value} {d : DataW H} {p : List MemPlace} {ks : List IntKind} (hf : isFlat P t = true) (hk : flatKinds P t = some ks)
    (hv : Value.okWide P w r b0 t v) (h : DataW.Trod enc P w base spare held t v d p) : ∃ ns, v = .agg (vals ks ns).toArray ∧ Al2 Fits ks ns := by
  have hc : ∃ cs, v = .agg cs := by
    unfold isFlat at hf
    unfold Value.okWide at hv
    split at hf
    · rename_i hu; rw [hu] at hv; obtain ⟨cs, e, _⟩ := hv; exact ⟨cs, e⟩
    · rename_i hu; rw [hu] at hv; obtain ⟨cs, e, _⟩ := hv; exact ⟨cs, e⟩
    · cases hf
  obtain ⟨cs, rfl⟩ := hc
  obtain ⟨fuel, hx⟩ := h
  unfold flatKinds at hk
  cases hl : leaves P 9 t with
  | none => simp [hl] at hk
  | some ts =>
    simp only [hl, Option.bind_some] at hk
    have h1 := flat_open 9 t ts hl _ _ _ hx
    obtain ⟨ns, e1, e2⟩ := ints_open h1 hk
    refine ⟨ns, ?_, e2⟩
    rw [← e1]
    simp [Value.cells]
end

end Go.Proofs.Ytognbeejobfpfaa
