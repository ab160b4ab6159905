/- Small plain facts that the contracts by hand lean on: the first element that answers yes; limits of rounds. No condition. -/
import Derived.Test.YtkndnkmhlebebaaWWords
namespace Go.Proofs.Ytkndnkmhlebebaa.PA
open Go.RowKit Go.Proofs.YtkndnkmhlebebaaW.PrintWords
set_option linter.unusedVariables false

/-- the index of the first element that answers yes, or -1 -/
def idxO {α : Type} (pf : α → Option Bool) : List α → Int → Option Int
  | [], _ => some (-1)
  | x :: xs, i => (pf x).bind fun b => if b = true then some i else idxO pf xs (i + 1)
/-- does some element answer yes -/
def anyO {α : Type} (pf : α → Option Bool) : List α → Option Bool
  | [] => some false
  | x :: xs => (pf x).bind fun b => if b = true then some true else anyO pf xs
theorem idxO_any {α : Type} (pf : α → Option Bool) : ∀ (l : List α) (i : Int), 0 ≤ i → ∀ r, anyO pf l = some r → ∃ j, idxO pf l i = some j ∧ decide (0 ≤ j) = r
  | [], i, hi, r, h => ⟨-1, rfl, by simp [anyO] at h; subst h; decide⟩
  | x :: xs, i, hi, r, h => by
    simp only [anyO] at h
    obtain ⟨b, hb, h⟩ := Option.bind_eq_some_iff.mp h
    simp only [idxO, hb, Option.bind_some]
    cases b with
    | true => simp at h; subst h; exact ⟨i, by simp, by simpa using hi⟩
    | false => simp at h ⊢; obtain ⟨j, hj, e⟩ := idxO_any pf xs (i + 1) (by omega) r h; exact ⟨j, hj, by simpa using e⟩
theorem anyO_pure {α : Type} (p : α → Bool) (pf : α → Option Bool) : ∀ (l : List α), (∀ x ∈ l, pf x = some (p x)) → anyO pf l = some (l.any p)
  | [], _ => rfl
  | x :: xs, h => by
    simp only [anyO, h x (List.mem_cons_self ..), Option.bind_some, List.any_cons]
    cases hp : p x with
    | true => simp
    | false => simp; exact anyO_pure p pf xs (fun y hy => h y (List.mem_cons_of_mem _ hy))
theorem drop_cons {α : Type} {l : List α} {k : Nat} (h : k < l.length) : l.drop k = l[k] :: l.drop (k + 1) := List.drop_eq_getElem_cons h

theorem isEmpty_bne (l : List UInt8) : l.isEmpty = !(l != []) := by cases l <;> rfl

/-- what a function with rounds answers, with enough of them -/
noncomputable def lim {α : Type} (g : Nat → Option α) : Option α := by
  classical exact if h : ∃ k, (g k).isSome = true then g h.choose else none
theorem lim_some {α : Type} {g : Nat → Option α} {r : α} (h : lim g = some r) : ∃ k, g k = some r := by
  unfold lim at h
  split at h
  · exact ⟨_, h⟩
  · cases h
theorem leO_add {α : Type} {g : Nat → Option α} (m : ∀ k, LeO (g k) (g (k + 1))) {k : Nat} {r : α} (h : g k = some r) : ∀ j, g (k + j) = some r
  | 0 => h
  | j + 1 => m _ _ (leO_add m h j)
theorem lim_of {α : Type} {g : Nat → Option α} (m : ∀ k, LeO (g k) (g (k + 1))) {k : Nat} {r : α} (h : g k = some r) : lim g = some r := by
  have hx : ∃ k, (g k).isSome = true := ⟨k, by rw [h]; rfl⟩
  unfold lim
  rw [dif_pos hx]
  obtain ⟨r', hr'⟩ := Option.isSome_iff_exists.mp hx.choose_spec
  have h1 := leO_add m h hx.choose
  have h2 := leO_add m hr' k
  rw [Nat.add_comm] at h2
  rw [hr', ← h2, h1]
end Go.Proofs.Ytkndnkmhlebebaa.PA
