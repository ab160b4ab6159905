/- What a law's arguments hold, kind by kind, out of the form's own reading: numbers, strings, slices, structs. No condition. -/
import Derived.Test.YtkplbgeccaadeaaGreatDoorWWords
import Derived.Deep.Slices
import Derived.Deep.Strs
import Derived.ChangeSame
import Derived.DataReads
namespace Go.Proofs.YtkplbgeccaadeaaGreatDoor.PA
open Go.RowKit Go.Proofs.YtkplbgeccaadeaaGreatDoorW.PrintWords Go.ChangeShapes Go.WideShapes
set_option linter.unusedVariables false
/-- a value of type t that can be read holds what the kind d tells, within bounds -/
def OpenAt {α : Type} (P : Program) (W : World) (t : TypeId) (d : Kd α) (good : α → Prop) : Prop :=
  ∀ {H : Type} (enc : TypeId × Value → H) (fuel : Nat) (cs : List Value) (x : DataW H × List MemPlace), DataW.trod enc P W 0 (fun _ => true) true fuel t cs = some x → ∃ a, d.K W a cs ∧ good a
section
variable {P : Program} {W : World} {t e : TypeId}
theorem openAt_int {k : IntKind} (ht : P.underlying t = some (.int k)) : OpenAt P W t (Kd.int k) (fun n => (Lit.int k n).wf = true) := by
  intro H enc fuel cs x h
  obtain ⟨n, rfl, _, hw⟩ := DataW.trod_int ht h
  exact ⟨n, rfl, hw⟩
theorem openAt_slice {α : Type} {d : Kd α} {good : α → Prop} (ht : P.underlying t = some (.slice e)) (hc : P.cellsOf e = d.sz) (he : OpenAt P W e d good) :
    OpenAt P W t (Kd.slice e d) (fun l => l.length ≤ maxLen ∧ ∀ x ∈ l, good x) := by
  intro H enc fuel cs x h
  rcases Go.Deep.open_slice ht h with ⟨rfl, _⟩ | ⟨a, len, cap, m, n, D, Pl, rfl, _, hl, hm, hmm, _, hx⟩
  · exact ⟨[], ⟨none, 0, rfl, Nat.le_refl _, rfl, by simp, fun h => absurd h (by simp)⟩, by simp, fun x hx => by cases hx⟩
  · have hlm : len ≤ m := by rw [hmm]; simp; exact hl
    have key : ∀ i : Fin len, ∃ y : α, ∃ cs', W.cells? 0 (a.add (i.val * P.cellsOf e)) (P.cellsOf e) = some cs' ∧ d.K W y cs' ∧ good y := fun i => by
      obtain ⟨cs', h1, h2⟩ := hx i.val (by have := i.isLt; omega)
      obtain ⟨y, h3, h4⟩ := he enc _ _ _ h2
      exact ⟨y, cs', h1, h3, h4⟩
    refine ⟨List.ofFn (fun i => Classical.choose (key i)), ⟨some a, cap, by rw [List.length_ofFn], by rw [List.length_ofFn]; exact hl, ⟨rfl, by rw [List.length_ofFn]; unfold maxLen at hm; omega, fun _ => ⟨a, rfl, fun j p hj => ?_⟩⟩⟩, by rw [List.length_ofFn]; omega, fun y hy => ?_⟩
    · rw [List.getElem?_ofFn] at hj
      split at hj
      · rename_i hjl
        injection hj with hj
        obtain ⟨cs', h1, h2, h3⟩ := Classical.choose_spec (key ⟨j, hjl⟩)
        rw [hj] at h2 h3
        have h4 := World.cells?_some h1
        refine ⟨cs', d.K_len h2, h2, fun i u hu => ?_⟩
        have hil : i < cs'.length := (List.getElem?_eq_some_iff.mp hu).1
        have h5 := h4.2.2 i (by have := d.K_len h2; omega)
        rw [hu] at h5
        rw [← hc, ← h5]
        congr 1
        unfold Addr.add
        by_cases hi : j * P.cellsOf e = 0 <;> by_cases hj2 : i = 0 <;> simp [hi, hj2, Nat.add_assoc]
      · cases hj
    · rw [List.mem_ofFn] at hy
      obtain ⟨i, rfl⟩ := hy
      obtain ⟨cs', h1, h2, h3⟩ := Classical.choose_spec (key i)
      exact h3
end
end Go.Proofs.YtkplbgeccaadeaaGreatDoor.PA
