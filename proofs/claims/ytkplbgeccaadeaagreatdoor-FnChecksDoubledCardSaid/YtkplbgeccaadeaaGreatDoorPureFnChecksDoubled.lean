/- It is proved that the law FnChecksDoubled, as a plain function, returns true of any two texts: its walk stands in the text that this one imports. No condition. -/
import Derived.Test.YtkplbgeccaadeaaGreatDoorPAx8
import Derived.Test.YtkplbgeccaadeaaGreatDoorMFnChecksDoubled
namespace Go.Proofs.YtkplbgeccaadeaaGreatDoor.Pure
open Go.RowKit Go.Proofs.YtkplbgeccaadeaaGreatDoor.PA Go.Proofs.YtkplbgeccaadeaaGreatDoorW.PrintWords Go.Proofs.YtkplbgeccaadeaaGreatDoorW.PrintLast
/-- THE ONE PURE STATEMENT of the law. -/
def laws_FnChecksDoubled.Said : Prop := ∀ (a0 : List Int) (a1 : List Int), (a0.length ≤ maxLen ∧ ∀ y ∈ a0, (Lit.int .u8 y).wf = true) → (a1.length ≤ maxLen ∧ ∀ y ∈ a1, (Lit.int .u8 y).wf = true) → ∃ k, laws_FnChecksDoubled.f k a0 a1 = some true
theorem okB_of {l : List Int} (h : ∀ y ∈ l, (Lit.int .u8 y).wf = true) : okB l = true := by
  refine List.all_eq_true.mpr (fun y hy => ?_)
  have := h y hy
  simp only [Lit.wf, Bool.and_eq_true, decide_eq_true_eq] at this
  have e1 : IntKind.u8.min = 0 := by decide
  have e2 : IntKind.u8.max = 255 := by decide
  simp only [Bool.and_eq_true, decide_eq_true_eq]
  omega
theorem FnChecksDoubled : laws_FnChecksDoubled.Said := by
  intro a0 a1 h0 h1
  refine ⟨0, ?_⟩
  unfold laws_FnChecksDoubled.f
  rw [if_pos ⟨h0.1, h1.1, okB_of h0.2, okB_of h1.2⟩]
end Go.Proofs.YtkplbgeccaadeaaGreatDoor.Pure
