/- Does a code fit beside all of a list: the program asks so. No condition but bounds. -/
import Derived.Test.YtphdlbdmdokfaaaDoorPAx0
import Derived.Test.YtphdlbdmdokfaaaDoorPAx2
import Derived.Test.YtphdlbdmdokfaaaDoorPAx7
import Derived.Test.YtphdlbdmdokfaaaDoorQHas
namespace Go.Proofs.YtphdlbdmdokfaaaDoor.PA
open Go.RowKit Go.Proofs.YtphdlbdmdokfaaaDoorW.PrintWords
set_option linter.unusedVariables false

/-- does a code stand beside all of a list's -/
def fitB (l : List ByteArray) (x : ByteArray) : Bool := !(l.any fun c => begB c x || begB x c)
theorem fits_f (l : List ByteArray) (x : ByteArray) (hl : l.length ≤ 1048576) : impl_fits.f l x = some (fitB l x) := by
  unfold impl_fits.f fitB
  rw [if_pos (by omega)]
  have h := anyO_pure (fun c => begB c x || begB x c) (fun c => (impl_begins.f c x).bind fun b => if b = true then some true else impl_begins.f x c) l (fun c _ => by
    rw [begins_f, begins_f, Option.bind_some]
    cases begB c x <;> simp)
  rw [h]; rfl
theorem fitB_iff {l : List ByteArray} {x : ByteArray} : fitB l x = true ↔ ∀ c ∈ l, begB c x = false ∧ begB x c = false := by
  unfold fitB
  rw [Bool.not_eq_true', List.any_eq_false]
  exact ⟨fun h c hc => by have := h c hc; simpa using this, fun h c hc => by have := h c hc; simp [this]⟩
theorem has_not {x : ByteArray} {l : List ByteArray} : hasB x l = false ↔ x ∉ l := by
  cases h : hasB x l with
  | true => simp [hasB_iff.mp h]
  | false => simp; intro hm; rw [hasB_iff.mpr hm] at h; exact absurd h (by simp)
end Go.Proofs.YtphdlbdmdokfaaaDoor.PA
