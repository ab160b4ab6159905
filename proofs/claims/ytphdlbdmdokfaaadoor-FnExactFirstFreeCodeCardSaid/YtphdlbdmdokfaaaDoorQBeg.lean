/- A code begins a text: what that says of the bytes. No condition. -/
import Derived.Test.YtphdlbdmdokfaaaDoorPAx0
import Derived.Test.YtphdlbdmdokfaaaDoorQPlan
namespace Go.Proofs.YtphdlbdmdokfaaaDoor.PA
open Go.RowKit Go.Proofs.YtphdlbdmdokfaaaDoorW.PrintWords
set_option linter.unusedVariables false

theorem begB_iff {a b : ByteArray} : begB a b = true ↔ ∃ t, b.data.toList = a.data.toList ++ t := by
  unfold begB
  rw [List.isPrefixOf_iff_prefix]
  exact ⟨fun ⟨t, h⟩ => ⟨t, h.symm⟩, fun ⟨t, h⟩ => ⟨t, h.symm⟩⟩
theorem begB_self (a : ByteArray) : begB a a = true := begB_iff.mpr ⟨[], by simp⟩
end Go.Proofs.YtphdlbdmdokfaaaDoor.PA
