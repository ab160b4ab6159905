/- Is there such a length of codes: the reference's and the program's own. No condition. -/
import Derived.Test.YtphdlbdmdokfaaaDoorPAx0
import Derived.Test.YtphdlbdmdokfaaaDoorPAx6
import Derived.Test.YtphdlbdmdokfaaaDoorPAx7
import Derived.Test.YtphdlbdmdokfaaaDoorQIn
namespace Go.Proofs.YtphdlbdmdokfaaaDoor.PA
open Go.RowKit Go.Proofs.YtphdlbdmdokfaaaDoorW.PrintWords
set_option linter.unusedVariables false

theorem plLong_f (n : Int) : spec_plLong.f n = some (decide (1 ≤ n) && decide (n ≤ 6)) := by
  unfold spec_plLong.f; rw [l1In_f]; rfl
theorem codeLong_f (n : Int) : impl_codeLong.f n = some (decide (1 ≤ n) && decide (n ≤ 6)) := by
  unfold impl_codeLong.f; rw [in_f]; rfl
end Go.Proofs.YtphdlbdmdokfaaaDoor.PA
