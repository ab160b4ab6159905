/- It is proved that the law FnExactFirstDesk, as a plain function, returns true: the desk that the program begins with is the reference's. No condition. -/
import Derived.Test.YtkndnkmhlebebaaPFnExactFirstDeskx1
namespace Go.Proofs.Ytkndnkmhlebebaa.Pure
open Go.RowKit Go.Proofs.Ytkndnkmhlebebaa.PFnExactFirstDesk Go.Proofs.YtkndnkmhlebebaaW.PrintWords Go.Proofs.YtkndnkmhlebebaaW.PrintLast

/-- YOURS: laws_FnExactFirstDesk.f  = some true
What it reaches (each with k first where it has rounds; `.mono`: more rounds tell the same; `.l0`, ..: its loops, with `.mono_l`): spec_FirstDesk.f, impl_FirstDesk.f, laws_eqDesk.f, laws_FnExactFirstDesk.f -/
theorem FnExactFirstDesk : laws_FnExactFirstDesk.Pure := by
  unfold laws_FnExactFirstDesk.Pure laws_FnExactFirstDesk.f spec_FirstDesk.f impl_FirstDesk.f laws_eqDesk.f; simp

end Go.Proofs.Ytkndnkmhlebebaa.Pure
