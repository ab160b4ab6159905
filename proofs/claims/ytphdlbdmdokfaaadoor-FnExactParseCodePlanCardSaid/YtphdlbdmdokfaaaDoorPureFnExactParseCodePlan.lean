/- It is proved that the law FnExactParseCodePlan, as a plain function, returns true: the program and the reference read the same plan out of a text, into memory of its own. No condition. -/
import Derived.Test.YtphdlbdmdokfaaaDoorPAx6
import Derived.Test.YtphdlbdmdokfaaaDoorQParseK
import Derived.Test.YtphdlbdmdokfaaaDoorQMark
import Derived.Test.YtphdlbdmdokfaaaDoorQStrs
namespace Go.Proofs.YtphdlbdmdokfaaaDoor.Pure
open Go.RowKit Go.Proofs.YtphdlbdmdokfaaaDoor.PA Go.Proofs.YtphdlbdmdokfaaaDoorW.PrintWords Go.Proofs.YtphdlbdmdokfaaaDoorW.PrintLast
/-- THE ONE PURE STATEMENT of the law. -/
def laws_FnExactParseCodePlan.Said : Prop := ∀ (a0 : ByteArray), (a0.size ≤ maxLen) → ∃ k, laws_FnExactParseCodePlan.f k a0 = some true
theorem FnExactParseCodePlan : laws_FnExactParseCodePlan.Said := by
  intro s _
  refine Ev.rounds ?_
  unfold laws_FnExactParseCodePlan.f
  refine Ev.ite (fun _ => Ev.val rfl) (fun hsz => ?_)
  obtain ⟨⟨r1, r2⟩, hr, hq, hz⟩ := parseCodePlan_key s (by omega)
  simp only at hz
  have he : Ev (fun k => laws_eqStringS.f k r1 r1) true := Ev.eq (eqStringS_ev (by omega)) (by simp)
  have hm := markStringS_ev r1 1 (by omega)
  have hh := heldStringS_ev 1 r1.length (by omega)
  have j1 : Ev (fun k => laws_FnExactParseCodePlan.j1 k (marksT 1 r1.length) ((1 + r1.length : Nat) : Int) false) true := by
    refine Ev.step (fun k => by rw [laws_FnExactParseCodePlan.j1]) ?_
    exact Ev.neg (by simp) (Ev.bind hh (Ev.neg (by omega) (Ev.pos rfl (Ev.val rfl))))
  have j0 : Ev (fun k => laws_FnExactParseCodePlan.j0 k s r1 r2 r1 false) true := by
    refine Ev.step (fun k => by rw [laws_FnExactParseCodePlan.j0]) ?_
    refine Ev.neg (by simp) (Ev.bind hm (Ev.bind hh (Ev.neg (by omega) (Ev.pos rfl (Ev.bind hq (Ev.bind he (Ev.pos rfl ?_)))))))
    rw [bne_self_eq_false]
    exact j1
  refine Ev.bind hr (Ev.bind hq (Ev.bind he (Ev.pos rfl ?_)))
  rw [bne_self_eq_false]
  exact j0
end Go.Proofs.YtphdlbdmdokfaaaDoor.Pure
