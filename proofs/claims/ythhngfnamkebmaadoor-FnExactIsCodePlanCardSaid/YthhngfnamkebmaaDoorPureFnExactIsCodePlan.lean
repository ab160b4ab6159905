/- It is proved that the law FnExactIsCodePlan, as a plain function over lists, returns true: the program and the reference tell the same lists to be plans, and the argument stays. No condition. -/
import Derived.Test.YthhngfnamkebmaaDoorPAx5
import Derived.Test.YthhngfnamkebmaaDoorQPlan
namespace Go.Proofs.YthhngfnamkebmaaDoor.Pure
open Go.RowKit Go.Proofs.YthhngfnamkebmaaDoor.PA Go.Proofs.YthhngfnamkebmaaDoorW.PrintWords Go.Proofs.YthhngfnamkebmaaDoorW.PrintLast
/-- THE ONE PURE STATEMENT of the law. -/
def laws_FnExactIsCodePlan.Said : Prop := ∀ (a0 : List ByteArray), (a0.length ≤ maxLen ∧ ∀ y ∈ a0, y.size ≤ maxLen) → ∃ k, laws_FnExactIsCodePlan.f k a0 = some true
theorem FnExactIsCodePlan : laws_FnExactIsCodePlan.Said := by
  intro l ⟨hl, hs⟩
  refine Ev.rounds ?_
  obtain ⟨v, hv, hc⟩ := szStringS_ev hl hs
  unfold laws_FnExactIsCodePlan.f
  refine Ev.bind hv ?_
  rcases hc with hc | ⟨h1, h2⟩
  · exact Ev.pos hc (Ev.val rfl)
  · refine Ev.ite (fun _ => Ev.val rfl) (fun _ => ?_)
    have ht := toStringS_ev (l := l) (by omega)
    refine Ev.bind ht (Ev.bind (g := fun k => spec_IsCodePlan.f k l) (a := goodB l) ?_ (Ev.bind ht (Ev.bind (isCodePlan_ev l h1 h2) (Ev.neg (by simp) (Ev.bind ht (Ev.bind (eqStringS_ev (by omega)) (Ev.pos (by simp) (Ev.val rfl))))))))
    unfold spec_IsCodePlan.f
    exact Ev.bind (plGood_ev l h1 h2) (Ev.val rfl)
end Go.Proofs.YthhngfnamkebmaaDoor.Pure
