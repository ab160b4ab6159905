/- It is proved that the law FnExactDoubledSum, as a plain function, returns true: the program's doubled sum is the reference's. No condition. -/
import Derived.Test.YtbkincjjafioaaaDoorPAx2
import Derived.Test.YtbkincjjafioaaaDoorQDoubled
namespace Go.Proofs.YtbkincjjafioaaaDoor.Pure
open Go.RowKit Go.Proofs.YtbkincjjafioaaaDoor.PA Go.Proofs.YtbkincjjafioaaaDoorW.PrintWords Go.Proofs.YtbkincjjafioaaaDoorW.PrintLast
/-- THE ONE PURE STATEMENT of the law. -/
def laws_FnExactDoubledSum.Said : Prop := ∀ (a0 : ByteArray), (a0.size ≤ maxLen) → ∃ k, laws_FnExactDoubledSum.f k a0 = some true
theorem FnExactDoubledSum : laws_FnExactDoubledSum.Said := by
  intro s _
  refine Ev.rounds ?_
  unfold laws_FnExactDoubledSum.f
  refine Ev.ite (fun _ => Ev.val rfl) (fun h1 => ?_)
  obtain ⟨v, e1, e2⟩ := doubled_ev s (by omega)
  have hg := ckLong_ev s 2 12 (by omega)
  have hi := isDigits_f s 2 12 (by omega)
  have : ∃ r : Int × Bool, Ev (fun k => spec_DoubledSum.f k s) r ∧ Ev (fun k => impl_DoubledSum.f k s) r := by
    unfold spec_DoubledSum.f impl_DoubledSum.f
    cases g : digitsB s 2 12 with
    | false =>
      rw [g] at hg hi
      exact ⟨(0, false), Ev.bind hg (Ev.neg (by simp) (Ev.val rfl)), Ev.vbind hi (Ev.neg (by simp) (Ev.val rfl))⟩
    | true =>
      rw [g] at hg hi
      exact ⟨(v, true), Ev.bind hg (Ev.pos rfl (Ev.bind e1 (Ev.val rfl))), Ev.vbind hi (Ev.pos rfl (Ev.bind e2 (Ev.val rfl)))⟩
  obtain ⟨r, hr, hq⟩ := this
  exact Ev.bind hr (Ev.bind hq (Ev.pos rfl (Ev.neg (by simp) (Ev.val rfl))))
end Go.Proofs.YtbkincjjafioaaaDoor.Pure
