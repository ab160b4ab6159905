/- It is proved that the law FnExactIsDoubledRight, as a plain function, returns true: the program calls the same numbers right as the reference. No condition. -/
import Derived.Test.YtbkincjjafioaaaDoorPAx3
import Derived.Test.YtbkincjjafioaaaDoorQDoubled
namespace Go.Proofs.YtbkincjjafioaaaDoor.Pure
open Go.RowKit Go.Proofs.YtbkincjjafioaaaDoor.PA Go.Proofs.YtbkincjjafioaaaDoorW.PrintWords Go.Proofs.YtbkincjjafioaaaDoorW.PrintLast
/-- THE ONE PURE STATEMENT of the law. -/
def laws_FnExactIsDoubledRight.Said : Prop := ∀ (a0 : ByteArray), (a0.size ≤ maxLen) → ∃ k, laws_FnExactIsDoubledRight.f k a0 = some true
theorem FnExactIsDoubledRight : laws_FnExactIsDoubledRight.Said := by
  intro s _
  refine Ev.rounds ?_
  unfold laws_FnExactIsDoubledRight.f
  refine Ev.ite (fun _ => Ev.val rfl) (fun h1 => ?_)
  obtain ⟨v, e1, e2⟩ := doubled_ev s (by omega)
  have hg := ckLong_ev s 2 12 (by omega)
  have hi := isDigits_f s 2 12 (by omega)
  have : ∃ r : Bool × Bool, Ev (fun k => spec_IsDoubledRight.f k s) r ∧ Ev (fun k => impl_IsDoubledRight.f k s) r := by
    unfold spec_IsDoubledRight.f impl_IsDoubledRight.f impl_DoubledSum.f
    cases g : digitsB s 2 12 with
    | false =>
      rw [g] at hg hi
      exact ⟨(false, false), Ev.bind hg (Ev.neg (by simp) (Ev.val rfl)), Ev.bind (a := (0, false)) (Ev.vbind hi (Ev.neg (by simp) (Ev.val rfl))) (Ev.neg (by simp) (Ev.val rfl))⟩
    | true =>
      rw [g] at hg hi
      exact ⟨(Int.tmod v 10 == 0, true), Ev.bind hg (Ev.pos rfl (Ev.bind e1 (Ev.val rfl))), Ev.bind (a := (v, true)) (Ev.vbind hi (Ev.pos rfl (Ev.bind e2 (Ev.val rfl)))) (Ev.pos rfl (Ev.val rfl))⟩
  obtain ⟨r, hr, hq⟩ := this
  exact Ev.bind hr (Ev.bind hq (Ev.neg (by simp) (Ev.neg (by simp) (Ev.val rfl))))
end Go.Proofs.YtbkincjjafioaaaDoor.Pure
