/- It is proved that the law FnExactMakePuzzle, as a plain function, returns true: the program and the reference make the same puzzle, and what the program returns is nobody else's. No condition. -/
import Derived.Test.YtbigdaohimbkaaaGreatDoorPAx6
import Derived.Test.YtbigdaohimbkaaaGreatDoorMFnExactMakePuzzle
namespace Go.Proofs.YtbigdaohimbkaaaGreatDoor.Pure
open Go.RowKit Go.Proofs.YtbigdaohimbkaaaGreatDoor.PA Go.Proofs.YtbigdaohimbkaaaGreatDoorW.PrintWords Go.Proofs.YtbigdaohimbkaaaGreatDoorW.PrintLast
/-- THE ONE PURE STATEMENT of the law. -/
def laws_FnExactMakePuzzle.Said : Prop := ∀ (a0 : ByteArray) (a1 : Int) (a2 : Int), (a0.size ≤ maxLen) → ((Lit.int .i64 a1).wf = true) → ((Lit.int .i64 a2).wf = true) → ∃ k, laws_FnExactMakePuzzle.f k a0 a1 a2 = some true
theorem FnExactMakePuzzle : laws_FnExactMakePuzzle.Said := by
  intro x c s _ _ _
  refine Ev.rounds ?_
  unfold laws_FnExactMakePuzzle.f
  refine Ev.ite (fun _ => Ev.val rfl) (fun hn => ?_)
  obtain ⟨⟨r0, r1, r2⟩, hr, hi, hz⟩ := make_both x c s (by omega)
  have hz : r1.length ≤ 6 := hz
  have hq := eqPuzzle_ev (d := r0) (a := r1) (by omega)
  have hm := markPuzzle_ev r0 r1 1 (by omega)
  have hh := heldPuzzle_ev r0 1 r1.length (by omega)
  refine Ev.bind hr (Ev.bind hi (Ev.bind hq (Ev.pos rfl (Ev.neg (by simp) ?_))))
  refine Ev.bind hm (Ev.bind hh (Ev.neg (by omega) (Ev.pos rfl (Ev.bind hi (Ev.bind hq (Ev.pos rfl (Ev.neg (by simp) ?_)))))))
  exact Ev.bind hh (Ev.neg (by omega) (Ev.pos rfl (Ev.val rfl)))
end Go.Proofs.YtbigdaohimbkaaaGreatDoor.Pure
