/- It is proved that the law FnExactParsePuzzle, as a plain function, returns true: the program and the reference read the same puzzles out of texts. No condition. -/
import Derived.Test.YthnippdgfhbneaaDoorPAx8
import Derived.Test.YthnippdgfhbneaaDoorMFnExactParsePuzzle
namespace Go.Proofs.YthnippdgfhbneaaDoor.Pure
open Go.RowKit Go.Proofs.YthnippdgfhbneaaDoor.PA Go.Proofs.YthnippdgfhbneaaDoorW.PrintWords Go.Proofs.YthnippdgfhbneaaDoorW.PrintLast
/-- THE ONE PURE STATEMENT of the law. -/
def laws_FnExactParsePuzzle.Said : Prop := ∀ (a0 : ByteArray), (a0.size ≤ maxLen) → ∃ k, laws_FnExactParsePuzzle.f k a0 = some true
theorem FnExactParsePuzzle : laws_FnExactParsePuzzle.Said := by
  intro t _
  refine Ev.rounds ?_
  unfold laws_FnExactParsePuzzle.f
  refine Ev.ite (fun _ => Ev.val rfl) (fun ht => ?_)
  obtain ⟨m, l, b, hs, hi, hl⟩ := parsePuzzle_key t (by omega)
  have he := eqPuzzle_ev (d := m) hl
  have hms := markPuzzle_ev m l 1 (by omega)
  have hh := heldPuzzle_ev m 1 l.length (by omega)
  have j1 : Ev (fun k => laws_FnExactParsePuzzle.j1 k ((1 + 3 * l.length : Nat) : Int) false m (marksC 1 l.length)) true := by
    refine Ev.step (fun k => by rw [laws_FnExactParsePuzzle.j1]) ?_
    exact Ev.neg (by simp) (Ev.bind hh (Ev.neg (by omega) (Ev.pos rfl (Ev.val rfl))))
  have j0 : Ev (fun k => laws_FnExactParsePuzzle.j0 k t b false m l m l) true := by
    refine Ev.step (fun k => by rw [laws_FnExactParsePuzzle.j0]) ?_
    refine Ev.neg (by simp) (Ev.bind hms (Ev.bind hh (Ev.neg (by omega) (Ev.pos rfl (Ev.bind hi (Ev.bind he (Ev.pos rfl ?_)))))))
    rw [bne_self_eq_false]
    exact j1
  refine Ev.bind hs (Ev.bind hi (Ev.bind he (Ev.pos rfl ?_)))
  rw [bne_self_eq_false]
  exact j0
end Go.Proofs.YthnippdgfhbneaaDoor.Pure
