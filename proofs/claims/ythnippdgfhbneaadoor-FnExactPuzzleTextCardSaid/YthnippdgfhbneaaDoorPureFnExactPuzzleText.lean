/- It is proved that the law FnExactPuzzleText, as a plain function, returns true: the program and the reference write the same text for a puzzle. No condition. -/
import Derived.Test.YthnippdgfhbneaaDoorPAx4
import Derived.Test.YthnippdgfhbneaaDoorMFnExactPuzzleText
namespace Go.Proofs.YthnippdgfhbneaaDoor.Pure
open Go.RowKit Go.Proofs.YthnippdgfhbneaaDoor.PA Go.Proofs.YthnippdgfhbneaaDoorW.PrintWords Go.Proofs.YthnippdgfhbneaaDoorW.PrintLast
/-- THE ONE PURE STATEMENT of the law. -/
def laws_FnExactPuzzleText.Said : Prop := ∀ (a0 : S24), (((Lit.int .i64 a0.f0).wf = true) ∧ (a0.f1.length ≤ maxLen ∧ ∀ y ∈ a0.f1, ((Lit.int .i64 y.f0).wf = true) ∧ ((Lit.int .i64 y.f1).wf = true) ∧ ((Lit.int .i64 y.f2).wf = true))) → ∃ k, laws_FnExactPuzzleText.f k (a0.f0) (a0.f1) = some true
theorem FnExactPuzzleText : laws_FnExactPuzzleText.Said := by
  intro p ⟨_, hl, _⟩
  refine Ev.rounds ?_
  generalize p.f0 = m
  generalize p.f1 = l at hl ⊢
  obtain ⟨v, hv, hc⟩ := szPuzzle_f (d := m) hl
  unfold laws_FnExactPuzzleText.f
  refine Ev.vbind hv ?_
  rcases hc with hc | hc
  · exact Ev.pos hc (Ev.val rfl)
  · refine Ev.ite (fun _ => Ev.val rfl) (fun _ => ?_)
    have ht := toPuzzle_ev (d := m) hc
    have hr := specPuzzleText_ev m (l.map conv) (by simpa using hc)
    have hq := puzzleText_ev m (l.map conv) (by simpa using hc)
    refine Ev.bind ht (Ev.bind hr (Ev.bind ht (Ev.bind hq (Ev.pos rfl ?_))))
    rw [bne_self_eq_false]
    refine Ev.step (fun k => by rw [laws_FnExactPuzzleText.j0]) ?_
    exact Ev.neg (by simp) (Ev.bind ht (Ev.bind (eqPuzzle_ev (by simpa using hc)) (Ev.pos rfl (Ev.val rfl))))
end Go.Proofs.YthnippdgfhbneaaDoor.Pure
