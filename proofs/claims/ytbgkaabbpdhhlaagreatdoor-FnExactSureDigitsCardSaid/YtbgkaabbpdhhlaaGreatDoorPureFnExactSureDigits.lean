/- It is proved that the law FnExactSureDigits, as a plain function, returns true: the program and the reference say the same of a puzzle, the puzzle stays as it is. No condition. -/
import Derived.Test.YtbgkaabbpdhhlaaGreatDoorPAx8
import Derived.Test.YtbgkaabbpdhhlaaGreatDoorMFnExactSureDigits
namespace Go.Proofs.YtbgkaabbpdhhlaaGreatDoor.Pure
open Go.RowKit Go.Proofs.YtbgkaabbpdhhlaaGreatDoor.PA Go.Proofs.YtbgkaabbpdhhlaaGreatDoorW.PrintWords Go.Proofs.YtbgkaabbpdhhlaaGreatDoorW.PrintLast
/-- THE ONE PURE STATEMENT of the law. -/
def laws_FnExactSureDigits.Said : Prop := ∀ (a0 : S24), (((Lit.int .i64 a0.f0).wf = true) ∧ (a0.f1.length ≤ maxLen ∧ ∀ y ∈ a0.f1, ((Lit.int .i64 y.f0).wf = true) ∧ ((Lit.int .i64 y.f1).wf = true) ∧ ((Lit.int .i64 y.f2).wf = true))) → ∃ k, laws_FnExactSureDigits.f k (a0.f0) (a0.f1) = some true
theorem FnExactSureDigits : laws_FnExactSureDigits.Said := by
  intro p ⟨_, hl, _⟩
  refine Ev.rounds ?_
  generalize p.f0 = m
  generalize p.f1 = l at hl ⊢
  obtain ⟨v, hv, hc⟩ := szPuzzle_f (d := m) hl
  unfold laws_FnExactSureDigits.f
  refine Ev.vbind hv (Ev.ite (fun _ => Ev.val rfl) (fun hn => ?_))
  have hc : l.length ≤ 1048576 := hc.resolve_left hn
  have ht := toPuzzle_ev (d := m) hc
  have hlc : (l.map conv).length ≤ 1048576 := by simpa using hc
  have he := eqPuzzle_ev (d := m) hlc
  obtain ⟨r, hr, hi⟩ := sure_both m (l.map conv) hlc
  refine Ev.bind ht (Ev.bind hr (Ev.bind ht (Ev.bind hi ?_)))
  exact Ev.pos rfl (Ev.neg (by simp) (Ev.bind ht (Ev.bind he (Ev.pos rfl (Ev.val rfl)))))
end Go.Proofs.YtbgkaabbpdhhlaaGreatDoor.Pure
