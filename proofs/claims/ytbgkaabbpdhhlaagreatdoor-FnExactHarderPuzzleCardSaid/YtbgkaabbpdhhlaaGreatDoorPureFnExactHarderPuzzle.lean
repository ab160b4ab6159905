/- It is proved that the law FnExactHarderPuzzle, as a plain function, returns true: the program and the reference say the same of a puzzle, the puzzle stays as it is, and what the program returns is nobody else's. No condition. -/
import Derived.Test.YtbgkaabbpdhhlaaGreatDoorPAx12
import Derived.Test.YtbgkaabbpdhhlaaGreatDoorMFnExactHarderPuzzle
namespace Go.Proofs.YtbgkaabbpdhhlaaGreatDoor.Pure
open Go.RowKit Go.Proofs.YtbgkaabbpdhhlaaGreatDoor.PA Go.Proofs.YtbgkaabbpdhhlaaGreatDoorW.PrintWords Go.Proofs.YtbgkaabbpdhhlaaGreatDoorW.PrintLast
/-- THE ONE PURE STATEMENT of the law. -/
def laws_FnExactHarderPuzzle.Said : Prop := ∀ (a0 : S24), (((Lit.int .i64 a0.f0).wf = true) ∧ (a0.f1.length ≤ maxLen ∧ ∀ y ∈ a0.f1, ((Lit.int .i64 y.f0).wf = true) ∧ ((Lit.int .i64 y.f1).wf = true) ∧ ((Lit.int .i64 y.f2).wf = true))) → ∃ k, laws_FnExactHarderPuzzle.f k (a0.f0) (a0.f1) = some true
theorem FnExactHarderPuzzle : laws_FnExactHarderPuzzle.Said := by
  intro p ⟨_, hl, _⟩
  refine Ev.rounds ?_
  generalize p.f0 = m
  generalize p.f1 = l at hl ⊢
  obtain ⟨v, hv, hc⟩ := szPuzzle_f (d := m) hl
  unfold laws_FnExactHarderPuzzle.f
  refine Ev.vbind hv (Ev.ite (fun _ => Ev.val rfl) (fun hn => ?_))
  have hc : l.length ≤ 1048576 := hc.resolve_left hn
  have ht := toPuzzle_ev (d := m) hc
  have hlc : (l.map conv).length ≤ 1048576 := by simpa using hc
  have he := eqPuzzle_ev (d := m) hlc
  obtain ⟨⟨r0, r1, r2⟩, hr, hi, hz⟩ := harder_both m (l.map conv) hlc
  have hz : r1.length ≤ 1048576 := hz
  have hq := eqPuzzle_ev (d := r0) hz
  have hmp := markPuzzle_ev m (l.map conv) 1 (by omega)
  have hm := markPuzzle_ev r0 r1 1 (by omega)
  have hh := heldPuzzle_ev r0 1 r1.length (by omega)
  refine Ev.bind ht (Ev.bind hr (Ev.bind ht (Ev.bind hi (Ev.bind hq (Ev.pos rfl (Ev.neg (by simp) ?_))))))
  refine Ev.bind ht (Ev.bind he (Ev.pos rfl (Ev.bind hmp (Ev.neg (by omega) (Ev.bind hq (Ev.pos rfl ?_))))))
  refine Ev.bind hm (Ev.bind hh (Ev.neg (by omega) (Ev.pos rfl (Ev.bind ht (Ev.bind hi (Ev.bind hq (Ev.pos rfl (Ev.neg (by simp) ?_))))))))
  exact Ev.bind hh (Ev.neg (by omega) (Ev.pos rfl (Ev.val rfl)))
end Go.Proofs.YtbgkaabbpdhhlaaGreatDoor.Pure
