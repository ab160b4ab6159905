/- It is proved that the law FnExactIsPuzzle, as a plain function, returns true: the program and the reference call the same a puzzle. No condition. -/
import Derived.Test.YtkndnkmhlebebaaPAx8
import Derived.Test.YtkndnkmhlebebaaQPuz
import Derived.Test.YtkndnkmhlebebaaQPuzLaw
namespace Go.Proofs.Ytkndnkmhlebebaa.Pure
open Go.RowKit Go.Proofs.Ytkndnkmhlebebaa.PA Go.Proofs.YtkndnkmhlebebaaW.PrintWords Go.Proofs.YtkndnkmhlebebaaW.PrintLast
/-- THE ONE PURE STATEMENT of the law. -/
def laws_FnExactIsPuzzle.Said : Prop := ∀ (a0 : S35), (((Lit.int .i64 a0.f0).wf = true) ∧ (a0.f1.length ≤ maxLen ∧ ∀ y ∈ a0.f1, ((Lit.int .i64 y.f0).wf = true) ∧ ((Lit.int .i64 y.f1).wf = true) ∧ ((Lit.int .i64 y.f2).wf = true))) → ∃ k, laws_FnExactIsPuzzle.f k (a0.f0) (a0.f1) = some true
theorem FnExactIsPuzzle : laws_FnExactIsPuzzle.Said := by
  intro p ⟨_, hl, _⟩
  refine Ev.rounds ?_
  generalize p.f0 = d
  generalize p.f1 = l at hl ⊢
  unfold laws_FnExactIsPuzzle.f
  obtain ⟨v, hv, hc⟩ := szPuzzle_f (d := d) hl
  refine Ev.vbind hv ?_
  rcases hc with hc | hc
  · exact Ev.pos hc (Ev.val rfl)
  · refine Ev.ite (fun _ => Ev.val rfl) (fun _ => ?_)
    have ht := toPuzzle_ev (d := d) hc
    have hlen : (l.map conv).length ≤ 1048576 := by simpa using hc
    refine Ev.bind ht (Ev.bind (a := puzB d (l.map conv)) (Ev.bind (g := fun k => spec_pzGood.f k d (l.map conv)) (pzGood_ev d _ hlen) (Ev.val rfl)) (Ev.bind ht (Ev.vbind (isPuzzle_f d _ hlen) (Ev.neg (by simp) (Ev.bind ht (Ev.bind (eqPuzzle_ev hlen) (Ev.pos rfl (Ev.val rfl))))))))
end Go.Proofs.Ytkndnkmhlebebaa.Pure
