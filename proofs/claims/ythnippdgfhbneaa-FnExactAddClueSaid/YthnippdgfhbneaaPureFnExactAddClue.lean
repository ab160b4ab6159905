/- It is proved that the law FnExactAddClue, as a plain function, returns true: the program and the reference add the same clue, and what they return is nobody else's. No condition. -/
import Derived.Test.YthnippdgfhbneaaPAx1
import Derived.Test.YthnippdgfhbneaaPAx3
import Derived.Test.YthnippdgfhbneaaPAx4
import Derived.Test.YthnippdgfhbneaaMFnExactAddClue
namespace Go.Proofs.Ythnippdgfhbneaa.Pure
open Go.RowKit Go.Proofs.Ythnippdgfhbneaa.PA Go.Proofs.YthnippdgfhbneaaW.PrintWords Go.Proofs.YthnippdgfhbneaaW.PrintLast
/-- THE ONE PURE STATEMENT of the law. -/
def laws_FnExactAddClue.Said : Prop := ∀ (a0 : S24) (a1 : S26), (((Lit.int .i64 a0.f0).wf = true) ∧ (a0.f1.length ≤ maxLen ∧ ∀ y ∈ a0.f1, ((Lit.int .i64 y.f0).wf = true) ∧ ((Lit.int .i64 y.f1).wf = true) ∧ ((Lit.int .i64 y.f2).wf = true))) → (((Lit.int .i64 a1.f0).wf = true) ∧ ((Lit.int .i64 a1.f1).wf = true) ∧ ((Lit.int .i64 a1.f2).wf = true)) → ∃ k, laws_FnExactAddClue.f k (a0.f0) (a0.f1) (a1.f0) (a1.f1) (a1.f2) = some true
theorem FnExactAddClue : laws_FnExactAddClue.Said := by
  intro p q ⟨_, hl, _⟩ _
  refine Ev.rounds ?_
  generalize p.f0 = m
  generalize p.f1 = l at hl ⊢
  obtain ⟨v, hv, hc⟩ := szPuzzle_f (d := m) hl
  unfold laws_FnExactAddClue.f
  refine Ev.vbind hv (Ev.ite (fun _ => Ev.val rfl) (fun hn => ?_))
  have hc : l.length ≤ 1048576 := hc.resolve_left hn
  have ht := toPuzzle_ev (d := m) hc
  have hlc : (l.map conv).length ≤ 1048576 := by simpa using hc
  have hcl : laws_toClue.f q.f0 q.f1 q.f2 = some (q.f0, q.f1, q.f2) := rfl
  obtain ⟨⟨r0, r1, r2⟩, hr, hq, hz⟩ := addClue_key m (l.map conv) (conv q) hlc
  have hr : Ev (fun k => spec_AddClue.f k m (l.map conv) q.f0 q.f1 q.f2) (r0, r1, r2) := hr
  have hq : impl_AddClue.f m (l.map conv) q.f0 q.f1 q.f2 = some (r0, r1, r2) := hq
  simp only at hz
  have heq := eqPuzzle_ev1 (d := r0) hz
  have hm := markPuzzle_ev m (l.map conv) 1 (by omega)
  have hm2 := markPuzzle_ev r0 r1 1 (by omega)
  have hh := heldPuzzle_ev r0 1 r1.length (by omega)
  have j2 : Ev (fun k => laws_FnExactAddClue.j2 k ((1 + 3 * r1.length : Nat) : Int) false r0 (marksC 1 r1.length)) true := by
    refine Ev.step (fun k => by rw [laws_FnExactAddClue.j2]) ?_
    exact Ev.neg (by simp) (Ev.bind hh (Ev.neg (by omega) (Ev.pos rfl (Ev.val rfl))))
  have j1 : Ev (fun k => laws_FnExactAddClue.j1 k r2 false m l q.f0 q.f1 q.f2 r0 r1 r0 r1) true := by
    refine Ev.step (fun k => by rw [laws_FnExactAddClue.j1]) ?_
    refine Ev.neg (by simp) (Ev.bind hm2 (Ev.bind hh (Ev.neg (by omega) (Ev.pos rfl (Ev.bind ht (Ev.vbind hcl (Ev.vbind hq (Ev.bind heq (Ev.pos rfl ?_)))))))))
    rw [bne_self_eq_false]
    exact j2
  have j0 : Ev (fun k => laws_FnExactAddClue.j0 k r2 r2 false m l q.f0 q.f1 q.f2 r0 r1 m (l.map conv) r0 r1) true := by
    refine Ev.step (fun k => by rw [laws_FnExactAddClue.j0]) ?_
    refine Ev.neg (by simp) (Ev.bind ht (Ev.bind (eqPuzzle_ev hlc) (Ev.pos rfl (Ev.bind hm (Ev.neg (by omega) (Ev.bind heq (Ev.pos rfl ?_)))))))
    rw [bne_self_eq_false]
    exact j1
  refine Ev.bind ht (Ev.vbind hcl (Ev.bind hr (Ev.bind ht (Ev.vbind hcl (Ev.vbind hq (Ev.bind heq (Ev.pos rfl ?_)))))))
  rw [bne_self_eq_false]
  exact j0
end Go.Proofs.Ythnippdgfhbneaa.Pure
