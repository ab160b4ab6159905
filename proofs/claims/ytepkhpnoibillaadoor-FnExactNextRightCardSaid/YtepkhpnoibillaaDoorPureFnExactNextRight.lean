/- It is proved that the law FnExactNextRight, as a plain function, returns true: the program and the reference tell the same next right number. No condition. -/
import Derived.Test.YtepkhpnoibillaaDoorPAx3
import Derived.Test.YtepkhpnoibillaaDoorMFnExactNextRight
namespace Go.Proofs.YtepkhpnoibillaaDoor.Pure
open Go.RowKit Go.Proofs.YtepkhpnoibillaaDoor.PA Go.Proofs.YtepkhpnoibillaaDoorW.PrintWords Go.Proofs.YtepkhpnoibillaaDoorW.PrintLast
/-- THE ONE PURE STATEMENT of the law. -/
def laws_FnExactNextRight.Said : Prop := ∀ (a0 : S24) (a1 : ByteArray), (((Lit.int .i64 a0.f0).wf = true) ∧ (a0.f1.length ≤ maxLen ∧ ∀ y ∈ a0.f1, (Lit.int .i64 y).wf = true)) → (a1.size ≤ maxLen) → ∃ k, laws_FnExactNextRight.f k (a0.f0) (a0.f1) a1 = some true
theorem FnExactNextRight : laws_FnExactNextRight.Said := by
  intro p s ⟨_, hl, _⟩ _
  refine Ev.rounds ?_
  generalize p.f0 = m
  generalize p.f1 = l at hl ⊢
  obtain ⟨v, hv, hc⟩ := szScheme_f (m := m) hl
  unfold laws_FnExactNextRight.f
  refine Ev.ite (fun _ => Ev.val rfl) (fun h2 => Ev.vbind hv ?_)
  rcases hc with hc | hc
  · exact Ev.pos hc (Ev.val rfl)
  · refine Ev.ite (fun _ => Ev.val rfl) (fun _ => ?_)
    have ht := toScheme_ev (m := m) hc
    obtain ⟨⟨r1, r2⟩, hr, hq⟩ := next_key m l s hc (by omega)
    refine Ev.bind ht (Ev.bind hr (Ev.bind ht (Ev.bind hq (Ev.pos rfl (Ev.neg (by simp) (Ev.bind ht (Ev.bind (eqScheme_ev hc) (Ev.pos rfl (Ev.val rfl)))))))))
end Go.Proofs.YtepkhpnoibillaaDoor.Pure
