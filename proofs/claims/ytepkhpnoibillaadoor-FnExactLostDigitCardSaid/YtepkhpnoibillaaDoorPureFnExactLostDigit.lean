/- It is proved that the law FnExactLostDigit, as a plain function, returns true: the program and the reference find the same lost digits. No condition. -/
import Derived.Test.YtepkhpnoibillaaDoorPAx3
import Derived.Test.YtepkhpnoibillaaDoorPAx8
import Derived.Test.YtepkhpnoibillaaDoorMFnExactLostDigit
namespace Go.Proofs.YtepkhpnoibillaaDoor.Pure
open Go.RowKit Go.Proofs.YtepkhpnoibillaaDoor.PA Go.Proofs.YtepkhpnoibillaaDoorW.PrintWords Go.Proofs.YtepkhpnoibillaaDoorW.PrintLast
/-- THE ONE PURE STATEMENT of the law. -/
def laws_FnExactLostDigit.Said : Prop := ∀ (a0 : S24) (a1 : ByteArray), (((Lit.int .i64 a0.f0).wf = true) ∧ (a0.f1.length ≤ maxLen ∧ ∀ y ∈ a0.f1, (Lit.int .i64 y).wf = true)) → (a1.size ≤ maxLen) → ∃ k, laws_FnExactLostDigit.f k (a0.f0) (a0.f1) a1 = some true
theorem FnExactLostDigit : laws_FnExactLostDigit.Said := by
  intro p s ⟨_, hl, _⟩ _
  refine Ev.rounds ?_
  generalize p.f0 = m
  generalize p.f1 = l at hl ⊢
  obtain ⟨v, hv, hc⟩ := szScheme_f (m := m) hl
  unfold laws_FnExactLostDigit.f
  refine Ev.ite (fun _ => Ev.val rfl) (fun h2 => Ev.vbind hv ?_)
  rcases hc with hc | hc
  · exact Ev.pos hc (Ev.val rfl)
  · refine Ev.ite (fun _ => Ev.val rfl) (fun _ => ?_)
    have ht := toScheme_ev (m := m) hc
    obtain ⟨⟨r1, r2⟩, hr, hq, hz⟩ := lostDigit_key m l s hc (by omega)
    simp only at hz
    have he : Ev (fun k => laws_eqStringS.f k r1 r1) true := Ev.eq (eqStringS_ev (by omega)) (by simp)
    have hms : Ev (fun k => laws_markScheme.f k m l 1) (((1 + l.length : Nat) : Int), marksI 1 l.length) := by
      unfold laws_markScheme.f
      exact Ev.bind (markIntS_ev l 1 (by omega)) (Ev.val rfl)
    have hm := markStringS_ev r1 1 (by omega)
    have hh := heldStringS_ev 1 r1.length (by omega)
    have j2 : Ev (fun k => laws_FnExactLostDigit.j2 k (marksT 1 r1.length) ((1 + r1.length : Nat) : Int) false) true := by
      refine Ev.step (fun k => by rw [laws_FnExactLostDigit.j2]) ?_
      exact Ev.neg (by simp) (Ev.bind hh (Ev.neg (by omega) (Ev.pos rfl (Ev.val rfl))))
    have j1 : Ev (fun k => laws_FnExactLostDigit.j1 k s r1 r2 r1 false m l) true := by
      refine Ev.step (fun k => by rw [laws_FnExactLostDigit.j1]) ?_
      refine Ev.neg (by simp) (Ev.bind hm (Ev.bind hh (Ev.neg (by omega) (Ev.pos rfl (Ev.bind ht (Ev.bind hq (Ev.bind he (Ev.pos rfl ?_))))))))
      rw [bne_self_eq_false]
      exact j2
    have j0 : Ev (fun k => laws_FnExactLostDigit.j0 k s r1 r2 r1 r2 false m l m l) true := by
      refine Ev.step (fun k => by rw [laws_FnExactLostDigit.j0]) ?_
      refine Ev.neg (by simp) (Ev.bind ht (Ev.bind (eqScheme_ev hc) (Ev.pos rfl (Ev.bind hms (Ev.neg (by omega) (Ev.bind he (Ev.pos rfl ?_)))))))
      rw [bne_self_eq_false]
      exact j1
    refine Ev.bind ht (Ev.bind hr (Ev.bind ht (Ev.bind hq (Ev.bind he (Ev.pos rfl ?_)))))
    rw [bne_self_eq_false]
    exact j0
end Go.Proofs.YtepkhpnoibillaaDoor.Pure
