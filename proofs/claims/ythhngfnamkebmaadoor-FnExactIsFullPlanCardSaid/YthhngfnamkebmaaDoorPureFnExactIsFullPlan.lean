/- It is proved that the law FnExactIsFullPlan, as a plain function, returns true: a plan is full just if the parts are the whole, and just if no code of six digits is free. No condition. -/
import Derived.Test.YthhngfnamkebmaaDoorPAx8
import Derived.Test.YthhngfnamkebmaaDoorQFree
namespace Go.Proofs.YthhngfnamkebmaaDoor.Pure
open Go.RowKit Go.Proofs.YthhngfnamkebmaaDoor.PA Go.Proofs.YthhngfnamkebmaaDoorW.PrintWords Go.Proofs.YthhngfnamkebmaaDoorW.PrintLast
/-- THE ONE PURE STATEMENT of the law. -/
def laws_FnExactIsFullPlan.Said : Prop := ∀ (a0 : List ByteArray), (a0.length ≤ maxLen ∧ ∀ y ∈ a0, y.size ≤ maxLen) → ∃ k, laws_FnExactIsFullPlan.f k a0 = some true
theorem key (l : List ByteArray) (h1 : l.length ≤ 1048576) (h2 : ∀ y ∈ l, y.size ≤ 1048576) :
    ∃ r : Bool × Bool, Ev (fun k => spec_IsFullPlan.f k l) r ∧ Ev (fun k => impl_IsFullPlan.f k l) r := by
  have hg := plGood_ev l h1 h2
  have hi := isCodePlan_ev l h1 h2
  unfold spec_IsFullPlan.f impl_IsFullPlan.f
  cases g : goodB l with
  | false =>
    rw [g] at hg hi
    exact ⟨(false, false), Ev.bind hg (Ev.neg (by simp) (Ev.val rfl)), Ev.bind hi (Ev.neg (by simp) (Ev.val rfl))⟩
  | true =>
    rw [g] at hg hi
    have hn := good_len g
    have hc : ∀ y ∈ l, y.size ≤ 6 := fun y hy => (code_size (good_code g hy)).2
    have hp := p10_le 6 (by omega)
    have hf : Ev (fun k => impl_freeCodes.f k l 6) (p10 6 - partV l) := freeCodes_of l hn.2 hc 6 (by omega) _ _ rfl (go_short 6 (by omega) l (p10 6) hn.2 hc (by omega) (by omega))
    refine ⟨(partV l == p10 6, true), Ev.bind hg (Ev.pos rfl (Ev.bind (plPart_ev l hn.2 hc) (Ev.bind (plTens_ev 6 (by omega)) (Ev.val rfl)))), Ev.bind hi (Ev.pos rfl (Ev.bind hf (Ev.val ?_)))⟩
    congr 2
    rw [Bool.eq_iff_iff, beq_iff_eq, beq_iff_eq]
    omega
theorem FnExactIsFullPlan : laws_FnExactIsFullPlan.Said := by
  intro l ⟨hl, hs⟩
  refine Ev.rounds ?_
  obtain ⟨v, hv, hc⟩ := szStringS_ev hl hs
  unfold laws_FnExactIsFullPlan.f
  refine Ev.bind hv ?_
  rcases hc with hc | ⟨h1, h2⟩
  · exact Ev.pos hc (Ev.val rfl)
  · refine Ev.ite (fun _ => Ev.val rfl) (fun _ => ?_)
    have ht := toStringS_ev (l := l) (by omega)
    obtain ⟨r, hr, hq⟩ := key l h1 h2
    refine Ev.bind ht (Ev.bind hr (Ev.bind ht (Ev.bind hq (Ev.neg (by simp) ?_))))
    refine Ev.step (fun k => by rw [laws_FnExactIsFullPlan.j0]) ?_
    exact Ev.neg (by simp) (Ev.bind ht (Ev.bind (eqStringS_ev (by omega)) (Ev.pos (by simp) (Ev.val rfl))))
end Go.Proofs.YthhngfnamkebmaaDoor.Pure
