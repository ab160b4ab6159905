/- It is proved that the law FnExactCodePlanText, as a plain function, returns true: the program and the reference write the same text for a plan. No condition. -/
import Derived.Test.YthhngfnamkebmaaDoorPAx14
import Derived.Test.YthhngfnamkebmaaDoorQPlanText
namespace Go.Proofs.YthhngfnamkebmaaDoor.Pure
open Go.RowKit Go.Proofs.YthhngfnamkebmaaDoor.PA Go.Proofs.YthhngfnamkebmaaDoorW.PrintWords Go.Proofs.YthhngfnamkebmaaDoorW.PrintLast
/-- THE ONE PURE STATEMENT of the law. -/
def laws_FnExactCodePlanText.Said : Prop := ∀ (a0 : List ByteArray), (a0.length ≤ maxLen ∧ ∀ y ∈ a0, y.size ≤ maxLen) → ∃ k, laws_FnExactCodePlanText.f k a0 = some true
theorem key (l : List ByteArray) (h1 : l.length ≤ 1048576) (h2 : ∀ y ∈ l, y.size ≤ 1048576) :
    ∃ r : ByteArray × Bool, Ev (fun k => spec_CodePlanText.f k l) r ∧ Ev (fun k => impl_CodePlanText.f k l) r := by
  have hg := plGood_ev l h1 h2
  have hi := isCodePlan_ev l h1 h2
  unfold spec_CodePlanText.f impl_CodePlanText.f
  cases g : goodB l with
  | false =>
    rw [g] at hg hi
    exact ⟨(⟨#[]⟩, false), Ev.bind hg (Ev.neg (by simp) (Ev.val rfl)), Ev.bind hi (Ev.neg (by simp) (Ev.val rfl))⟩
  | true =>
    rw [g] at hg hi
    have hn := good_len g
    have hc : ∀ y ∈ l, y.size ≤ 6 := fun y hy => (code_size (good_code g hy)).2
    have hz := comma_size l hc l.length (Nat.le_refl _)
    rw [List.take_of_length_le (Nat.le_refl _)] at hz
    have hj : strings_Join.f l (⟨#[44]⟩ : ByteArray) = some (commaT l) := by
      unfold strings_Join.f
      have hz' : (Lib.join (l.map (·.data.toList)) [44]).length ≤ 7 * l.length := hz
      rw [if_pos ⟨by show (Lib.join _ [44]).length ≤ _; omega, by omega⟩]; rfl
    exact ⟨(commaT l, true), Ev.bind hg (Ev.pos rfl (Ev.bind (plText_ev l hn.2 hc) (Ev.val rfl))), Ev.bind hi (Ev.pos rfl (Ev.vbind hj (Ev.val rfl)))⟩
theorem FnExactCodePlanText : laws_FnExactCodePlanText.Said := by
  intro l ⟨hl, hs⟩
  refine Ev.rounds ?_
  obtain ⟨v, hv, hc⟩ := szStringS_ev hl hs
  unfold laws_FnExactCodePlanText.f
  refine Ev.bind hv ?_
  rcases hc with hc | ⟨h1, h2⟩
  · exact Ev.pos hc (Ev.val rfl)
  · refine Ev.ite (fun _ => Ev.val rfl) (fun _ => ?_)
    have ht := toStringS_ev (l := l) (by omega)
    obtain ⟨r, hr, hq⟩ := key l h1 h2
    refine Ev.bind ht (Ev.bind hr (Ev.bind ht (Ev.bind hq (Ev.pos rfl ?_))))
    refine Ev.step (fun k => by rw [laws_FnExactCodePlanText.j0]) ?_
    exact Ev.neg (by simp) (Ev.bind ht (Ev.bind (eqStringS_ev (by omega)) (Ev.pos (by simp) (Ev.val rfl))))
end Go.Proofs.YthhngfnamkebmaaDoor.Pure
