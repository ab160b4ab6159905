/- It is proved that the law FnExactParseScheme, as a plain function, returns true: the program and the reference read the same schemes out of texts. No condition. -/
import Derived.Test.YtepkhpnoibillaaDoorPAx3
import Derived.Test.YtepkhpnoibillaaDoorPAx13
import Derived.Test.YtepkhpnoibillaaDoorMFnExactParseScheme
namespace Go.Proofs.YtepkhpnoibillaaDoor.Pure
open Go.RowKit Go.Proofs.YtepkhpnoibillaaDoor.PA Go.Proofs.YtepkhpnoibillaaDoorW.PrintWords Go.Proofs.YtepkhpnoibillaaDoorW.PrintLast
/-- THE ONE PURE STATEMENT of the law. -/
def laws_FnExactParseScheme.Said : Prop := ∀ (a0 : ByteArray), (a0.size ≤ maxLen) → ∃ k, laws_FnExactParseScheme.f k a0 = some true
theorem FnExactParseScheme : laws_FnExactParseScheme.Said := by
  intro t _
  refine Ev.rounds ?_
  unfold laws_FnExactParseScheme.f
  refine Ev.ite (fun _ => Ev.val rfl) (fun ht => ?_)
  obtain ⟨m, l, b, hs, hi, hl⟩ := parseScheme_key t (by omega)
  have he := eqScheme_ev (m := m) hl
  have hms : Ev (fun k => laws_markScheme.f k m l 1) (((1 + l.length : Nat) : Int), marksI 1 l.length) := by
    unfold laws_markScheme.f
    exact Ev.bind (markIntS_ev l 1 (by omega)) (Ev.val rfl)
  have hh : Ev (fun k => laws_heldScheme.f k m (marksI 1 l.length) 1) ((1 + l.length : Nat) : Int) := by
    unfold laws_heldScheme.f
    exact Ev.bind (heldIntS_ev 1 l.length (by omega)) (Ev.val rfl)
  have j1 : Ev (fun k => laws_FnExactParseScheme.j1 k ((1 + l.length : Nat) : Int) false m (marksI 1 l.length)) true := by
    refine Ev.step (fun k => by rw [laws_FnExactParseScheme.j1]) ?_
    exact Ev.neg (by simp) (Ev.bind hh (Ev.neg (by omega) (Ev.pos rfl (Ev.val rfl))))
  have j0 : Ev (fun k => laws_FnExactParseScheme.j0 k t b false m l m l) true := by
    refine Ev.step (fun k => by rw [laws_FnExactParseScheme.j0]) ?_
    refine Ev.neg (by simp) (Ev.bind hms (Ev.bind hh (Ev.neg (by omega) (Ev.pos rfl (Ev.bind hi (Ev.bind he (Ev.pos rfl ?_)))))))
    rw [bne_self_eq_false]
    exact j1
  refine Ev.bind hs (Ev.bind hi (Ev.bind he (Ev.pos rfl ?_)))
  rw [bne_self_eq_false]
  exact j0
end Go.Proofs.YtepkhpnoibillaaDoor.Pure
