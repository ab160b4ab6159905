/- It is proved that the law FnExactLengthsOf, as a plain function, returns true: the reference's and the program's lengths of a plan's codes are one, in memory of their own. No condition. -/
import Derived.Test.YtphdlbdmdokfaaaDoorPAx1
import Derived.Test.YtphdlbdmdokfaaaDoorPAx6
import Derived.Test.YtphdlbdmdokfaaaDoorPAx14
import Derived.Test.YtphdlbdmdokfaaaDoorMFnExactLengthsOf
namespace Go.Proofs.YtphdlbdmdokfaaaDoor.Pure
open Go.RowKit Go.Proofs.YtphdlbdmdokfaaaDoor.PA Go.Proofs.YtphdlbdmdokfaaaDoorW.PrintWords Go.Proofs.YtphdlbdmdokfaaaDoorW.PrintLast
/-- THE ONE PURE STATEMENT of the law. -/
def laws_FnExactLengthsOf.Said : Prop := ∀ (a0 : List ByteArray), (a0.length ≤ maxLen ∧ ∀ y ∈ a0, y.size ≤ maxLen) → ∃ k, laws_FnExactLengthsOf.f k a0 = some true
theorem FnExactLengthsOf : laws_FnExactLengthsOf.Said := by
  intro l ⟨hl, hs⟩ 
  refine Ev.rounds ?_
  obtain ⟨v, hv, hc⟩ := szStringS_ev hl hs
  unfold laws_FnExactLengthsOf.f
  refine Ev.bind hv ?_
  rcases hc with hc | ⟨h1, h2⟩
  · exact Ev.pos hc (Ev.val rfl)
  · refine Ev.ite (fun _ => Ev.val rfl) (fun _ => ?_)
    have ht := toStringS_ev (l := l) (by omega)
    obtain ⟨⟨r1, r2⟩, hr, hq, hz⟩ := lengthsOf_key l h1 h2
    simp only at hz
    have he : Ev (fun k => laws_eqIntS.f k r1 r1) true := Ev.eq (eqIntS_ev (by omega)) (by simp)
    have hel : Ev (fun k => laws_eqStringS.f k l l) true := Ev.eq (eqStringS_ev (by omega)) (by simp)
    have hm := markIntS_ev r1 1 (by omega)
    have hml := markStringS_ev l 1 (by omega)
    have hh := heldIntS_ev 1 r1.length (by omega)
    have j2 : Ev (fun k => laws_FnExactLengthsOf.j2 k (marksI 1 r1.length) ((1 + r1.length : Nat) : Int) false) true := by
      refine Ev.step (fun k => by rw [laws_FnExactLengthsOf.j2]) ?_
      exact Ev.neg (by simp) (Ev.bind hh (Ev.neg (by omega) (Ev.pos rfl (Ev.val rfl))))
    have j1 : Ev (fun k => laws_FnExactLengthsOf.j1 k l r1 r2 r1 false) true := by
      refine Ev.step (fun k => by rw [laws_FnExactLengthsOf.j1]) ?_
      refine Ev.neg (by simp) (Ev.bind hm (Ev.bind hh (Ev.neg (by omega) (Ev.pos rfl (Ev.bind ht (Ev.bind hq (Ev.bind he (Ev.pos rfl ?_))))))))
      rw [bne_self_eq_false]
      exact j2
    have j0 : Ev (fun k => laws_FnExactLengthsOf.j0 k l r1 r2 l r1 r2 false) true := by
      refine Ev.step (fun k => by rw [laws_FnExactLengthsOf.j0]) ?_
      refine Ev.neg (by simp) (Ev.bind ht (Ev.bind hel (Ev.pos rfl (Ev.bind hml (Ev.neg (by omega) (Ev.bind he (Ev.pos rfl ?_)))))))
      rw [bne_self_eq_false]
      exact j1
    refine Ev.bind ht (Ev.bind hr (Ev.bind ht (Ev.bind hq (Ev.bind he (Ev.pos rfl ?_)))))
    rw [bne_self_eq_false]
    exact j0
end Go.Proofs.YtphdlbdmdokfaaaDoor.Pure
