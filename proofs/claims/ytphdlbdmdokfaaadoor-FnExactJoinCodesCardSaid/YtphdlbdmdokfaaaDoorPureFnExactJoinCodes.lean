/- It is proved that the law FnExactJoinCodes, as a plain function, returns true: the program and the reference join codes alike, into memory of its own. No condition. -/
import Derived.Test.YtphdlbdmdokfaaaDoorPAx1
import Derived.Test.YtphdlbdmdokfaaaDoorPAx16
import Derived.Test.YtphdlbdmdokfaaaDoorMFnExactJoinCodes
namespace Go.Proofs.YtphdlbdmdokfaaaDoor.Pure
open Go.RowKit Go.Proofs.YtphdlbdmdokfaaaDoor.PA Go.Proofs.YtphdlbdmdokfaaaDoorW.PrintWords Go.Proofs.YtphdlbdmdokfaaaDoorW.PrintLast
/-- THE ONE PURE STATEMENT of the law. -/
def laws_FnExactJoinCodes.Said : Prop := ∀ (a0 : List ByteArray) (a1 : ByteArray), (a0.length ≤ maxLen ∧ ∀ y ∈ a0, y.size ≤ maxLen) → (a1.size ≤ maxLen) → ∃ k, laws_FnExactJoinCodes.f k a0 a1 = some true
theorem FnExactJoinCodes : laws_FnExactJoinCodes.Said := by
  intro l c ⟨hl, hs⟩ _
  refine Ev.rounds ?_
  obtain ⟨v, hv, hc⟩ := szStringS_ev hl hs
  unfold laws_FnExactJoinCodes.f
  refine Ev.ite (fun _ => Ev.val rfl) (fun h_c => ?_)
  refine Ev.bind hv ?_
  rcases hc with hc | ⟨h1, h2⟩
  · exact Ev.pos hc (Ev.val rfl)
  · refine Ev.ite (fun _ => Ev.val rfl) (fun _ => ?_)
    have ht := toStringS_ev (l := l) (by omega)
    obtain ⟨⟨r1, r2⟩, hr, hq, hz⟩ := joinCodes_key l c h1 h2 (by omega)
    simp only at hz
    have he : Ev (fun k => laws_eqStringS.f k r1 r1) true := Ev.eq (eqStringS_ev (by omega)) (by simp)
    have hel : Ev (fun k => laws_eqStringS.f k l l) true := Ev.eq (eqStringS_ev (by omega)) (by simp)
    have hm := markStringS_ev r1 1 (by omega)
    have hml := markStringS_ev l 1 (by omega)
    have hh := heldStringS_ev 1 r1.length (by omega)
    have j2 : Ev (fun k => laws_FnExactJoinCodes.j2 k (marksT 1 r1.length) ((1 + r1.length : Nat) : Int) false) true := by
      refine Ev.step (fun k => by rw [laws_FnExactJoinCodes.j2]) ?_
      exact Ev.neg (by simp) (Ev.bind hh (Ev.neg (by omega) (Ev.pos rfl (Ev.val rfl))))
    have j1 : Ev (fun k => laws_FnExactJoinCodes.j1 k l c r1 r2 r1 false) true := by
      refine Ev.step (fun k => by rw [laws_FnExactJoinCodes.j1]) ?_
      refine Ev.neg (by simp) (Ev.bind hm (Ev.bind hh (Ev.neg (by omega) (Ev.pos rfl (Ev.bind ht (Ev.bind hq (Ev.bind he (Ev.pos rfl ?_))))))))
      rw [bne_self_eq_false]
      exact j2
    have j0 : Ev (fun k => laws_FnExactJoinCodes.j0 k l c r1 r2 l r1 r2 false) true := by
      refine Ev.step (fun k => by rw [laws_FnExactJoinCodes.j0]) ?_
      refine Ev.neg (by simp) (Ev.bind ht (Ev.bind hel (Ev.pos rfl (Ev.bind hml (Ev.neg (by omega) (Ev.bind he (Ev.pos rfl ?_)))))))
      rw [bne_self_eq_false]
      exact j1
    refine Ev.bind ht (Ev.bind hr (Ev.bind ht (Ev.bind hq (Ev.bind he (Ev.pos rfl ?_)))))
    rw [bne_self_eq_false]
    exact j0
end Go.Proofs.YtphdlbdmdokfaaaDoor.Pure
