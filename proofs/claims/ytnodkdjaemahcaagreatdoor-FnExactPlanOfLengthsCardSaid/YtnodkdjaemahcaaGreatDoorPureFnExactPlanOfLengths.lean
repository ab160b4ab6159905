/- It is proved that the law FnExactPlanOfLengths, as a plain function, returns true: the reference's and the program's plan of some lengths are one, in memory of its own. No condition. -/
import Derived.Test.YtnodkdjaemahcaaGreatDoorPAx3
import Derived.Test.YtnodkdjaemahcaaGreatDoorPAx4
import Derived.Test.YtnodkdjaemahcaaGreatDoorMFnExactPlanOfLengths
namespace Go.Proofs.YtnodkdjaemahcaaGreatDoor.Pure
open Go.RowKit Go.Proofs.YtnodkdjaemahcaaGreatDoor.PA Go.Proofs.YtnodkdjaemahcaaGreatDoorW.PrintWords Go.Proofs.YtnodkdjaemahcaaGreatDoorW.PrintLast
/-- THE ONE PURE STATEMENT of the law. -/
def laws_FnExactPlanOfLengths.Said : Prop := ∀ (a0 : List Int), (a0.length ≤ maxLen ∧ ∀ y ∈ a0, (Lit.int .i64 y).wf = true) → ∃ k, laws_FnExactPlanOfLengths.f k a0 = some true
theorem FnExactPlanOfLengths : laws_FnExactPlanOfLengths.Said := by
  intro l ⟨hl, _⟩
  refine Ev.rounds ?_
  unfold laws_FnExactPlanOfLengths.f
  refine Ev.ite (fun _ => Ev.val rfl) (fun h1 => ?_)
  have ht := toIntS_ev (l := l) (by omega)
  obtain ⟨⟨r1, r2⟩, hr, hq, hz⟩ := planOfLengths_key l (by omega)
  simp only at hz
  have he : Ev (fun k => laws_eqStringS.f k r1 r1) true := Ev.eq (eqStringS_ev (by omega)) (by simp)
  have hel : Ev (fun k => laws_eqIntS.f k l l) true := Ev.eq (eqIntS_ev (by omega)) (by simp)
  have hm := markStringS_ev r1 1 (by omega)
  have hml := markIntS_ev l 1 (by omega)
  have hh := heldStringS_ev 1 r1.length (by omega)
  have j2 : Ev (fun k => laws_FnExactPlanOfLengths.j2 k (marksT 1 r1.length) ((1 + r1.length : Nat) : Int) false) true := by
    refine Ev.step (fun k => by rw [laws_FnExactPlanOfLengths.j2]) ?_
    exact Ev.neg (by simp) (Ev.bind hh (Ev.neg (by omega) (Ev.pos rfl (Ev.val rfl))))
  have j1 : Ev (fun k => laws_FnExactPlanOfLengths.j1 k l r1 r2 r1 false) true := by
    refine Ev.step (fun k => by rw [laws_FnExactPlanOfLengths.j1]) ?_
    refine Ev.neg (by simp) (Ev.bind hm (Ev.bind hh (Ev.neg (by omega) (Ev.pos rfl (Ev.bind ht (Ev.bind hq (Ev.bind he (Ev.pos rfl ?_))))))))
    rw [bne_self_eq_false]
    exact j2
  have j0 : Ev (fun k => laws_FnExactPlanOfLengths.j0 k l r1 r2 l r1 r2 false) true := by
    refine Ev.step (fun k => by rw [laws_FnExactPlanOfLengths.j0]) ?_
    refine Ev.neg (by simp) (Ev.bind ht (Ev.bind hel (Ev.pos rfl (Ev.bind hml (Ev.neg (by omega) (Ev.bind he (Ev.pos rfl ?_)))))))
    rw [bne_self_eq_false]
    exact j1
  refine Ev.bind ht (Ev.bind hr (Ev.bind ht (Ev.bind hq (Ev.bind he (Ev.pos rfl ?_)))))
  rw [bne_self_eq_false]
  exact j0
end Go.Proofs.YtnodkdjaemahcaaGreatDoor.Pure
