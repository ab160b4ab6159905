/- It is proved that the law FnExactDoesFit, as a plain function, returns true: the program and the reference say the same of a clue and a number. No condition. -/
import Derived.Test.YtbigdaohimbkaaaGreatDoorPAx5
import Derived.Test.YtbigdaohimbkaaaGreatDoorMFnExactDoesFit
namespace Go.Proofs.YtbigdaohimbkaaaGreatDoor.Pure
open Go.RowKit Go.Proofs.YtbigdaohimbkaaaGreatDoor.PA Go.Proofs.YtbigdaohimbkaaaGreatDoorW.PrintWords Go.Proofs.YtbigdaohimbkaaaGreatDoorW.PrintLast
/-- THE ONE PURE STATEMENT of the law. -/
def laws_FnExactDoesFit.Said : Prop := ∀ (a0 : S23) (a1 : ByteArray), (((Lit.int .i64 a0.f0).wf = true) ∧ ((Lit.int .i64 a0.f1).wf = true) ∧ ((Lit.int .i64 a0.f2).wf = true)) → (a1.size ≤ maxLen) → ∃ k, laws_FnExactDoesFit.f k (a0.f0) (a0.f1) (a0.f2) a1 = some true
theorem clue_some (d a b c : Int) : ∃ v, spec_pzClue.f d a b c = some v := by
  unfold spec_pzClue.f
  simp only [l1In_f, Option.bind_some]
  repeat' split
  all_goals exact ⟨_, rfl⟩
theorem fit_key (k a b : Int) (x : ByteArray) (hs : x.size ≤ 1048576) : ∃ r, Ev (fun n => spec_DoesFit.f n k a b x) r ∧ Ev (fun n => impl_DoesFit.f n k a b x) r := by
  have h1 := pzHidden_ev x (by omega)
  have h2 := isHidden_f x (by omega)
  unfold spec_DoesFit.f impl_DoesFit.f
  cases hx : digitsB x 2 3 with
  | false =>
    rw [hx] at h1 h2
    exact ⟨(false, false), Ev.bind h1 (Ev.neg (by simp) (Ev.val rfl)), Ev.vbind h2 (Ev.neg (by simp) (Ev.val rfl))⟩
  | true =>
    rw [hx] at h1 h2
    obtain ⟨c, hc⟩ := clue_some (x.size : Int) k a b
    have hc2 := (clue_same (x.size : Int) k a b).trans hc
    cases c with
    | false => exact ⟨(false, false), Ev.bind h1 (Ev.pos rfl (Ev.vbind hc (Ev.neg (by simp) (Ev.val rfl)))), Ev.vbind h2 (Ev.pos rfl (Ev.vbind hc2 (Ev.neg (by simp) (Ev.val rfl))))⟩
    | true =>
      have hz : x.size ≤ 3 := by unfold digitsB at hx; simp at hx; omega
      obtain ⟨v, g1, g2⟩ := fits_ev b hx (clue_pair hz hc)
      exact ⟨(v, true), Ev.bind h1 (Ev.pos rfl (Ev.vbind hc (Ev.pos rfl (Ev.bind g1 (Ev.val rfl))))), Ev.vbind h2 (Ev.pos rfl (Ev.vbind hc2 (Ev.pos rfl (Ev.bind g2 (Ev.val rfl)))))⟩
theorem FnExactDoesFit : laws_FnExactDoesFit.Said := by
  intro q x hq _
  refine Ev.rounds ?_
  unfold laws_FnExactDoesFit.f
  refine Ev.ite (fun _ => Ev.val rfl) (fun hn => ?_)
  obtain ⟨r, hr, hi⟩ := fit_key q.f0 q.f1 q.f2 x (by omega)
  refine Ev.vbind rfl (Ev.bind hr (Ev.vbind rfl (Ev.bind hi ?_)))
  refine Ev.neg (by simp) (Ev.neg (by simp) (Ev.val rfl))
end Go.Proofs.YtbigdaohimbkaaaGreatDoor.Pure
