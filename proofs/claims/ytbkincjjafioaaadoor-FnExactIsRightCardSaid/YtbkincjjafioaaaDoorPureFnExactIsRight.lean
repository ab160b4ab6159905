/- It is proved that the law FnExactIsRight, as a plain function, returns true: the program calls the same numbers right as the reference. No condition. -/
import Derived.Test.YtbkincjjafioaaaDoorPAx17
import Derived.Test.YtbkincjjafioaaaDoorQSum
namespace Go.Proofs.YtbkincjjafioaaaDoor.Pure
open Go.RowKit Go.Proofs.YtbkincjjafioaaaDoor.PA Go.Proofs.YtbkincjjafioaaaDoorW.PrintWords Go.Proofs.YtbkincjjafioaaaDoorW.PrintLast
/-- THE ONE PURE STATEMENT of the law. -/
def laws_FnExactIsRight.Said : Prop := ∀ (a0 : S31) (a1 : ByteArray), (((Lit.int .i64 a0.f0).wf = true) ∧ (a0.f1.length ≤ maxLen ∧ ∀ y ∈ a0.f1, (Lit.int .i64 y).wf = true)) → (a1.size ≤ maxLen) → ∃ k, laws_FnExactIsRight.f k (a0.f0) (a0.f1) a1 = some true
theorem key (m : Int) (l : List Int) (s : ByteArray) (h1 : l.length ≤ 1048576) (h2 : s.size ≤ 1048576) :
    ∃ r : Bool × Bool, Ev (fun k => spec_IsRight.f k m l s) r ∧ Ev (fun k => impl_IsRight.f k m l s) r := by
  obtain ⟨b, hb, hq, hf⟩ := number_ev m l s h1 h2
  unfold spec_IsRight.f impl_IsRight.f
  cases b with
  | false => exact ⟨(false, false), Ev.bind hb (Ev.neg (by simp) (Ev.val rfl)), Ev.vbind hq (Ev.neg (by simp) (Ev.val rfl))⟩
  | true =>
    obtain ⟨g, hz⟩ := hf rfl
    obtain ⟨m0, m1, l0, l1, hw⟩ := sch_facts g
    obtain ⟨v, c, v0, v1, c0, c1, e1, e2, e3⟩ := whole_ev m l s l1 hw hz
    have hj : wrap64 ((s.size : Int) - 1) = (l.length : Int) := by rw [wrap_in (by omega) (by omega)]; omega
    refine ⟨(Int.tmod (v + c) m == 0, true), Ev.bind hb (Ev.pos rfl (Ev.bind (a := Int.tmod (v + c) m == 0) ?_ (Ev.val rfl))), Ev.vbind hq (Ev.pos rfl (Ev.bind e3 (Ev.neg (by omega) (Ev.pos rfl (Ev.val rfl)))))⟩
    unfold spec_ckRight.f
    refine Ev.bind e1 ?_
    rw [hj]
    refine Ev.pos (by omega) (Ev.pos (by omega) (Ev.bind e2 (Ev.neg (by omega) (Ev.val ?_))))
    rw [wrap_in (by omega) (by omega)]
theorem FnExactIsRight : laws_FnExactIsRight.Said := by
  intro p s ⟨_, hl, _⟩ _
  refine Ev.rounds ?_
  generalize p.f0 = m
  generalize p.f1 = l at hl ⊢
  obtain ⟨v, hv, hc⟩ := szScheme_f (m := m) hl
  unfold laws_FnExactIsRight.f
  refine Ev.ite (fun _ => Ev.val rfl) (fun h2 => Ev.vbind hv ?_)
  rcases hc with hc | hc
  · exact Ev.pos hc (Ev.val rfl)
  · refine Ev.ite (fun _ => Ev.val rfl) (fun _ => ?_)
    have ht := toScheme_ev (m := m) hc
    obtain ⟨r, hr, hq⟩ := key m l s hc (by omega)
    refine Ev.bind ht (Ev.bind hr (Ev.bind ht (Ev.bind hq (Ev.neg (by simp) ?_))))
    refine Ev.step (fun k => by rw [laws_FnExactIsRight.j0]) ?_
    exact Ev.neg (by simp) (Ev.bind ht (Ev.bind (eqScheme_ev hc) (Ev.pos rfl (Ev.val rfl))))
end Go.Proofs.YtbkincjjafioaaaDoor.Pure
