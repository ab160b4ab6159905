/- It is proved that the law FnExactMissedSwaps, as a plain function, returns true: the program and the reference tell the same missed swaps. No condition. -/
import Derived.Test.YtepkhpnoibillaaPAx1
import Derived.Test.YtepkhpnoibillaaPAx2
import Derived.Test.YtepkhpnoibillaaPAx3
import Derived.Test.YtepkhpnoibillaaMFnExactMissedSwaps
namespace Go.Proofs.Ytepkhpnoibillaa.Pure
open Go.RowKit Go.Proofs.Ytepkhpnoibillaa.PA Go.Proofs.YtepkhpnoibillaaW.PrintWords Go.Proofs.YtepkhpnoibillaaW.PrintLast Go.Proofs.YtepkhpnoibillaaW.PrintMore
/-- THE ONE PURE STATEMENT of the law. -/
def laws_FnExactMissedSwaps.Said : Prop := ∀ (a0 : S24) (a1 : Int), (((Lit.int .i64 a0.f0).wf = true) ∧ (a0.f1.length ≤ maxLen ∧ ∀ y ∈ a0.f1, (Lit.int .i64 y).wf = true)) → ((Lit.int .i64 a1).wf = true) → ∃ k, laws_FnExactMissedSwaps.f k (a0.f0) (a0.f1) a1 = some true
theorem FnExactMissedSwaps : laws_FnExactMissedSwaps.Said := by
  intro p s ⟨_, hl, _⟩ _
  refine Ev.rounds ?_
  generalize p.f0 = m
  generalize p.f1 = l at hl ⊢
  obtain ⟨v, hv, hc⟩ := szScheme_f (m := m) hl
  unfold laws_FnExactMissedSwaps.f
  refine Ev.vbind hv ?_
  rcases hc with hc | hc
  · exact Ev.pos hc (Ev.val rfl)
  · refine Ev.ite (fun _ => Ev.val rfl) (fun _ => ?_)
    have ht := toScheme_ev (m := m) hc
    have key : ∃ r b, Ev (fun k => spec_MissedSwaps.f k m l s) (r, b) ∧ impl_MissedSwaps.f m l s = some (r, b) ∧ r.length ≤ 1000 ∧ totSS r ≤ 2000 ∧ ∀ x ∈ r, x.length ≤ 4611686018427387903 := by
      have hg := ckGood_ev m l hc
      have hg2 := isScheme_f m l hc
      unfold spec_MissedSwaps.f impl_MissedSwaps.f
      rw [hg2]
      cases hb : schB m l
      · exact ⟨[], false, Ev.bind (Ev.eq hg hb) (Ev.neg (by simp) (Ev.val rfl)), rfl, by simp, by simp [totSS], by simp⟩
      · obtain ⟨s1, s2, s3, s4, s5⟩ := sch_facts hb
        have hw : wrap64 ((l.length : Int) - 2) = (l.length : Int) - 2 := wrap_in (by omega) (by omega)
        rw [hw]
        simp only [Option.bind_some, if_true, if_pos hc]
        by_cases hp : 0 ≤ s ∧ s ≤ (l.length : Int) - 2
        · have hs1 : wrap64 (s + 1) = s + 1 := wrap_in (by omega) (by omega)
          obtain ⟨t, ht1, ht2⟩ := abs_ex (wrap64 (rd l s - rd l (s + 1)))
          obtain ⟨f1, f2, f3⟩ := pairsP_facts (missP m t) 10 0
          refine ⟨pairsP (missP m t) 10 0, true, ?_, ?_, by omega, by omega, fun x hx => by rw [f3 x hx]; omega⟩
          · refine Ev.bind (Ev.eq hg hb) (Ev.pos rfl ?_)
            refine Ev.vbind (show spec_l1In.f s 0 ((l.length : Int) - 2) = some true by unfold spec_l1In.f; rw [if_pos (by omega)]; simp; omega) (Ev.pos rfl ?_)
            rw [hs1]
            refine Ev.pos (by omega) (Ev.pos (by omega) (Ev.pos (by omega) (Ev.pos (by omega) ?_)))
            exact Ev.bind (ckMissed_ev (by omega) ht1) (Ev.val rfl)
          · rw [if_pos hp, if_neg (by omega), ht2]; rfl
        · refine ⟨[], false, ?_, by rw [if_neg hp], by simp, by simp [totSS], by simp⟩
          refine Ev.bind (Ev.eq hg hb) (Ev.pos rfl ?_)
          refine Ev.vbind (show spec_l1In.f s 0 ((l.length : Int) - 2) = some false by
            unfold spec_l1In.f
            by_cases h0 : s ≥ 0
            · rw [if_pos h0]; simp; omega
            · rw [if_neg h0]) (Ev.neg (by simp) (Ev.val rfl))
    obtain ⟨r, b, hr, hi, h1, h2, h3⟩ := key
    have he := eqIntSS_ev (a := r) (by omega) h3
    have hms : Ev (fun k => laws_markScheme.f k m l 1) (((1 + l.length : Nat) : Int), marksI 1 l.length) := by
      unfold laws_markScheme.f
      exact Ev.bind (markIntS_ev l 1 (by omega)) (Ev.val rfl)
    have hm := markIntSS_ev r 1 (by omega) (by omega)
    have hh := heldIntSS_ev r 1 (by omega) (by omega)
    refine Ev.bind ht (Ev.bind hr (Ev.vbind hi (Ev.bind he (Ev.bind (eqScheme_ev hc) (Ev.bind hms (Ev.bind hm (Ev.bind hh (Ev.pos ?_ (Ev.val rfl)))))))))
    exact ⟨rfl, rfl, rfl, Int.natCast_nonneg _, Int.natCast_nonneg _, rfl⟩
end Go.Proofs.Ytepkhpnoibillaa.Pure
