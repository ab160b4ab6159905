/- It is proved that the law FnExactPartOf, as a plain function, returns true: the program and the reference tell the same part of all numbers. No condition. -/
import Derived.Test.YthhngfnamkebmaaDoorPAx9
import Derived.Test.YthhngfnamkebmaaDoorQPart
namespace Go.Proofs.YthhngfnamkebmaaDoor.Pure
open Go.RowKit Go.Proofs.YthhngfnamkebmaaDoor.PA Go.Proofs.YthhngfnamkebmaaDoorW.PrintWords Go.Proofs.YthhngfnamkebmaaDoorW.PrintLast
/-- THE ONE PURE STATEMENT of the law. -/
def laws_FnExactPartOf.Said : Prop := ∀ (a0 : List ByteArray), (a0.length ≤ maxLen ∧ ∀ y ∈ a0, y.size ≤ maxLen) → ∃ k, laws_FnExactPartOf.f k a0 = some true
theorem key (l : List ByteArray) (h1 : l.length ≤ 1048576) (h2 : ∀ y ∈ l, y.size ≤ 1048576) :
    ∃ r : Int × Int × Bool, Ev (fun k => spec_PartOf.f k l) r ∧ Ev (fun k => impl_PartOf.f k l) r := by
  have hg := plGood_ev l h1 h2
  have hi := isCodePlan_ev l h1 h2
  unfold spec_PartOf.f impl_PartOf.f
  cases g : goodB l with
  | false =>
    rw [g] at hg hi
    exact ⟨(0, 0, false), Ev.bind hg (Ev.neg (by simp) (Ev.val rfl)), Ev.bind hi (Ev.neg (by simp) (Ev.val rfl))⟩
  | true =>
    rw [g] at hg hi
    have hn := good_len g
    have hc : ∀ y ∈ l, y.size ≤ 6 := fun y hy => (code_size (good_code g hy)).2
    have hp := partV_le (l := l) l.length (Nat.le_refl _)
    rw [List.take_of_length_le (Nat.le_refl _)] at hp
    obtain ⟨m, hm⟩ := Int.eq_ofNat_of_zero_le hp.1
    obtain ⟨q, hq⟩ := Int.eq_ofNat_of_zero_le (show 0 ≤ p10 6 by decide)
    have hq0 : 0 < q := by have : 1 ≤ p10 6 := by decide
                           omega
    obtain ⟨v, hv, e1, e2⟩ := euclid (partV l) (p10 6) (q + 1) m q (by omega) (by omega)
    rw [← hm, ← hq] at e1 e2
    refine ⟨(wrap64 (Int.tdiv (partV l) v), wrap64 (Int.tdiv (p10 6) v), true), Ev.bind hg (Ev.pos rfl (Ev.bind (plPart_ev l hn.2 hc) (Ev.bind (plTens_ev 6 (by omega)) e2))), Ev.bind hi (Ev.pos rfl (Ev.bind (power_ev 6 (by omega)) ?_))⟩
    refine partOf_l0 l hn.2 hc (p10 6) _ ?_ l.length 0 (by omega)
    exact Ev.bind (g := fun k => impl_gcd.f k (partV l) (p10 6)) e1 (Ev.neg hv (Ev.val rfl))
theorem FnExactPartOf : laws_FnExactPartOf.Said := by
  intro l ⟨hl, hs⟩
  refine Ev.rounds ?_
  obtain ⟨v, hv, hc⟩ := szStringS_ev hl hs
  unfold laws_FnExactPartOf.f
  refine Ev.bind hv ?_
  rcases hc with hc | ⟨h1, h2⟩
  · exact Ev.pos hc (Ev.val rfl)
  · refine Ev.ite (fun _ => Ev.val rfl) (fun _ => ?_)
    have ht := toStringS_ev (l := l) (by omega)
    obtain ⟨r, hr, hq⟩ := key l h1 h2
    refine Ev.bind ht (Ev.bind hr (Ev.bind ht (Ev.bind hq (Ev.pos rfl (Ev.pos rfl ?_)))))
    refine Ev.step (fun k => by rw [laws_FnExactPartOf.j0]) ?_
    exact Ev.neg (by simp) (Ev.bind ht (Ev.bind (eqStringS_ev (by omega)) (Ev.pos (by simp) (Ev.val rfl))))
end Go.Proofs.YthhngfnamkebmaaDoor.Pure
