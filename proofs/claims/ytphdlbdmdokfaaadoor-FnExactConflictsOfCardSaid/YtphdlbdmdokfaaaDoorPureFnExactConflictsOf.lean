/- It is proved that the law FnExactConflictsOf, as a plain function, returns true: the program and the reference list the same conflicts of codes. No condition. -/
import Derived.Test.YtphdlbdmdokfaaaDoorPAx1
import Derived.Test.YtphdlbdmdokfaaaDoorPAx2
import Derived.Test.YtphdlbdmdokfaaaDoorPAx3
import Derived.Test.YtphdlbdmdokfaaaDoorMFnExactConflictsOf
namespace Go.Proofs.YtphdlbdmdokfaaaDoor.Pure
open Go.RowKit Go.Proofs.YtphdlbdmdokfaaaDoor.PA Go.Proofs.YtphdlbdmdokfaaaDoorW.PrintWords Go.Proofs.YtphdlbdmdokfaaaDoorW.PrintLast Go.Proofs.YtphdlbdmdokfaaaDoorW.PrintMore
/-- THE ONE PURE STATEMENT of the law. -/
def laws_FnExactConflictsOf.Said : Prop := ∀ (a0 : List ByteArray), (a0.length ≤ maxLen ∧ ∀ y ∈ a0, y.size ≤ maxLen) → ∃ k, laws_FnExactConflictsOf.f k a0 = some true
theorem rowC_facts (l : List ByteArray) (i : Nat) (a : ByteArray) : ∀ (q k : Nat), (rowC l i a q k).length ≤ q ∧ totSS (rowC l i a q k) = 2 * (rowC l i a q k).length ∧ ∀ x ∈ rowC l i a q k, x.length = 2
  | 0, _ => by simp [rowC, totSS]
  | q + 1, k => by
    obtain ⟨h1, h2, h3⟩ := rowC_facts l i a q (k + 1)
    unfold rowC
    split
    · exact ⟨by simp; omega, by simpa using h2, by simpa using h3⟩
    · split
      · refine ⟨by simp; omega, by simp [totSS, h2]; omega, ?_⟩
        intro x hx
        rcases List.mem_append.mp hx with h | h
        · simp at h; subst h; rfl
        · exact h3 x h
      · exact ⟨by simp; omega, by simpa using h2, by simpa using h3⟩
theorem tot_append : ∀ (a b : List (List Int)), totSS (a ++ b) = totSS a + totSS b
  | [], b => by simp [totSS]
  | x :: xs, b => by simp only [List.cons_append, totSS, tot_append xs b]; omega
theorem confC_facts (l : List ByteArray) : ∀ (q i : Nat), (confC l q i).length ≤ l.length * q ∧ totSS (confC l q i) = 2 * (confC l q i).length ∧ ∀ x ∈ confC l q i, x.length = 2
  | 0, _ => by simp [confC, totSS]
  | q + 1, i => by
    obtain ⟨h1, h2, h3⟩ := confC_facts l q (i + 1)
    obtain ⟨g1, g2, g3⟩ := rowC_facts l i (l.getD i ByteArray.empty) l.length 0
    unfold confC
    refine ⟨by rw [List.length_append, Nat.mul_succ]; omega, by rw [tot_append, h2, g2, List.length_append]; omega, ?_⟩
    intro x hx
    rcases List.mem_append.mp hx with h | h
    · exact g3 x h
    · exact h3 x h
theorem bad_f (l : List ByteArray) (hl : l.length ≤ 1048576) (hs : ∀ y ∈ l, y.size ≤ 1048576) : anyBad.f l = some (!l.all codeB) := by
  unfold anyBad.f
  rw [if_pos (by omega)]
  have h := anyO_pure (fun c => !codeB c) impl_badCode.f l (fun c hc => by
    unfold impl_badCode.f
    rw [isCode_f c (by have := hs c hc; omega)]; rfl)
  rw [h]
  congr 1
  induction l with
  | nil => rfl
  | cons a l ih => simp only [List.any_cons, List.all_cons, Bool.not_and]; rw [ih (by simp at hl; omega) (fun y hy => hs y (List.mem_cons_of_mem _ hy)) (anyO_pure _ _ l (fun c hc => by
      unfold impl_badCode.f
      rw [isCode_f c (by have := hs c (List.mem_cons_of_mem _ hc); omega)]; rfl))]
theorem key (l : List ByteArray) (h1 : l.length ≤ 1048576) (h2 : ∀ y ∈ l, y.size ≤ 1048576) :
    ∃ r b, Ev (fun k => spec_ConflictsOf.f k l) (r, b) ∧ Ev (fun k => impl_ConflictsOf.f k l) (r, b) ∧ r.length ≤ 1000 ∧ totSS r ≤ 2000 ∧ ∀ x ∈ r, x.length ≤ 4611686018427387903 := by
  have hg := plCodes_ev l h1 h2
  have hb := bad_f l h1 h2
  have no : Ev (fun k => impl_ConflictsOf.j0 k l true) (([] : List (List Int)), false) := by
    refine Ev.step (fun k => by rw [impl_ConflictsOf.j0]) ?_
    exact Ev.pos rfl (Ev.val rfl)
  unfold spec_ConflictsOf.f impl_ConflictsOf.f
  cases hn : decide (1 ≤ (l.length : Int)) && decide ((l.length : Int) ≤ 20) with
  | false =>
    rw [hn, Bool.false_and] at hg
    refine ⟨[], false, Ev.bind hg (Ev.neg (by simp) (Ev.val rfl)), Ev.vbind (in_f _ _ _) ?_, by simp, by simp [totSS], by simp⟩
    rw [hn]
    exact Ev.neg (by simp) no
  | true =>
    rw [hn, Bool.true_and] at hg
    have hn' : 1 ≤ l.length ∧ l.length ≤ 20 := by simp at hn; omega
    cases hc : l.all codeB with
    | false =>
      rw [hc] at hg hb
      refine ⟨[], false, Ev.bind hg (Ev.neg (by simp) (Ev.val rfl)), Ev.vbind (in_f _ _ _) ?_, by simp, by simp [totSS], by simp⟩
      rw [hn]
      exact Ev.pos rfl (Ev.vbind hb no)
    | true =>
      rw [hc] at hg hb
      obtain ⟨f1, f2, f3⟩ := confC_facts l l.length 0
      have hm : l.length * l.length ≤ 20 * 20 := Nat.mul_le_mul hn'.2 hn'.2
      have e1 := spec_c0 l hn'.2 l.length 0 [] (by omega) (by simp)
      have e2 := impl_c0 l hn'.2 l.length 0 [] (by omega) (by simp)
      rw [List.nil_append] at e1 e2
      refine ⟨confC l l.length 0, true, Ev.bind hg (Ev.pos rfl e1), Ev.vbind (in_f _ _ _) ?_, by omega, by omega, fun x hx => by rw [f3 x hx]; omega⟩
      rw [hn]
      refine Ev.pos rfl (Ev.vbind hb ?_)
      refine Ev.step (fun k => by rw [impl_ConflictsOf.j0]) ?_
      exact Ev.neg (by simp) e2
theorem FnExactConflictsOf : laws_FnExactConflictsOf.Said := by
  intro l ⟨hl, hs⟩
  refine Ev.rounds ?_
  obtain ⟨v, hv, hc⟩ := szStringS_ev hl hs
  unfold laws_FnExactConflictsOf.f
  refine Ev.bind hv ?_
  rcases hc with hc | ⟨h1, h2⟩
  · exact Ev.pos hc (Ev.val rfl)
  · refine Ev.ite (fun _ => Ev.val rfl) (fun _ => ?_)
    have ht := toStringS_ev (l := l) (by omega)
    obtain ⟨r, b, hr, hi, z1, z2, z3⟩ := key l h1 h2
    have he := eqIntSS_ev (a := r) (by omega) z3
    have hes : Ev (fun k => laws_eqStringS.f k l l) true := Ev.eq (eqStringS_ev (by omega)) (by simp)
    have hms := markStringS_ev l 1 (by omega)
    have hm := markIntSS_ev r 1 (by omega) (by omega)
    have hh := heldIntSS_ev r 1 (by omega) (by omega)
    refine Ev.bind ht (Ev.bind hr (Ev.bind hi (Ev.bind he (Ev.bind hes (Ev.bind hms (Ev.bind hm (Ev.bind hh (Ev.pos ?_ (Ev.val rfl)))))))))
    exact ⟨rfl, rfl, rfl, Int.natCast_nonneg _, Int.natCast_nonneg _, rfl⟩
end Go.Proofs.YtphdlbdmdokfaaaDoor.Pure
