/- It is proved that the law FnExactCountFreeCodes, as a plain function, returns true: the program and the reference count the same free codes. No condition. -/
import Derived.Test.YthhngfnamkebmaaDoorPAx16
import Derived.Test.YthhngfnamkebmaaDoorQFree
namespace Go.Proofs.YthhngfnamkebmaaDoor.Pure
open Go.RowKit Go.Proofs.YthhngfnamkebmaaDoor.PA Go.Proofs.YthhngfnamkebmaaDoorW.PrintWords Go.Proofs.YthhngfnamkebmaaDoorW.PrintLast
/-- THE ONE PURE STATEMENT of the law. -/
def laws_FnExactCountFreeCodes.Said : Prop := ∀ (a0 : List ByteArray) (a1 : Int), (a0.length ≤ maxLen ∧ ∀ y ∈ a0, y.size ≤ maxLen) → ((Lit.int .i64 a1).wf = true) → ∃ k, laws_FnExactCountFreeCodes.f k a0 a1 = some true
theorem key (l : List ByteArray) (n : Int) (h1 : l.length ≤ 1048576) (h2 : ∀ y ∈ l, y.size ≤ 1048576) :
    ∃ r : Int × Bool, Ev (fun k => spec_CountFreeCodes.f k l n) r ∧ Ev (fun k => impl_CountFreeCodes.f k l n) r := by
  have hg := plGood_ev l h1 h2
  have hi := isCodePlan_ev l h1 h2
  unfold spec_CountFreeCodes.f impl_CountFreeCodes.f
  cases g : goodB l with
  | false =>
    rw [g] at hg hi
    exact ⟨(0, false), Ev.bind hg (Ev.neg (by simp) (Ev.val rfl)), Ev.bind hi (Ev.neg (by simp) (Ev.val rfl))⟩
  | true =>
    rw [g] at hg hi
    have hn := good_len g
    have hc : ∀ y ∈ l, y.size ≤ 6 := fun y hy => (code_size (good_code g hy)).2
    cases hd : decide (1 ≤ n) && decide (n ≤ 6) with
    | false =>
      refine ⟨(0, false), Ev.bind hg (Ev.pos rfl (Ev.vbind (plLong_f n) ?_)), Ev.bind hi (Ev.pos rfl (Ev.vbind (codeLong_f n) ?_))⟩
      · rw [hd]; exact Ev.neg (by simp) (Ev.val rfl)
      · rw [hd]; exact Ev.neg (by simp) (Ev.val rfl)
    | true =>
      have hn' : 1 ≤ n ∧ n ≤ 6 := by simpa using hd
      obtain ⟨m, rfl⟩ := Int.eq_ofNat_of_zero_le (show 0 ≤ n by omega)
      obtain ⟨v, e1, e2⟩ := free_ev l hn.2 hc m (by omega)
      refine ⟨(v, true), Ev.bind hg (Ev.pos rfl (Ev.vbind (plLong_f _) ?_)), Ev.bind hi (Ev.pos rfl (Ev.vbind (codeLong_f _) ?_))⟩
      · rw [hd]; exact Ev.pos rfl (Ev.bind e1 (Ev.val rfl))
      · rw [hd]; exact Ev.pos rfl (Ev.bind e2 (Ev.val rfl))
theorem FnExactCountFreeCodes : laws_FnExactCountFreeCodes.Said := by
  intro l n ⟨hl, hs⟩ _
  refine Ev.rounds ?_
  obtain ⟨v, hv, hc⟩ := szStringS_ev hl hs
  unfold laws_FnExactCountFreeCodes.f
  refine Ev.bind hv ?_
  rcases hc with hc | ⟨h1, h2⟩
  · exact Ev.pos hc (Ev.val rfl)
  · refine Ev.ite (fun _ => Ev.val rfl) (fun _ => ?_)
    have ht := toStringS_ev (l := l) (by omega)
    obtain ⟨r, hr, hq⟩ := key l n h1 h2
    refine Ev.bind ht (Ev.bind hr (Ev.bind ht (Ev.bind hq (Ev.pos rfl ?_))))
    refine Ev.step (fun k => by rw [laws_FnExactCountFreeCodes.j0]) ?_
    exact Ev.neg (by simp) (Ev.bind ht (Ev.bind (eqStringS_ev (by omega)) (Ev.pos (by simp) (Ev.val rfl))))
end Go.Proofs.YthhngfnamkebmaaDoor.Pure
