/- It is proved that the law FnExactAreaOf, as a plain function, returns true: the program and the reference tell the same code that begins a number. No condition. -/
import Derived.Test.YthhngfnamkebmaaDoorPAx7
import Derived.Test.YthhngfnamkebmaaDoorQArea
namespace Go.Proofs.YthhngfnamkebmaaDoor.Pure
open Go.RowKit Go.Proofs.YthhngfnamkebmaaDoor.PA Go.Proofs.YthhngfnamkebmaaDoorW.PrintWords Go.Proofs.YthhngfnamkebmaaDoorW.PrintLast
/-- THE ONE PURE STATEMENT of the law. -/
def laws_FnExactAreaOf.Said : Prop := ∀ (a0 : List ByteArray) (a1 : ByteArray), (a0.length ≤ maxLen ∧ ∀ y ∈ a0, y.size ≤ maxLen) → (a1.size ≤ maxLen) → ∃ k, laws_FnExactAreaOf.f k a0 a1 = some true
theorem key (l : List ByteArray) (t : ByteArray) (h1 : l.length ≤ 1048576) (h2 : ∀ y ∈ l, y.size ≤ 1048576) (ht : t.size ≤ 1048576) :
    ∃ r : ByteArray × Bool, Ev (fun k => spec_AreaOf.f k l t) r ∧ Ev (fun k => impl_AreaOf.f k l t) r := by
  have hg := plGood_ev l h1 h2
  have hi := isCodePlan_ev l h1 h2
  obtain ⟨v, j, hv, hj, hh⟩ := area_l0 l t h1 l.length 0 (by omega)
  rw [List.drop_zero] at hj
  replace hj : idxO (fun c => impl_begins.f c t) l 0 = some j := hj
  unfold spec_AreaOf.f impl_AreaOf.f
  have hd1 := piDigits_ev t 1 12 (by omega)
  have hd2 := isDigits_f t 1 12 (by omega)
  cases g : goodB l with
  | false =>
    rw [g] at hg hi
    refine ⟨(⟨#[]⟩, false), Ev.bind hg (Ev.neg (by simp) (Ev.val rfl)), Ev.pos (by omega) (Ev.vbind hj (Ev.bind hi (Ev.neg (by simp) (Ev.val rfl))))⟩
  | true =>
    rw [g] at hg hi
    cases hd : digitsB t 1 12 with
    | false =>
      rw [hd] at hd1 hd2
      refine ⟨(⟨#[]⟩, false), Ev.bind hg (Ev.pos rfl (Ev.bind hd1 (Ev.neg (by simp) (Ev.val rfl)))), Ev.pos (by omega) (Ev.vbind hj (Ev.bind hi (Ev.pos rfl (Ev.vbind hd2 (Ev.neg (by simp) (Ev.val rfl))))))⟩
    | true =>
      rw [hd] at hd1 hd2
      have hv' : Ev (fun k => spec_plArea.f k l t) v := hv
      rcases hh with ⟨hj0, rfl⟩ | ⟨hj0, hj1, e, hm⟩
      · refine ⟨(⟨#[]⟩, false), Ev.bind hg (Ev.pos rfl (Ev.bind hd1 (Ev.pos rfl (Ev.bind hv' (Ev.val (by rw [toList_data]; rfl)))))), Ev.pos (by omega) (Ev.vbind hj (Ev.bind hi (Ev.pos rfl (Ev.vbind hd2 (Ev.pos rfl (Ev.pos hj0 (Ev.val rfl)))))))⟩
      · have hs := code_size (good_code g hm)
        have hne : (v.toList != ([] : List UInt8)) = true := by
          rw [toList_data]
          cases h : v.data.toList with
          | nil => rw [size_data, h] at hs; simp at hs
          | cons => rfl
        refine ⟨(v, true), Ev.bind hg (Ev.pos rfl (Ev.bind hd1 (Ev.pos rfl (Ev.bind hv' (Ev.val (by rw [hne])))))), Ev.pos (by omega) (Ev.vbind hj (Ev.bind hi (Ev.pos rfl (Ev.vbind hd2 (Ev.pos rfl (Ev.neg (by omega) (Ev.pos hj1 (Ev.val (by rw [← e]))))))))) ⟩
theorem FnExactAreaOf : laws_FnExactAreaOf.Said := by
  intro l t ⟨hl, hs⟩ _
  refine Ev.rounds ?_
  obtain ⟨v, hv, hc⟩ := szStringS_ev hl hs
  unfold laws_FnExactAreaOf.f
  refine Ev.ite (fun _ => Ev.val rfl) (fun hts => Ev.bind hv ?_)
  rcases hc with hc | ⟨h1, h2⟩
  · exact Ev.pos hc (Ev.val rfl)
  · refine Ev.ite (fun _ => Ev.val rfl) (fun _ => ?_)
    have ht := toStringS_ev (l := l) (by omega)
    obtain ⟨r, hr, hq⟩ := key l t h1 h2 (by omega)
    refine Ev.bind ht (Ev.bind hr (Ev.bind ht (Ev.bind hq (Ev.pos rfl ?_))))
    refine Ev.step (fun k => by rw [laws_FnExactAreaOf.j0]) ?_
    exact Ev.neg (by simp) (Ev.bind ht (Ev.bind (eqStringS_ev (by omega)) (Ev.pos (by simp) (Ev.val rfl))))
end Go.Proofs.YthhngfnamkebmaaDoor.Pure
