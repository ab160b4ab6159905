/- It is proved that the law FnExactSchemeText, as a plain function, returns true: the program and the reference write the same text for a scheme. No condition. -/
import Derived.Test.YtbkincjjafioaaaDoorPAx8
import Derived.Test.YtbkincjjafioaaaDoorQSchemeText
namespace Go.Proofs.YtbkincjjafioaaaDoor.Pure
open Go.RowKit Go.Proofs.YtbkincjjafioaaaDoor.PA Go.Proofs.YtbkincjjafioaaaDoorW.PrintWords Go.Proofs.YtbkincjjafioaaaDoorW.PrintLast
/-- THE ONE PURE STATEMENT of the law. -/
def laws_FnExactSchemeText.Said : Prop := ∀ (a0 : S31), (((Lit.int .i64 a0.f0).wf = true) ∧ (a0.f1.length ≤ maxLen ∧ ∀ y ∈ a0.f1, (Lit.int .i64 y).wf = true)) → ∃ k, laws_FnExactSchemeText.f k (a0.f0) (a0.f1) = some true
theorem key (m : Int) (l : List Int) (h1 : l.length ≤ 1048576) :
    ∃ r : ByteArray × Bool, Ev (fun k => spec_SchemeText.f k m l) r ∧ Ev (fun k => impl_SchemeText.f k m l) r := by
  have hg := ckGood_ev m l h1
  have hi := isScheme_f m l h1
  unfold spec_SchemeText.f impl_SchemeText.f
  cases g : schB m l with
  | false =>
    rw [g] at hg hi
    exact ⟨(⟨#[]⟩, false), Ev.bind hg (Ev.neg (by simp) (Ev.val rfl)), Ev.vbind hi (Ev.neg (by simp) (Ev.val rfl))⟩
  | true =>
    rw [g] at hg hi
    obtain ⟨m0, m1, l0, l1, hw⟩ := sch_facts g
    have hs : ∀ y ∈ l, 0 ≤ y ∧ y < 100 := fun y hy => by have := hw y hy; omega
    have hd := dec_le m (by omega) (by omega)
    have e1 := ckText_l0 l (by omega) hs (decB m ++ (⟨#[58]⟩ : ByteArray)) (by rw [size_append]; show _ + 1 ≤ _; omega) l.length 0 (by omega)
    have e2 := schemeText_l0 l (by omega) hs m l (by omega) (by omega) l.length 0 (by omega)
    have e0 : decB m ++ (⟨#[58]⟩ : ByteArray) ++ commaT ((l.map decB).take 0) = decB m ++ (⟨#[58]⟩ : ByteArray) := by rw [comma_zero, app_nil]
    rw [e0] at e1
    refine ⟨_, Ev.bind hg (Ev.pos rfl (Ev.bind (a := (decB m ++ (⟨#[58]⟩ : ByteArray)) ++ commaT (l.map decB)) ?_ (Ev.val rfl))), Ev.vbind hi (Ev.pos rfl e2)⟩
    unfold spec_ckText.f
    exact Ev.bind (l1Num_ev m (by omega) (by omega)) (Ev.pos (by omega) e1)
theorem FnExactSchemeText : laws_FnExactSchemeText.Said := by
  intro p ⟨_, hl, _⟩
  refine Ev.rounds ?_
  generalize p.f0 = m
  generalize p.f1 = l at hl ⊢
  obtain ⟨v, hv, hc⟩ := szScheme_f (m := m) hl
  unfold laws_FnExactSchemeText.f
  refine Ev.vbind hv ?_
  rcases hc with hc | hc
  · exact Ev.pos hc (Ev.val rfl)
  · refine Ev.ite (fun _ => Ev.val rfl) (fun _ => ?_)
    have ht := toScheme_ev (m := m) hc
    obtain ⟨r, hr, hq⟩ := key m l hc
    refine Ev.bind ht (Ev.bind hr (Ev.bind ht (Ev.bind hq (Ev.pos rfl ?_))))
    refine Ev.step (fun k => by rw [laws_FnExactSchemeText.j0]) ?_
    exact Ev.neg (by simp) (Ev.bind ht (Ev.bind (eqScheme_ev hc) (Ev.pos rfl (Ev.val rfl))))
end Go.Proofs.YtbkincjjafioaaaDoor.Pure
