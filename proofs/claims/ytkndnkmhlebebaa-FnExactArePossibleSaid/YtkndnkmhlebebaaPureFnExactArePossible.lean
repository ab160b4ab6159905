/- It is proved that the law FnExactArePossible, as a plain function, returns true: lengths are possible for the program just if they are for the reference. No condition. -/
import Derived.Test.YtkndnkmhlebebaaPAx3
import Derived.Test.YtkndnkmhlebebaaQLens
import Derived.Test.YtkndnkmhlebebaaQInts
namespace Go.Proofs.Ytkndnkmhlebebaa.Pure
open Go.RowKit Go.Proofs.Ytkndnkmhlebebaa.PA Go.Proofs.YtkndnkmhlebebaaW.PrintWords Go.Proofs.YtkndnkmhlebebaaW.PrintLast
/-- THE ONE PURE STATEMENT of the law. -/
def laws_FnExactArePossible.Said : Prop := ∀ (a0 : List Int), (a0.length ≤ maxLen ∧ ∀ y ∈ a0, (Lit.int .i64 y).wf = true) → ∃ k, laws_FnExactArePossible.f k a0 = some true
theorem key (l : List Int) (h1 : l.length ≤ 1048576) :
    ∃ r : Bool × Bool, Ev (fun k => spec_ArePossible.f k l) r ∧ Ev (fun k => impl_ArePossible.f k l) r := by
  have hg := plLengths_ev l h1
  have hi := lengthsOk_f l h1
  unfold spec_ArePossible.f impl_ArePossible.f
  cases g : lensB l with
  | false =>
    rw [g] at hg hi
    exact ⟨(false, false), Ev.bind hg (Ev.neg (by simp) (Ev.val rfl)), Ev.vbind hi (Ev.neg (by simp) (Ev.val rfl))⟩
  | true =>
    rw [g] at hg hi
    obtain ⟨_, h2, h3⟩ := lensB_facts g
    obtain ⟨v, e1, e2⟩ := can_l0 l h2 h3 l.length 0 0 (by omega) (by omega) (by omega)
    exact ⟨(v, true), Ev.bind hg (Ev.pos rfl (Ev.bind (g := fun k => spec_plCan.f k l) e1 (Ev.val rfl))), Ev.vbind hi (Ev.pos rfl e2)⟩
theorem FnExactArePossible : laws_FnExactArePossible.Said := by
  intro l ⟨hl, _⟩
  refine Ev.rounds ?_
  unfold laws_FnExactArePossible.f
  refine Ev.ite (fun _ => Ev.val rfl) (fun h1 => ?_)
  have ht := toIntS_ev (l := l) (by omega)
  obtain ⟨r, hr, hq⟩ := key l (by omega)
  refine Ev.bind ht (Ev.bind hr (Ev.bind ht (Ev.bind hq (Ev.neg (by simp) ?_))))
  refine Ev.step (fun k => by rw [laws_FnExactArePossible.j0]) ?_
  exact Ev.neg (by simp) (Ev.bind ht (Ev.bind (eqIntS_ev (by omega)) (Ev.pos (by simp) (Ev.val rfl))))
end Go.Proofs.Ytkndnkmhlebebaa.Pure
