/- Dropping a code: the key. No condition but bounds. -/
import Derived.Test.YtphdlbdmdokfaaaDoorPAx0
import Derived.Test.YtphdlbdmdokfaaaDoorPAx7
import Derived.Test.YtphdlbdmdokfaaaDoorPAx8
import Derived.Test.YtphdlbdmdokfaaaDoorPAx9
import Derived.Test.YtphdlbdmdokfaaaDoorQDrop
namespace Go.Proofs.YtphdlbdmdokfaaaDoor.PA
open Go.RowKit Go.Proofs.YtphdlbdmdokfaaaDoorW.PrintWords
set_option linter.unusedVariables false

theorem dropCode_key (l : List ByteArray) (c : ByteArray) (h1 : l.length ≤ 1048576) (h2 : ∀ y ∈ l, y.size ≤ 1048576) (hc : c.size ≤ 1048576) :
    ∃ r : List ByteArray × Bool, Ev (fun k => spec_DropCode.f k l c) r ∧ Ev (fun k => impl_DropCode.f k l c) r ∧ r.1.length ≤ 1048576 := by
  have hh := plHas_ev l c h1 h2
  have hi := isCodePlan_ev l h1 h2
  have hin := containsS_ev l c h1
  unfold spec_DropCode.f impl_DropCode.f
  have no : ∀ b, b = true → Ev (fun k => impl_DropCode.j0 k l c b) ([], false) := by
    intro b hb
    refine Ev.step (fun k => by rw [impl_DropCode.j0]) ?_
    exact Ev.pos hb (Ev.val rfl)
  cases g : goodB l with
  | false =>
    rw [g] at hh hi
    exact ⟨([], false), Ev.bind hh (Ev.neg (by simp) (Ev.val rfl)), Ev.bind hi (Ev.neg (by simp) (no _ rfl)), by simp⟩
  | true =>
    rw [g] at hh hi
    cases hb : hasB c l with
    | false =>
      rw [hb] at hh hin
      exact ⟨([], false), Ev.bind hh (Ev.neg (by simp) (Ev.val rfl)), Ev.bind hi (Ev.pos rfl (Ev.bind hin (no _ rfl))), by simp⟩
    | true =>
      rw [hb] at hh hin
      have hm := hasB_iff.mp hb
      have hl := drop_len l c
      have hne : l ≠ [] := fun e => by rw [e] at hm; simp at hm
      have hd := drop_good g hm
      have hcp := isCodePlan_ev (dropB l c) (by omega) (fun y hy => h2 y (mem_dropB.mp hy).1)
      have im : ∀ r, Ev (fun k => (impl_toldCodes.f k (dropB l c)).bind fun bt188 => (some (bt188.1, bt188.2))) r → Ev (fun k => impl_DropCode.j0 k l c (!true)) r := by
        intro r hr
        refine Ev.step (fun k => by rw [impl_DropCode.j0]) ?_
        exact Ev.neg (by simp) (Ev.vbind (without_f c hne h1) hr)
      by_cases hz : l.length = 1
      · rw [decide_eq_false (by simp [hz])] at hd
        rw [hd] at hcp
        refine ⟨([], false), Ev.bind hh (Ev.pos rfl (Ev.pos (by omega) (Ev.val rfl))), Ev.bind hi (Ev.pos rfl (Ev.bind hin (im _ (Ev.bind (a := ([], false)) ?_ (Ev.val rfl))))), by simp⟩
        unfold impl_toldCodes.f
        exact Ev.bind hcp (Ev.neg (by simp) (Ev.val rfl))
      · rw [decide_eq_true hz] at hd
        rw [hd] at hcp
        refine ⟨(dropB l c, true), Ev.bind hh (Ev.pos rfl (Ev.neg (by omega) (Ev.bind (plDrop_ev l c h1) (Ev.val rfl)))), Ev.bind hi (Ev.pos rfl (Ev.bind hin (im _ (Ev.bind (a := (dropB l c, true)) ?_ (Ev.val rfl))))), by show (dropB l c).length ≤ _; omega⟩
        unfold impl_toldCodes.f
        exact Ev.bind hcp (Ev.pos rfl (Ev.val rfl))
end Go.Proofs.YtphdlbdmdokfaaaDoor.PA
