/- A plan out of its text: the key. No condition but bounds. -/
import Derived.Test.YtphdlbdmdokfaaaDoorPAx0
import Derived.Test.YtphdlbdmdokfaaaDoorPAx4
import Derived.Test.YtphdlbdmdokfaaaDoorPAx5
import Derived.Test.YtphdlbdmdokfaaaDoorQCutS
import Derived.Test.YtphdlbdmdokfaaaDoorQHas
namespace Go.Proofs.YtphdlbdmdokfaaaDoor.PA
open Go.RowKit Go.Proofs.YtphdlbdmdokfaaaDoorW.PrintWords
set_option linter.unusedVariables false

theorem parseCodePlan_key (s : ByteArray) (hs : s.size ≤ 1048576) :
    ∃ r : List ByteArray × Bool, Ev (fun k => spec_ParseCodePlan.f k s) r ∧ Ev (fun k => impl_ParseCodePlan.f k s) r ∧ r.1.length ≤ 1048577 := by
  have hl := cutT_len 44 s
  have hz := cutT_size 44 s
  have hsp : strings_Split.f s ⟨#[44]⟩ = some (cutT 44 s) := by
    unfold strings_Split.f
    rw [if_pos ⟨rfl, by omega⟩, split_cut]
  have hi := isCodePlan_ev2 (cutT 44 s) (by omega) (fun y hy => by have := hz y hy; omega)
  have im : Ev (fun k => impl_ParseCodePlan.f k s) (if goodB (cutT 44 s) = true then (cutT 44 s, true) else ([], false)) := by
    unfold impl_ParseCodePlan.f impl_toldCodes.f
    refine Ev.vbind hsp (Ev.bind (a := if goodB (cutT 44 s) = true then (cutT 44 s, true) else ([], false)) (Ev.bind hi ?_) (Ev.val ?_))
    · cases goodB (cutT 44 s) with
      | true => exact Ev.pos rfl (Ev.val rfl)
      | false => exact Ev.neg (by simp) (Ev.val rfl)
    · rfl
  refine ⟨_, ?_, im, ?_⟩
  · unfold spec_ParseCodePlan.f
    by_cases h140 : s.size ≤ 140
    · have hg := plGood_ev (cutT 44 s) (by omega) (fun y hy => by have := hz y hy; omega)
      refine Ev.neg (by omega) (Ev.bind (l1Split_ev s 44 (by omega)) (Ev.bind hg ?_))
      cases goodB (cutT 44 s) with
      | true => exact Ev.pos rfl (Ev.val rfl)
      | false => exact Ev.neg (by simp) (Ev.val rfl)
    · refine Ev.pos (by omega) (Ev.val ?_)
      rw [if_neg]
      intro hgood
      have h1 := good_len hgood
      have h2 := cutT_small 44 s 20 6 h1.2 (fun x hx => (code_size (good_code hgood hx)).2)
      omega
  · split
    · show (cutT 44 s).length ≤ _; omega
    · simp
end Go.Proofs.YtphdlbdmdokfaaaDoor.PA
