/- The code that begins a number: the reference's and the program's are one. No condition but bounds. -/
import Derived.Test.YthhngfnamkebmaaDoorPAx0
import Derived.Test.YthhngfnamkebmaaDoorPAx4
import Derived.Test.YthhngfnamkebmaaDoorPAx6
import Derived.Test.YthhngfnamkebmaaDoorQHas
namespace Go.Proofs.YthhngfnamkebmaaDoor.PA
open Go.RowKit Go.Proofs.YthhngfnamkebmaaDoorW.PrintWords
set_option linter.unusedVariables false

theorem area_l0 (l : List ByteArray) (t : ByteArray) (hl : l.length ≤ 1048576) : ∀ (d i : Nat), i + d = l.length →
    ∃ v j, Ev (fun k => spec_plArea.l0 k t l (l.length : Int) (i : Int)) v ∧ idxO (fun c => impl_begins.f c t) (l.drop i) (i : Int) = some j ∧
      ((j < 0 ∧ v = ⟨#[]⟩) ∨ (0 ≤ j ∧ j < (l.length : Int) ∧ v = rdOf ByteArray.empty l j ∧ v ∈ l))
  | 0, i, h => by
    refine ⟨⟨#[]⟩, -1, ?_, ?_, .inl ⟨by decide, rfl⟩⟩
    · refine Ev.step (fun k => by rw [spec_plArea.l0]) ?_
      exact Ev.neg (by omega) (Ev.val rfl)
    · rw [List.drop_of_length_le (by omega)]; rfl
  | d + 1, i, h => by
    have hi : i < l.length := by omega
    obtain ⟨v, j, hv, hj, hh⟩ := area_l0 l t hl d (i + 1) (by omega)
    have hd : l.drop i = l[i] :: l.drop (i + 1) := List.drop_eq_getElem_cons hi
    cases hb : begB l[i] t with
    | true =>
      refine ⟨l[i], (i : Int), ?_, ?_, .inr ⟨by omega, by omega, (rdS_nat hi).symm, List.getElem_mem hi⟩⟩
      · refine Ev.step (fun k => by rw [spec_plArea.l0]) ?_
        refine Ev.pos (by omega) (Ev.pos (by omega) (Ev.pos (by omega) ?_))
        rw [rdS_nat hi]
        exact Ev.vbind (plBegins_f _ _) (Ev.pos hb (Ev.val rfl))
      · rw [hd, idxO, begins_f, Option.bind_some, if_pos hb]
    | false =>
      refine ⟨v, j, ?_, ?_, hh⟩
      · refine Ev.step (fun k => by rw [spec_plArea.l0]) ?_
        refine Ev.pos (by omega) (Ev.pos (by omega) (Ev.pos (by omega) ?_))
        rw [rdS_nat hi, wrap_nat (by omega)]
        exact Ev.vbind (plBegins_f _ _) (Ev.neg (by rw [hb]; simp) hv)
      · rw [hd, idxO, begins_f, Option.bind_some, if_neg (by rw [hb]; simp)]
        simpa using hj
end Go.Proofs.YthhngfnamkebmaaDoor.PA
