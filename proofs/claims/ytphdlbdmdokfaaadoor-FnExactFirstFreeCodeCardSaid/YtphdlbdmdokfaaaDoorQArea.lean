/- The code that begins a number: the reference's and the program's are one. No condition but bounds. -/
import Derived.Test.YtphdlbdmdokfaaaDoorPAx0
import Derived.Test.YtphdlbdmdokfaaaDoorPAx2
import Derived.Test.YtphdlbdmdokfaaaDoorPAx6
import Derived.Test.YtphdlbdmdokfaaaDoorQHas
namespace Go.Proofs.YtphdlbdmdokfaaaDoor.PA
open Go.RowKit Go.Proofs.YtphdlbdmdokfaaaDoorW.PrintWords
set_option linter.unusedVariables false

theorem area_l0 (l : List ByteArray) (t : ByteArray) (hl : l.length ≤ 1048576) : ∀ (d i : Nat), i + d = l.length →
    ∃ v j, Ev (fun k => spec_plArea.l0 k t l (l.length : Int) (i : Int)) v ∧ idxO (fun c => impl_begins.f c t) (l.drop i) (i : Int) = some j ∧
      ((j < 0 ∧ v = ⟨#[]⟩) ∨ (0 ≤ j ∧ j < (l.length : Int) ∧ v = rdOf ByteArray.empty l j ∧ v ∈ l))
  | 0, i, h => by
    refine ⟨⟨#[]⟩, -1, ?_, ?_, .inl ⟨by decide, rfl⟩⟩
    · refine Ev.step (fun k => by rw [spec_plArea.l0]) ?_
      exact Ev.neg (by omega) (Ev.val rfl)
    · rw [List.drop_of_length_le (by omega)]; rfl
  | d + 1, i, h => by
    have hi : i < l.length := by omega
    obtain ⟨v, j, hv, hj, hh⟩ := area_l0 l t hl d (i + 1) (by omega)
    have hd : l.drop i = l[i] :: l.drop (i + 1) := List.drop_eq_getElem_cons hi
    cases hb : begB l[i] t with
    | true =>
      refine ⟨l[i], (i : Int), ?_, ?_, .inr ⟨by omega, by omega, (rdS_nat hi).symm, List.getElem_mem hi⟩⟩
      · refine Ev.step (fun k => by rw [spec_plArea.l0]) ?_
        refine Ev.pos (by omega) (Ev.pos (by omega) (Ev.pos (by omega) ?_))
        rw [rdS_nat hi]
        exact Ev.vbind (plBegins_f _ _) (Ev.pos hb (Ev.val rfl))
      · rw [hd, idxO, begins_f, Option.bind_some, if_pos hb]
    | false =>
      refine ⟨v, j, ?_, ?_, hh⟩
      · refine Ev.step (fun k => by rw [spec_plArea.l0]) ?_
        refine Ev.pos (by omega) (Ev.pos (by omega) (Ev.pos (by omega) ?_))
        rw [rdS_nat hi, wrap_nat (by omega)]
        exact Ev.vbind (plBegins_f _ _) (Ev.neg (by rw [hb]; simp) hv)
      · rw [hd, idxO, begins_f, Option.bind_some, if_neg (by rw [hb]; simp)]
        simpa using hj
theorem area_any (l : List ByteArray) (t : ByteArray) (hl : l.length ≤ 1048576) (hp : ∀ c ∈ l, c.size ≠ 0) : ∃ v, Ev (fun k => spec_plArea.f k l t) v ∧ (v.toList != ([] : List UInt8)) = (l.any fun c => begB c t) := by
  obtain ⟨v, j, hv, hj, hh⟩ := area_l0 l t hl l.length 0 (by omega)
  have hany : anyO (fun c => impl_begins.f c t) l = some (l.any fun c => begB c t) := anyO_pure _ _ l (fun c _ => begins_f c t)
  refine ⟨v, by unfold spec_plArea.f; exact hv, ?_⟩
  obtain ⟨j', hj', e'⟩ := idxO_any (fun c => impl_begins.f c t) l 0 (by omega) _ hany
  rw [List.drop_zero] at hj
  have ejj : j' = j := Option.some.inj (hj'.symm.trans hj)
  subst ejj
  rw [← e']
  rcases hh with ⟨hneg, rfl⟩ | ⟨hpos, hlt, hrd, hmem⟩
  · rw [decide_eq_false (by omega), toList_data]; rfl
  · rw [decide_eq_true hpos, bne_iff_ne]
    intro e
    rw [toList_data] at e
    exact hp v hmem (by rw [size_data, e]; rfl)
end Go.Proofs.YtphdlbdmdokfaaaDoor.PA
