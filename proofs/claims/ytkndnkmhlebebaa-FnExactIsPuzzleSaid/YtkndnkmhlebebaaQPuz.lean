/- Puzzles: the reference and the program ask for the same. No condition but bounds. -/
import Derived.Test.YtkndnkmhlebebaaPAx0
import Derived.Test.YtkndnkmhlebebaaPAx4
import Derived.Test.YtkndnkmhlebebaaPAx5
import Derived.Test.YtkndnkmhlebebaaPAx6
import Derived.Test.YtkndnkmhlebebaaQIn
namespace Go.Proofs.Ytkndnkmhlebebaa.PA
open Go.RowKit Go.Proofs.YtkndnkmhlebebaaW.PrintWords
set_option linter.unusedVariables false

theorem clue_same (d a b c : Int) : impl_IsClue.f d a b c = spec_pzClue.f d a b c := by
  unfold impl_IsClue.f spec_pzClue.f
  simp only [in_f, l1In_f]
def clueB (d : Int) (x : S61) : Bool := ((spec_pzClue.f d x.f0 x.f1 x.f2).getD false)
theorem clue_f (d : Int) (x : S61) : spec_pzClue.f d x.f0 x.f1 x.f2 = some (clueB d x) := by
  unfold clueB
  suffices h : ∃ v, spec_pzClue.f d x.f0 x.f1 x.f2 = some v by obtain ⟨v, h⟩ := h; rw [h]; rfl
  unfold spec_pzClue.f
  simp only [l1In_f, Option.bind_some]
  repeat' split
  all_goals exact ⟨_, rfl⟩
def puzB (d : Int) (l : List S61) : Bool := decide (2 ≤ d) && decide (d ≤ 3) && decide ((l.length : Int) ≤ 6) && l.all (clueB d)
theorem rdT_nat {l : List S61} {i : Nat} (h : i < l.length) : rd_T61 l (i : Int) = l[i] := by simp [rd_T61, h]
theorem pzGood_l0 (d : Int) (l : List S61) (hl : l.length ≤ 1048576) : ∀ (e i : Nat), i + e = l.length → Ev (fun k => spec_pzGood.l0 k l (l.length : Int) (i : Int) d l) ((l.drop i).all (clueB d))
  | 0, i, h => by
    refine Ev.step (fun k => by rw [spec_pzGood.l0]) ?_
    refine Ev.neg (by omega) (Ev.val ?_)
    rw [List.drop_of_length_le (by omega)]; rfl
  | e + 1, i, h => by
    have hi : i < l.length := by omega
    refine Ev.step (fun k => by rw [spec_pzGood.l0]) ?_
    refine Ev.pos (by omega) (Ev.pos (by omega) (Ev.pos (by omega) ?_))
    rw [rdT_nat hi, wrap_nat (by omega), List.drop_eq_getElem_cons hi, List.all_cons]
    refine Ev.vbind (clue_f d _) ?_
    have ih := pzGood_l0 d l hl e (i + 1) (by omega)
    cases clueB d l[i] with
    | true => exact Ev.pos rfl (by rw [Bool.true_and]; exact ih)
    | false => exact Ev.neg (by simp) (Ev.val rfl)
theorem pzGood_ev (d : Int) (l : List S61) (hl : l.length ≤ 1048576) : Ev (fun k => spec_pzGood.f k d l) (puzB d l) := by
  unfold spec_pzGood.f spec_pzDigits.f puzB
  rw [l1In_f, Option.bind_some]
  refine Ev.vbind rfl ?_
  cases decide (2 ≤ d) && decide (d ≤ 3) with
  | false =>
    refine Ev.neg (by simp) ?_
    refine Ev.step (fun k => by rw [spec_pzGood.j0]) ?_
    exact Ev.pos rfl (Ev.val rfl)
  | true =>
    refine Ev.pos rfl ?_
    refine Ev.step (fun k => by rw [spec_pzGood.j0]) ?_
    by_cases h : (l.length : Int) > 6
    · exact Ev.pos (decide_eq_true h) (Ev.val (by simp [show ¬ (l.length : Int) ≤ 6 by omega]))
    · refine Ev.neg (by simp [h]) ?_
      have := pzGood_l0 d l hl l.length 0 (by omega)
      rw [List.drop_zero] at this
      exact Ev.eq this (by simp [show (l.length : Int) ≤ 6 by omega])
theorem isPuzzle_f (d : Int) (l : List S61) (hl : l.length ≤ 1048576) : impl_IsPuzzle.f d l = some (puzB d l) := by
  unfold impl_IsPuzzle.f puzB
  have hany : anyO (fun x => (impl_IsClue.f d x.f0 x.f1 x.f2).map (!·)) l = some (l.any (fun x => !clueB d x)) := by
    refine anyO_pure _ _ l (fun x _ => ?_)
    rw [clue_same, clue_f]; rfl
  rw [hany, Option.bind_some, if_pos (by omega)]
  have e : l.any (fun x => !clueB d x) = !l.all (clueB d) := by
    clear hany hl
    induction l with
    | nil => rfl
    | cons a l ih => rw [List.any_cons, List.all_cons, ih, Bool.not_and]
  rw [e, Bool.not_not]
end Go.Proofs.Ytkndnkmhlebebaa.PA
