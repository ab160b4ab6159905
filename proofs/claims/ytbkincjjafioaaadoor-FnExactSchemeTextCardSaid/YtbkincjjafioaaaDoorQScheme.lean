/- Schemes, sums and checks: the reference's and the program's are one. No condition but bounds. -/
import Derived.Test.YtbkincjjafioaaaDoorPAx0
import Derived.Test.YtbkincjjafioaaaDoorPAx1
import Derived.Test.YtbkincjjafioaaaDoorPAx3
import Derived.Test.YtbkincjjafioaaaDoorPAx4
import Derived.Test.YtbkincjjafioaaaDoorPAx5
import Derived.Test.YtbkincjjafioaaaDoorPAx6
import Derived.Test.YtbkincjjafioaaaDoorPAx7
import Derived.Test.YtbkincjjafioaaaDoorQOver
import Derived.Test.YtbkincjjafioaaaDoorQInts
namespace Go.Proofs.YtbkincjjafioaaaDoor.PA
open Go.RowKit Go.Proofs.YtbkincjjafioaaaDoorW.PrintWords
set_option linter.unusedVariables false

def wB (m w : Int) : Bool := decide (0 ≤ w) && decide (w ≤ wrap64 (m - 1))
def schB (m : Int) (l : List Int) : Bool := decide (2 ≤ m) && decide (m ≤ 13) && (decide (1 ≤ (l.length : Int)) && decide ((l.length : Int) ≤ 12)) && l.all (wB m)
theorem sch_l0 (m : Int) (l : List Int) (hl : l.length ≤ 1048576) : ∀ (d i : Nat), i + d = l.length → Ev (fun k => spec_l1All.l0 k 0 (wrap64 (m - 1)) l (l.length : Int) (i : Int)) ((l.drop i).all (wB m))
  | 0, i, h => by
    refine Ev.step (fun k => by rw [spec_l1All.l0]) ?_
    refine Ev.neg (by omega) (Ev.val ?_)
    rw [List.drop_of_length_le (by omega)]; rfl
  | d + 1, i, h => by
    have hi : i < l.length := by omega
    refine Ev.step (fun k => by rw [spec_l1All.l0]) ?_
    refine Ev.pos (by omega) (Ev.pos (by omega) (Ev.pos (by omega) ?_))
    rw [rd_nat hi, wrap_nat (by omega), List.drop_eq_getElem_cons hi, List.all_cons]
    refine Ev.vbind (l1In_f _ _ _) ?_
    have ih := sch_l0 m l hl d (i + 1) (by omega)
    show Ev (fun k => if wB m l[i] = true then _ else _) _
    cases wB m l[i] with
    | true => exact Ev.pos rfl (by rw [Bool.true_and]; exact ih)
    | false => exact Ev.neg (by simp) (Ev.val rfl)
theorem ckGood_ev (m : Int) (l : List Int) (hl : l.length ≤ 1048576) : Ev (fun k => spec_ckGood.f k m l) (schB m l) := by
  unfold spec_ckGood.f schB
  refine Ev.vbind (l1In_f _ _ _) ?_
  cases decide (2 ≤ m) && decide (m ≤ 13) with
  | false => exact Ev.neg (by simp) (Ev.val rfl)
  | true =>
    refine Ev.pos rfl (Ev.vbind (l1In_f _ _ _) ?_)
    cases decide (1 ≤ (l.length : Int)) && decide ((l.length : Int) ≤ 12) with
    | false => exact Ev.neg (by simp) (Ev.val rfl)
    | true =>
      have h := sch_l0 m l hl l.length 0 (by omega)
      rw [List.drop_zero] at h
      exact Ev.pos rfl (Ev.bind (g := fun k => spec_l1All.f k l 0 (wrap64 (m - 1))) h (Ev.val rfl))
theorem isScheme_f (m : Int) (l : List Int) (hl : l.length ≤ 1048576) : impl_IsScheme.f m l = some (schB m l) := by
  unfold impl_IsScheme.f schB
  have hany : anyO (fun x => (impl_in.f x 0 (wrap64 (m - 1))).map (!·)) l = some (l.any (fun x => !wB m x)) := by
    refine anyO_pure _ _ l (fun x _ => ?_)
    rw [in_f]; rfl
  rw [hany, Option.bind_some, if_pos (by omega)]
  have e : l.any (fun x => !wB m x) = !l.all (wB m) := by
    clear hany hl
    induction l with
    | nil => rfl
    | cons a l ih => rw [List.any_cons, List.all_cons, ih, Bool.not_and]
  rw [e, Bool.not_not]
theorem sch_facts {m : Int} {l : List Int} (h : schB m l = true) : 2 ≤ m ∧ m ≤ 13 ∧ 1 ≤ l.length ∧ l.length ≤ 12 ∧ ∀ w ∈ l, 0 ≤ w ∧ w ≤ 12 := by
  unfold schB at h
  simp only [Bool.and_eq_true, List.all_eq_true, decide_eq_true_eq] at h
  have hw : wrap64 (m - 1) = m - 1 := wrap_in (by omega) (by omega)
  refine ⟨by omega, by omega, by omega, by omega, fun w hw2 => ?_⟩
  have := h.2 w hw2
  unfold wB at this
  simp only [Bool.and_eq_true, decide_eq_true_eq, hw] at this
  omega
/-- the laws' own helpers -/
theorem szScheme_f {m : Int} {l : List Int} (hl : l.length ≤ maxLen) : ∃ v, laws_szScheme.f m l 1048576 = some v ∧ (v < 0 ∨ l.length ≤ 1048576) := by
  unfold maxLen at hl
  unfold laws_szScheme.f laws_szIntS.f
  have hw : wrap64 (1048576 - (l.length : Int)) = 1048576 - (l.length : Int) := wrap_in (by omega) (by omega)
  rw [hw]
  by_cases e : 1048576 - (l.length : Int) < 0
  · rw [if_pos e, Option.bind_some, if_pos (by omega)]; exact ⟨-1, rfl, .inl (by omega)⟩
  · rw [if_neg e, Option.bind_some, if_neg e]; exact ⟨_, rfl, .inr (by omega)⟩
theorem toScheme_ev {m : Int} {l : List Int} (hl : l.length ≤ 1048576) : Ev (fun k => laws_toScheme.f k m l) (m, l) := by
  unfold laws_toScheme.f
  exact Ev.bind (toIntS_ev (by omega)) (Ev.val rfl)
theorem eqScheme_ev {m : Int} {l : List Int} (hl : l.length ≤ 1048576) : Ev (fun k => laws_eqScheme.f k m l m l) true := by
  unfold laws_eqScheme.f
  exact Ev.pos rfl (Ev.bind (eqIntS_ev (by omega)) (Ev.pos (by simp) (Ev.val rfl)))
end Go.Proofs.YtbkincjjafioaaaDoor.PA
