/- Lengths of codes: the reference and the program ask for the same. No condition but bounds. -/
import Derived.Test.YtkndnkmhlebebaaPAx0
import Derived.Test.YtkndnkmhlebebaaPAx1
import Derived.Test.YtkndnkmhlebebaaPAx2
import Derived.Test.YtkndnkmhlebebaaPAx3
import Derived.Test.YtkndnkmhlebebaaQIn
import Derived.Test.YtkndnkmhlebebaaQTens
namespace Go.Proofs.Ytkndnkmhlebebaa.PA
open Go.RowKit Go.Proofs.YtkndnkmhlebebaaW.PrintWords
set_option linter.unusedVariables false

def lenB (n : Int) : Bool := decide (1 ≤ n) && decide (n ≤ 6)
def lensB (l : List Int) : Bool := decide (1 ≤ (l.length : Int)) && decide ((l.length : Int) ≤ 20) && l.all lenB
theorem lens_l0 (l : List Int) (hl : l.length ≤ 1048576) : ∀ (d i : Nat), i + d = l.length → Ev (fun k => spec_l1All.l0 k 1 6 l (l.length : Int) (i : Int)) ((l.drop i).all lenB)
  | 0, i, h => by
    refine Ev.step (fun k => by rw [spec_l1All.l0]) ?_
    refine Ev.neg (by omega) (Ev.val ?_)
    rw [List.drop_of_length_le (by omega)]; rfl
  | d + 1, i, h => by
    have hi : i < l.length := by omega
    refine Ev.step (fun k => by rw [spec_l1All.l0]) ?_
    refine Ev.pos (by omega) (Ev.pos (by omega) (Ev.pos (by omega) ?_))
    rw [rd_nat hi, wrap_nat (by omega), List.drop_eq_getElem_cons hi, List.all_cons]
    refine Ev.vbind (l1In_f _ _ _) ?_
    have ih := lens_l0 l hl d (i + 1) (by omega)
    show Ev (fun k => if lenB l[i] = true then _ else _) _
    cases lenB l[i] with
    | true => exact Ev.pos rfl (by rw [Bool.true_and]; exact ih)
    | false => exact Ev.neg (by simp) (Ev.val rfl)
theorem plLengths_ev (l : List Int) (hl : l.length ≤ 1048576) : Ev (fun k => spec_plLengths.f k l) (lensB l) := by
  unfold spec_plLengths.f lensB
  refine Ev.vbind (l1In_f _ _ _) ?_
  cases decide (1 ≤ (l.length : Int)) && decide ((l.length : Int) ≤ 20) with
  | true =>
    have h := lens_l0 l hl l.length 0 (by omega)
    rw [List.drop_zero] at h
    exact Ev.pos rfl (Ev.bind (g := fun k => spec_l1All.f k l 1 6) h (Ev.val rfl))
  | false => exact Ev.neg (by simp) (Ev.val rfl)
theorem lengthsOk_f (l : List Int) (hl : l.length ≤ 1048576) : impl_lengthsOk.f l = some (lensB l) := by
  unfold impl_lengthsOk.f lensB
  rw [if_pos (by omega)]
  have hany : anyO (fun x => (impl_codeLong.f x).map (!·)) l = some (l.any (fun x => !lenB x)) := by
    refine anyO_pure _ _ l (fun x _ => ?_)
    unfold impl_codeLong.f
    rw [in_f]; rfl
  rw [hany]
  have e : l.any (fun x => !lenB x) = !l.all lenB := by
    induction l with
    | nil => rfl
    | cons a l ih => rw [List.any_cons, List.all_cons, ih (by simp at hl; omega) (anyO_pure _ _ l (fun x _ => by unfold impl_codeLong.f; rw [in_f]; rfl)), Bool.not_and]
  rw [e]
  by_cases h : 1 ≤ l.length ∧ l.length ≤ 20
  · rw [if_pos h]
    simp [show (1 : Int) ≤ (l.length : Int) by omega, show (l.length : Int) ≤ 20 by omega]
  · rw [if_neg h]
    by_cases h1 : 1 ≤ l.length
    · simp [show ¬ (l.length : Int) ≤ 20 by omega]
    · simp [show ¬ (1 : Int) ≤ (l.length : Int) by omega]
theorem lensB_facts {l : List Int} (h : lensB l = true) : 1 ≤ l.length ∧ l.length ≤ 20 ∧ ∀ n ∈ l, 1 ≤ n ∧ n ≤ 6 := by
  unfold lensB at h
  simp only [Bool.and_eq_true, List.all_eq_true, decide_eq_true_eq] at h
  refine ⟨by omega, by omega, fun n hn => ?_⟩
  have := h.2 n hn
  simpa [lenB] using this
section
variable (l : List Int) (hl : l.length ≤ 20) (hs : ∀ n ∈ l, 1 ≤ n ∧ n ≤ 6)
include hl hs
theorem can_l0 : ∀ (d i : Nat) (x : Int), i + d = l.length → 0 ≤ x → x ≤ 1000000000000 * (i : Int) → ∃ v, Ev (fun k => spec_plCan.l0 k x l (l.length : Int) (i : Int)) v ∧ Ev (fun k => impl_ArePossible.l0 k x l (l.length : Int) (i : Int)) (v, true)
  | 0, i, x, h, _, _ => by
    refine ⟨decide (x ≤ p10 6), ?_, ?_⟩
    · refine Ev.step (fun k => by rw [spec_plCan.l0]) ?_
      exact Ev.neg (by omega) (Ev.bind (plTens_ev 6 (by omega)) (Ev.val rfl))
    · refine Ev.step (fun k => by rw [impl_ArePossible.l0]) ?_
      exact Ev.neg (by omega) (Ev.bind (power_ev 6 (by omega)) (Ev.val rfl))
  | d + 1, i, x, h, h0, hx => by
    have hi : i < l.length := by omega
    have hy := hs _ (List.getElem_mem hi)
    have hp := p10_le (6 - l[i]).toNat (by omega)
    obtain ⟨v, h1, h2⟩ := can_l0 d (i + 1) (x + p10 (6 - l[i]).toNat) (by omega) (by omega) (by omega)
    have hw : wrap64 (6 - l[i]) = ((6 - l[i]).toNat : Int) := by rw [wrap_in (by omega) (by omega)]; omega
    refine ⟨v, ?_, ?_⟩
    · refine Ev.step (fun k => by rw [spec_plCan.l0]) ?_
      refine Ev.pos (by omega) (Ev.pos (by omega) (Ev.pos (by omega) ?_))
      rw [rd_nat hi, wrap_nat (by omega), hw]
      refine Ev.bind (plTens_ev _ (by omega)) ?_
      rw [wrap_in (by omega) (by omega)]
      exact h1
    · refine Ev.step (fun k => by rw [impl_ArePossible.l0]) ?_
      refine Ev.pos (by omega) (Ev.pos (by omega) (Ev.pos (by omega) ?_))
      rw [rd_nat hi, wrap_nat (by omega), hw]
      refine Ev.bind (power_ev _ (by omega)) ?_
      rw [wrap_in (by omega) (by omega)]
      exact h2
end
end Go.Proofs.Ytkndnkmhlebebaa.PA
