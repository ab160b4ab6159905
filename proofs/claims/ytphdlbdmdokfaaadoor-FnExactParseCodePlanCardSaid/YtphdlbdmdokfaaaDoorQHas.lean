/- Is a text among a list's: the reference and the program answer the same. No condition but bounds. -/
import Derived.Test.YtphdlbdmdokfaaaDoorPAx0
import Derived.Test.YtphdlbdmdokfaaaDoorPAx3
import Derived.Test.YtphdlbdmdokfaaaDoorQPlan
namespace Go.Proofs.YtphdlbdmdokfaaaDoor.PA
open Go.RowKit Go.Proofs.YtphdlbdmdokfaaaDoorW.PrintWords
set_option linter.unusedVariables false

def hasB (c : ByteArray) (l : List ByteArray) : Bool := l.any (fun x => decide (c = x))
theorem hasB_iff {c : ByteArray} {l : List ByteArray} : hasB c l = true ↔ c ∈ l := by
  unfold hasB
  rw [List.any_eq_true]
  exact ⟨fun ⟨x, hx, e⟩ => (of_decide_eq_true e) ▸ hx, fun h => ⟨c, h, decide_eq_true rfl⟩⟩
theorem hasB_cons (c x : ByteArray) (r : List ByteArray) : hasB c (x :: r) = (decide (c = x) || hasB c r) := rfl
theorem hasS_l0 (l : List ByteArray) (c : ByteArray) (hl : l.length ≤ 1048576) : ∀ (d i : Nat), i + d = l.length → Ev (fun k => spec_l1HasS.l0 k c l (l.length : Int) (i : Int)) (hasB c (l.drop i))
  | 0, i, h => by
    refine Ev.step (fun k => by rw [spec_l1HasS.l0]) ?_
    refine Ev.neg (by omega) (Ev.val ?_)
    rw [List.drop_of_length_le (by omega)]; rfl
  | d + 1, i, h => by
    have hi : i < l.length := by omega
    refine Ev.step (fun k => by rw [spec_l1HasS.l0]) ?_
    refine Ev.pos (by omega) (Ev.pos (by omega) (Ev.pos (by omega) ?_))
    rw [rdS_nat hi, wrap_nat (by omega), List.drop_eq_getElem_cons hi, hasB_cons]
    refine Ev.ite (fun e => Ev.val ?_) (fun e => ?_)
    · rw [decide_eq_true (toList_inj.mp e).symm, Bool.true_or]
    · have hne : ¬ c = l[i] := fun h => e (by rw [h])
      have ih := hasS_l0 l c hl d (i + 1) (by omega)
      refine Ev.eq ih ?_
      rw [decide_eq_false hne, Bool.false_or]
theorem hasS_ev (l : List ByteArray) (c : ByteArray) (hl : l.length ≤ 1048576) : Ev (fun k => spec_l1HasS.f k l c) (hasB c l) := by
  have := hasS_l0 l c hl l.length 0 (by omega)
  simpa [spec_l1HasS.f] using this
theorem indexS_l0 (l : List ByteArray) (c : ByteArray) (hl : l.length ≤ 1048576) : ∀ (d i : Nat), i + d = l.length → ∃ v, Ev (fun k => slices_Index_string_string.l0 k l c (l.length : Int) (i : Int)) v ∧ decide (v ≥ 0) = hasB c (l.drop i)
  | 0, i, h => by
    refine ⟨-1, ?_, ?_⟩
    · refine Ev.step (fun k => by rw [slices_Index_string_string.l0]) ?_
      exact Ev.neg (by omega) (Ev.val rfl)
    · rw [List.drop_of_length_le (by omega)]; rfl
  | d + 1, i, h => by
    have hi : i < l.length := by omega
    by_cases e : c.toList = l[i].toList
    · refine ⟨(i : Int), ?_, ?_⟩
      · refine Ev.step (fun k => by rw [slices_Index_string_string.l0]) ?_
        refine Ev.pos (by omega) (Ev.pos (by omega) (Ev.pos (by omega) ?_))
        rw [rdS_nat hi]
        exact Ev.pos e (Ev.val rfl)
      · rw [List.drop_eq_getElem_cons hi, hasB_cons, decide_eq_true (toList_inj.mp e), Bool.true_or]; exact decide_eq_true (by omega)
    · have hne : ¬ c = l[i] := fun h => e (by rw [h])
      obtain ⟨v, hv, hd⟩ := indexS_l0 l c hl d (i + 1) (by omega)
      refine ⟨v, ?_, ?_⟩
      · refine Ev.step (fun k => by rw [slices_Index_string_string.l0]) ?_
        refine Ev.pos (by omega) (Ev.pos (by omega) (Ev.pos (by omega) ?_))
        rw [rdS_nat hi, wrap_nat (by omega)]
        exact Ev.neg e hv
      · rw [hd, List.drop_eq_getElem_cons hi, hasB_cons, decide_eq_false hne, Bool.false_or]
theorem containsS_ev (l : List ByteArray) (c : ByteArray) (hl : l.length ≤ 1048576) : Ev (fun k => slices_Contains_string_string.f k l c) (hasB c l) := by
  obtain ⟨v, hv, hd⟩ := indexS_l0 l c hl l.length 0 (by omega)
  unfold slices_Contains_string_string.f slices_Index_string_string.f
  refine Ev.bind hv (Ev.val ?_)
  rw [hd, List.drop_zero]
theorem code_size {s : ByteArray} (h : codeB s = true) : 1 ≤ s.size ∧ s.size ≤ 6 := by
  unfold codeB digitsB at h
  simp at h
  omega
theorem good_code {l : List ByteArray} (h : goodB l = true) {c : ByteArray} (hc : c ∈ l) : codeB c = true := by
  unfold goodB at h
  simp only [Bool.and_eq_true, List.all_eq_true] at h
  exact h.1.2 c hc
theorem good_len {l : List ByteArray} (h : goodB l = true) : 1 ≤ l.length ∧ l.length ≤ 20 := by
  unfold goodB at h
  simp at h
  omega
end Go.Proofs.YtphdlbdmdokfaaaDoor.PA
