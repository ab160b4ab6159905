/- A plan with a code less: the reference's and the program's are one. No condition but bounds. -/
import Derived.Test.YtphdlbdmdokfaaaDoorPAx0
import Derived.Test.YtphdlbdmdokfaaaDoorPAx6
import Derived.Test.YtphdlbdmdokfaaaDoorPAx7
import Derived.Test.YtphdlbdmdokfaaaDoorPAx8
import Derived.Test.YtphdlbdmdokfaaaDoorQPlanIs
import Derived.Test.YtphdlbdmdokfaaaDoorQHas
namespace Go.Proofs.YtphdlbdmdokfaaaDoor.PA
open Go.RowKit Go.Proofs.YtphdlbdmdokfaaaDoorW.PrintWords
set_option linter.unusedVariables false

def dropB (l : List ByteArray) (c : ByteArray) : List ByteArray := l.filter fun x => !decide (x = c)
theorem mem_dropB {l : List ByteArray} {c x : ByteArray} : x ∈ dropB l c ↔ x ∈ l ∧ x ≠ c := by unfold dropB; rw [List.mem_filter]; simp
theorem drop_up {l : List ByteArray} (c : ByteArray) (h : Up l) : Up (dropB l c) := List.Pairwise.sublist List.filter_sublist h
theorem drop_len (l : List ByteArray) (c : ByteArray) : (dropB l c).length ≤ l.length := List.length_filter_le _ _
theorem drop_good {l : List ByteArray} {c : ByteArray} (h : goodB l = true) (hc : c ∈ l) : goodB (dropB l c) = decide (l.length ≠ 1) := by
  obtain ⟨h1, h2, h3⟩ := good_iff.mp h
  have hl := drop_len l c
  have hcodes := h1
  unfold codesB at hcodes
  simp only [Bool.and_eq_true, decide_eq_true_eq, List.all_eq_true] at hcodes
  by_cases hz : l.length = 1
  · have : dropB l c = [] := by
      match l, hz, hc with
      | [a], _, hc =>
        have := List.mem_singleton.mp hc
        subst this
        simp [dropB]
    rw [this, decide_eq_false (by simp [hz])]
    rfl
  · rw [decide_eq_true hz]
    refine good_iff.mpr ⟨?_, drop_up c h2, fun a ha b hb => h3 a (mem_dropB.mp ha).1 b (mem_dropB.mp hb).1⟩
    have hne : dropB l c ≠ [] := by
      intro e
      match l, hz, hc, h2, hcodes with
      | [], _, hc, _, _ => simp at hc
      | [a], hz, _, _, _ => exact hz rfl
      | a :: b :: r, _, _, hu, _ =>
        have hab := (List.pairwise_cons.mp hu).1 b (by simp)
        have ha : a ∉ dropB (a :: b :: r) c := by rw [e]; simp
        have hb : b ∉ dropB (a :: b :: r) c := by rw [e]; simp
        rw [mem_dropB] at ha hb
        have e1 : a = c := Classical.byContradiction fun hh => ha ⟨by simp, hh⟩
        have e2 : b = c := Classical.byContradiction fun hh => hb ⟨by simp, hh⟩
        rw [e1, e2, ltB_irrefl] at hab
        exact absurd hab (by simp)
    have hpos : 1 ≤ (dropB l c).length := List.length_pos_iff.mpr hne
    unfold codesB
    simp only [Bool.and_eq_true, decide_eq_true_eq, List.all_eq_true]
    exact ⟨⟨by omega, by omega⟩, fun x hx => hcodes.2 x (mem_dropB.mp hx).1⟩
theorem dropB_cons_eq {c x : ByteArray} {r : List ByteArray} (h : x = c) : dropB (x :: r) c = dropB r c := by simp [dropB, h]
theorem dropB_take {l : List ByteArray} {c : ByteArray} {i : Nat} (h : i < l.length) : dropB (l.take (i + 1)) c = if l[i] = c then dropB (l.take i) c else dropB (l.take i) c ++ [l[i]] := by
  unfold dropB
  rw [take_succ_get h, List.filter_append]
  by_cases e : l[i] = c <;> simp [e]
theorem plDrop_l0 (l : List ByteArray) (c : ByteArray) (hl : l.length ≤ 1048576) : ∀ (d i : Nat), i + d = l.length → Ev (fun k => spec_plDrop.l0 k c (dropB (l.take i) c) l (l.length : Int) (i : Int)) (dropB l c)
  | 0, i, h => by
    refine Ev.step (fun k => by rw [spec_plDrop.l0]) ?_
    refine Ev.neg (by omega) (Ev.val ?_)
    rw [List.take_of_length_le (by omega)]
  | d + 1, i, h => by
    have hi : i < l.length := by omega
    have ih := plDrop_l0 l c hl d (i + 1) (by omega)
    rw [dropB_take hi] at ih
    have hz := drop_len (l.take i) c
    rw [List.length_take] at hz
    refine Ev.step (fun k => by rw [spec_plDrop.l0]) ?_
    refine Ev.pos (by omega) (Ev.pos (by omega) (Ev.pos (by omega) ?_))
    rw [rdS_nat hi, wrap_nat (by omega)]
    by_cases e : l[i] = c
    · rw [if_pos e] at ih
      exact Ev.pos (by rw [e]) ih
    · rw [if_neg e] at ih
      exact Ev.neg (fun h => e (toList_inj.mp h)) (Ev.pos (by omega) ih)
theorem plDrop_ev (l : List ByteArray) (c : ByteArray) (hl : l.length ≤ 1048576) : Ev (fun k => spec_plDrop.f k l c) (dropB l c) := plDrop_l0 l c hl l.length 0 (by omega)
theorem plHas_ev (l : List ByteArray) (c : ByteArray) (h1 : l.length ≤ 1048576) (h2 : ∀ y ∈ l, y.size ≤ 1048576) : Ev (fun k => spec_plHas.f k l c) (goodB l && hasB c l) := by
  unfold spec_plHas.f
  refine Ev.bind (plGood_ev l h1 h2) ?_
  cases goodB l with
  | true => exact Ev.pos rfl (Ev.bind (hasS_ev l c h1) (Ev.val (by simp)))
  | false => exact Ev.neg (by simp) (Ev.val rfl)
theorem without_f {l : List ByteArray} (c : ByteArray) (h1 : l ≠ []) (h2 : l.length ≤ 1048576) : impl_without.f l c = some (dropB l c) := by
  unfold impl_without.f
  rw [if_pos ⟨h1, h2⟩]; rfl
end Go.Proofs.YtphdlbdmdokfaaaDoor.PA
