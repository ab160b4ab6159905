/- Making a plan: the reference puts the codes in their places, the program sorts them. No condition but bounds. -/
import Derived.Test.YtphdlbdmdokfaaaDoorPAx0
import Derived.Test.YtphdlbdmdokfaaaDoorPAx4
import Derived.Test.YtphdlbdmdokfaaaDoorPAx8
import Derived.Test.YtphdlbdmdokfaaaDoorQPlan
import Derived.Test.YtphdlbdmdokfaaaDoorQPut
import Derived.Test.YtphdlbdmdokfaaaDoorQSorted
namespace Go.Proofs.YtphdlbdmdokfaaaDoor.PA
open Go.RowKit Go.Proofs.YtphdlbdmdokfaaaDoorW.PrintWords
set_option linter.unusedVariables false

theorem chain_up : ∀ (l : List ByteArray), chainB l = true → Up l
  | [], _ => List.Pairwise.nil
  | [a], _ => List.pairwise_singleton ..
  | a :: b :: r, h => by
    rw [chainB, Bool.and_eq_true] at h
    have ih := chain_up (b :: r) h.2
    have hab : ltB a b = true := by have := h.1; unfold stepB at this; rw [Bool.and_eq_true] at this; exact this.1
    refine List.pairwise_cons.mpr ⟨fun z hz => ?_, ih⟩
    rcases List.mem_cons.mp hz with rfl | hz
    · exact hab
    · exact ltB_trans hab ((List.pairwise_cons.mp ih).1 z hz)
theorem good_up {l : List ByteArray} (h : goodB l = true) : Up l := by
  unfold goodB at h
  rw [Bool.and_eq_true] at h
  exact chain_up l h.2
def codesB (l : List ByteArray) : Bool := decide (1 ≤ (l.length : Int)) && decide ((l.length : Int) ≤ 20) && l.all codeB
theorem good_codes {l : List ByteArray} (h : goodB l = true) : codesB l = true := by
  unfold goodB at h
  rw [Bool.and_eq_true] at h
  exact h.1
theorem codes_perm {a b : List ByteArray} (h : a.Perm b) : codesB a = codesB b := by
  unfold codesB
  rw [h.length_eq, h.all_eq]
/-- the plan of some codes, if they make one -/
def planOf (l : List ByteArray) : List ByteArray × Bool := if codesB l = true ∧ (putAll [] l).length = l.length ∧ goodB (putAll [] l) = true then (putAll [] l, true) else ([], false)
theorem planOf_len (l : List ByteArray) : (planOf l).1.length ≤ 20 := by
  unfold planOf
  split
  · rename_i h
    have := good_codes h.2.2
    unfold codesB at this
    simp only [Bool.and_eq_true, decide_eq_true_eq] at this
    show (putAll [] l).length ≤ 20
    omega
  · simp
section
variable (l : List ByteArray) (hl : l.length ≤ 1048576) (hs : ∀ y ∈ l, y.size ≤ 1048576)
include hl hs
theorem makeS_l0 (hc : codesB l = true) : ∀ (d i : Nat), i + d = l.length → Up (putAll [] (l.take i)) → Ev (fun k => spec_MakePlan.l0 k l (putAll [] (l.take i)) l (l.length : Int) (i : Int)) (planOf l)
  | 0, i, h, hu => by
    have ht : l.take i = l := List.take_of_length_le (by omega)
    rw [ht] at hu ⊢
    obtain ⟨_, h2, h3, _⟩ := putAll_facts l [] List.Pairwise.nil
    refine Ev.step (fun k => by rw [spec_MakePlan.l0]) ?_
    refine Ev.neg (by omega) ?_
    unfold planOf
    by_cases hz : (putAll [] l).length = l.length
    · have hp := h3 (by simpa using hz)
      rw [List.append_nil] at hp
      have hg := plGood_ev (putAll [] l) (by omega) (fun y hy => hs y (hp.mem_iff.mp hy))
      refine Ev.pos (by omega) (Ev.bind hg ?_)
      cases g : goodB (putAll [] l) with
      | true => exact Ev.pos rfl (Ev.val (by rw [if_pos ⟨hc, hz, rfl⟩]))
      | false => exact Ev.neg (by simp) (Ev.val (by simp))
    · exact Ev.neg (by omega) (Ev.val (by rw [if_neg (fun h => hz h.2.1)]))
  | d + 1, i, h, hu => by
    have hi : i < l.length := by omega
    have hlen := (putAll_facts (l.take i) [] List.Pairwise.nil).2.1
    have hlen' : (putAll [] (l.take i)).length ≤ 1048576 := by simp only [List.length_nil, List.length_take] at hlen; omega
    refine Ev.step (fun k => by rw [spec_MakePlan.l0]) ?_
    refine Ev.pos (by omega) (Ev.pos (by omega) (Ev.pos (by omega) ?_))
    rw [rdS_nat hi, wrap_nat (by omega)]
    refine Ev.bind (wdPut_ev _ _ hlen' hu) ?_
    have e : insB l[i] (putAll [] (l.take i)) = putAll [] (l.take (i + 1)) := by
      unfold putAll
      rw [take_succ_get hi, List.foldl_append]; rfl
    rw [e]
    exact makeS_l0 hc d (i + 1) (by omega) (by rw [← e]; exact up_insB hu)
theorem makeS_ev : Ev (fun k => spec_MakePlan.f k l) (planOf l) := by
  unfold spec_MakePlan.f
  refine Ev.bind (plCodes_ev l hl hs) ?_
  show Ev (fun k => if codesB l = true then _ else _) _
  cases hc : codesB l with
  | true => exact Ev.pos rfl (makeS_l0 l hl hs hc l.length 0 (by omega) List.Pairwise.nil)
  | false => exact Ev.neg (by simp) (Ev.val (by unfold planOf; rw [hc, if_neg (by simp)]))
theorem makeI_ev : Ev (fun k => impl_MakePlan.f k l) (planOf l) := by
  unfold impl_MakePlan.f
  by_cases h20 : (l.length : Int) > 20
  · refine Ev.pos h20 (Ev.val ?_)
    have hc : codesB l = false := by
      unfold codesB
      simp [show ¬ (l.length : Int) ≤ 20 by omega]
    unfold planOf
    rw [hc, if_neg (by simp)]
  · have hcl : slices_Clone_string_string.f l = some l := by unfold slices_Clone_string_string.f; rw [if_pos hl]
    have hso : slices_Sort_string_string.f l = some (sortB l) := by unfold slices_Sort_string_string.f; rw [if_pos hl]; rfl
    have hp := sortB_perm l
    have hgood := isCodePlan_ev (sortB l) (by rw [hp.length_eq]; exact hl) (fun y hy => hs y (hp.mem_iff.mp hy))
    refine Ev.neg h20 (Ev.vbind hcl (Ev.vbind hso (Ev.bind (a := planOf l) ?_ (Ev.val rfl))))
    unfold impl_toldCodes.f
    refine Ev.bind hgood ?_
    obtain ⟨u1, u2, u3, u4⟩ := putAll_facts l [] List.Pairwise.nil
    cases g : goodB (sortB l) with
    | true =>
      have hc : codesB l = true := by rw [← codes_perm hp]; exact good_codes g
      have hn : l.Nodup := hp.nodup_iff.mp (up_nodup (good_up g))
      have hz : (putAll [] l).length = l.length := by have := u4 (by rw [List.append_nil]; exact hn); simpa using this
      have hpu := u3 (by simpa using hz)
      rw [List.append_nil] at hpu
      have e := sortB_eq u1 hpu
      rw [e] at g ⊢
      exact Ev.pos rfl (Ev.val (by unfold planOf; rw [if_pos ⟨hc, hz, g⟩]))
    | false =>
      refine Ev.neg (by simp) (Ev.val ?_)
      unfold planOf
      rw [if_neg]
      rintro ⟨hc, hz, gg⟩
      have hpu := u3 (by simpa using hz)
      rw [List.append_nil] at hpu
      rw [sortB_eq u1 hpu, gg] at g
      exact absurd g (by simp)
end
theorem makePlan_key (l : List ByteArray) (hl : l.length ≤ 1048576) (hs : ∀ y ∈ l, y.size ≤ 1048576) : ∃ r : List ByteArray × Bool, Ev (fun k => spec_MakePlan.f k l) r ∧ Ev (fun k => impl_MakePlan.f k l) r ∧ r.1.length ≤ 1048576 :=
  ⟨planOf l, makeS_ev l hl hs, makeI_ev l hl hs, by have := planOf_len l; omega⟩
end Go.Proofs.YtphdlbdmdokfaaaDoor.PA
