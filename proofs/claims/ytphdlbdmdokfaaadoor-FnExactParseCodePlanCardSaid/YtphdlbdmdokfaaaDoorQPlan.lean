/- Plans: the reference and the program ask for the same. No condition but bounds of size. -/
import Derived.Test.YtphdlbdmdokfaaaDoorPAx0
import Derived.Test.YtphdlbdmdokfaaaDoorPAx1
import Derived.Test.YtphdlbdmdokfaaaDoorPAx2
import Derived.Test.YtphdlbdmdokfaaaDoorPAx3
import Derived.Test.YtphdlbdmdokfaaaDoorQDigits
import Derived.Test.YtphdlbdmdokfaaaDoorQStrs
namespace Go.Proofs.YtphdlbdmdokfaaaDoor.PA
open Go.RowKit Go.Proofs.YtphdlbdmdokfaaaDoorW.PrintWords
set_option linter.unusedVariables false

def codeB (s : ByteArray) : Bool := digitsB s 1 6
theorem plCode_ev (s : ByteArray) (hs : s.size ≤ 4611686018427387903) : Ev (fun k => spec_plCode.f k s) (codeB s) := by
  unfold spec_plCode.f
  exact Ev.bind (piDigits_ev s 1 6 hs) (Ev.val rfl)
theorem isCode_f (s : ByteArray) (hs : s.size ≤ 140737488355328) : impl_isCode.f s = some (codeB s) := by
  unfold impl_isCode.f
  rw [isDigits_f s 1 6 hs]; rfl

/-- does a code begin a text -/
def begB (c t : ByteArray) : Bool := c.data.toList.isPrefixOf t.data.toList
theorem prefix_take (c t : List UInt8) : (decide (c.length ≤ t.length) && (t.take c.length == c)) = c.isPrefixOf t := by
  induction c generalizing t with
  | nil => simp
  | cons a c ih =>
    cases t with
    | nil => simp
    | cons b t =>
      simp only [List.length_cons, List.take_succ_cons, List.isPrefixOf_cons_cons, ← ih t]
      have hs : (b == a) = (a == b) := Bool.beq_comm
      by_cases h : c.length ≤ t.length <;> simp [h, hs]
theorem plBegins_f (c t : ByteArray) : spec_plBegins.f c t = some (begB c t) := by
  unfold spec_plBegins.f begB
  rw [← prefix_take]
  by_cases h : (c.size : Int) ≤ (t.size : Int)
  · rw [if_pos h, if_pos (by omega), Int.toNat_natCast, toList_data, toList_data, data_extract, List.drop_zero, ← size_data, ← size_data]
    simp [show c.size ≤ t.size by omega]
  · rw [if_neg h, ← size_data, ← size_data]
    simp [show ¬ c.size ≤ t.size by omega]
theorem hasPrefix_f (t c : ByteArray) : strings_HasPrefix.f t c = some (begB c t) := by
  unfold strings_HasPrefix.f stringslite_HasPrefix.f begB
  rw [← prefix_take]
  by_cases h : (t.size : Int) ≥ (c.size : Int)
  · rw [if_pos h, if_pos (by omega), if_pos (by omega), Int.toNat_natCast, toList_data, toList_data, data_extract, List.drop_zero, ← size_data, ← size_data]
    simp [show c.size ≤ t.size by omega]
  · rw [if_neg h, ← size_data, ← size_data]
    simp [show ¬ c.size ≤ t.size by omega]
theorem begins_f (c t : ByteArray) : impl_begins.f c t = some (begB c t) := by
  unfold impl_begins.f
  rw [hasPrefix_f]; rfl

def lessB (a b : ByteArray) : Bool := Op.bytesLess a.toList b.toList
def stepB (a b : ByteArray) : Bool := lessB a b && !begB a b
def chainB : List ByteArray → Bool
  | a :: b :: r => stepB a b && chainB (b :: r)
  | _ => true
/-- a plan -/
def goodB (l : List ByteArray) : Bool := decide (1 ≤ (l.length : Int)) && decide ((l.length : Int) ≤ 20) && l.all codeB && chainB l

section
variable (l : List ByteArray) (hl : l.length ≤ 1048576) (hs : ∀ y ∈ l, y.size ≤ 1048576)
include hl hs
theorem plCodes_l0 : ∀ (d i : Nat), i + d = l.length → Ev (fun k => spec_plCodes.l0 k l (l.length : Int) (i : Int)) ((l.drop i).all codeB)
  | 0, i, h => by
    refine Ev.step (fun k => rfl) (Ev.neg (by omega) (Ev.val ?_))
    rw [List.drop_of_length_le (by omega)]; rfl
  | d + 1, i, h => by
    have hi : i < l.length := by omega
    have hy := hs l[i] (List.getElem_mem hi)
    refine Ev.step (fun k => rfl) (Ev.pos (by omega) (Ev.pos (by omega) (Ev.pos (by omega) ?_)))
    rw [rdS_nat hi, wrap_nat (by omega), List.drop_eq_getElem_cons hi, List.all_cons]
    refine Ev.bind (plCode_ev _ (by omega)) ?_
    cases codeB l[i] with
    | true => exact Ev.pos rfl (by simpa using plCodes_l0 d (i + 1) (by omega))
    | false => exact Ev.neg (by simp) (Ev.val (by simp))
theorem plCodes_ev : Ev (fun k => spec_plCodes.f k l) (decide (1 ≤ (l.length : Int)) && decide ((l.length : Int) ≤ 20) && l.all codeB) := by
  unfold spec_plCodes.f
  refine Ev.vbind (l1In_f _ _ _) ?_
  cases decide (1 ≤ (l.length : Int)) && decide ((l.length : Int) ≤ 20) with
  | true => exact Ev.pos rfl (by simpa using plCodes_l0 l hl hs l.length 0 (by omega))
  | false => exact Ev.neg (by simp) (Ev.val (by simp))
omit hs in
theorem plGood_l0 : ∀ (d i : Nat), i + d = l.length → 1 ≤ i → Ev (fun k => spec_plGood.l0 k l (i : Int)) (chainB (l.drop (i - 1)))
  | 0, i, h, h1 => by
    refine Ev.step (fun k => rfl) (Ev.neg (by omega) (Ev.val ?_))
    rcases Nat.lt_or_ge (i - 1) l.length with hlt | hge
    · rw [List.drop_eq_getElem_cons hlt, List.drop_of_length_le (by omega)]; rfl
    · rw [List.drop_of_length_le hge]; rfl
  | d + 1, i, h, h1 => by
    have hi : i < l.length := by omega
    have hj : wrap64 ((i : Int) - 1) = ((i - 1 : Nat) : Int) := by rw [wrap_in (by omega) (by omega)]; omega
    refine Ev.step (fun k => rfl) (Ev.pos (by omega) ?_)
    rw [hj]
    refine Ev.pos (by omega) (Ev.pos (by omega) (Ev.pos (by omega) ?_))
    rw [rdS_nat hi, rdS_nat (show i - 1 < l.length by omega), wrap_nat (by omega)]
    rw [List.drop_eq_getElem_cons (show i - 1 < l.length by omega), show i - 1 + 1 = i by omega, List.drop_eq_getElem_cons hi]
    show Ev _ (stepB l[i - 1] l[i] && chainB (l[i] :: l.drop (i + 1)))
    unfold stepB lessB
    refine Ev.ite (fun e => ?_) (fun e => Ev.val ?_)
    · rw [e, Bool.true_and]
      refine Ev.vbind (plBegins_f _ _) ?_
      cases begB l[i - 1] l[i] with
      | true => exact Ev.pos rfl (Ev.val rfl)
      | false =>
        refine Ev.neg (by simp) ?_
        have := plGood_l0 d (i + 1) (by omega) (by omega)
        rw [show i + 1 - 1 = i by omega, List.drop_eq_getElem_cons hi] at this
        simpa using this
    · simp [show Op.bytesLess l[i - 1].toList l[i].toList = false by simpa using e]
theorem plGood_ev : Ev (fun k => spec_plGood.f k l) (goodB l) := by
  unfold spec_plGood.f goodB
  refine Ev.bind (plCodes_ev l hl hs) ?_
  cases hc : decide (1 ≤ (l.length : Int)) && decide ((l.length : Int) ≤ 20) && l.all codeB with
  | true =>
    have h1 : 1 ≤ l.length := by
      cases h : decide (1 ≤ (l.length : Int)) with
      | true => have := of_decide_eq_true h; omega
      | false => rw [h] at hc; simp at hc
    exact Ev.pos rfl (by simpa using plGood_l0 l hl (l.length - 1) 1 (by omega) (by omega))
  | false => exact Ev.neg (by simp) (Ev.val (by simp))
end
section
variable (l : List ByteArray) (hl : l.length ≤ 1048577) (hs : ∀ y ∈ l, y.size ≤ 1048576)
include hl hs
theorem isCodePlan_l0 : ∀ (d i : Nat), i + d = l.length → Ev (fun k => impl_IsCodePlan.l0 k l l (l.length : Int) (i : Int)) ((l.drop i).all codeB && chainB (l.drop (i - 1)) && (decide (1 ≤ (l.length : Int)) && decide ((l.length : Int) ≤ 20)))
  | 0, i, h => by
    refine Ev.step (fun k => rfl) (Ev.neg (by omega) (Ev.val ?_))
    rw [in_f, Option.bind_some, List.drop_of_length_le (l := l) (i := i) (by omega)]
    congr 1
    rcases Nat.lt_or_ge (i - 1) l.length with hlt | hge
    · rw [List.drop_eq_getElem_cons hlt, List.drop_of_length_le (by omega)]; simp [chainB]
    · rw [List.drop_of_length_le hge]; simp [chainB]
  | d + 1, i, h => by
    have hi : i < l.length := by omega
    have hy := hs l[i] (List.getElem_mem hi)
    refine Ev.step (fun k => rfl) (Ev.pos (by omega) (Ev.pos (by omega) (Ev.pos (by omega) ?_)))
    have ih := isCodePlan_l0 d (i + 1) (by omega)
    rw [show i + 1 - 1 = i by omega] at ih
    rw [rdS_nat hi, wrap_nat (by omega)]
    refine Ev.vbind (isCode_f _ (by omega)) ?_
    rw [show (l.drop i).all codeB = (codeB l[i] && (l.drop (i + 1)).all codeB) by rw [List.drop_eq_getElem_cons hi, List.all_cons]]
    cases codeB l[i] with
    | false => exact Ev.neg (by simp) (Ev.val (by simp))
    | true =>
      refine Ev.pos rfl ?_
      rw [Bool.true_and]
      refine Ev.ite (fun e => ?_) (fun e => ?_)
      · have hj : wrap64 ((i : Int) - 1) = ((i - 1 : Nat) : Int) := by rw [wrap_in (by omega) (by omega)]; omega
        rw [hj]
        refine Ev.pos (by omega) (Ev.pos (by omega) ?_)
        rw [rdS_nat (show i - 1 < l.length by omega)]
        rw [show chainB (l.drop (i - 1)) = (stepB l[i - 1] l[i] && chainB (l.drop i)) by
          rw [List.drop_eq_getElem_cons (show i - 1 < l.length by omega), show i - 1 + 1 = i by omega, List.drop_eq_getElem_cons hi]; rfl]
        unfold stepB lessB
        refine Ev.ite (fun e => ?_) (fun e => Ev.val ?_)
        · rw [e, Bool.true_and]
          refine Ev.vbind (begins_f _ _) ?_
          cases begB l[i - 1] l[i] with
          | true => exact Ev.pos rfl (Ev.val (by simp))
          | false => exact Ev.neg (by simp) (by simpa using ih)
        · simp [show Op.bytesLess l[i - 1].toList l[i].toList = false by simpa using e]
      · have : i = 0 := by omega
        subst this
        simpa using ih
theorem isCodePlan_ev2 : Ev (fun k => impl_IsCodePlan.f k l) (goodB l) := by
  unfold impl_IsCodePlan.f
  refine Ev.eq (isCodePlan_l0 l hl hs l.length 0 (by omega)) ?_
  unfold goodB
  simp only [List.drop_zero, Nat.zero_sub]
  cases l.all codeB <;> cases chainB l <;> simp
end
theorem isCodePlan_ev (l : List ByteArray) (hl : l.length ≤ 1048576) (hs : ∀ y ∈ l, y.size ≤ 1048576) : Ev (fun k => impl_IsCodePlan.f k l) (goodB l) := isCodePlan_ev2 l (by omega) hs
end Go.Proofs.YtphdlbdmdokfaaaDoor.PA
