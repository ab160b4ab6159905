/- The plain facts that the law FnExactPlanOfLengths's proof leans on, in one text: each part has its own sentence. No condition but bounds. -/
import Derived.Test.YtnodkdjaemahcaaGreatDoorPAx0
import Derived.Test.YtnodkdjaemahcaaGreatDoorPAx1
import Derived.Test.YtnodkdjaemahcaaGreatDoorPAx2
import Derived.Test.YtnodkdjaemahcaaGreatDoorPAx3
import Derived.Test.YtnodkdjaemahcaaGreatDoorPAx4
import Derived.Lib.Strings
import Derived.Test.YtnodkdjaemahcaaGreatDoorWWords
import Derived.Test.YtnodkdjaemahcaaGreatDoorWMore
import Derived.Test.YtnodkdjaemahcaaGreatDoorXX
/-! Plain facts that the laws' pure proofs share: answers from some number of rounds on, numbers without wrap, strings as lists of bytes. No condition. -/
namespace Go.Proofs.YtnodkdjaemahcaaGreatDoor.PA
open Go.RowKit Go.Proofs.YtnodkdjaemahcaaGreatDoorW.PrintWords
set_option linter.unusedVariables false

theorem Ev.pos {α : Type} {c : Prop} [Decidable c] {a b : Nat → Option α} {r : α} (hc : c) (h : Ev a r) : Ev (fun k => if c then a k else b k) r := Ev.congr (fun k => if_pos hc) h
theorem Ev.neg {α : Type} {c : Prop} [Decidable c] {a b : Nat → Option α} {r : α} (hc : ¬ c) (h : Ev b r) : Ev (fun k => if c then a k else b k) r := Ev.congr (fun k => if_neg hc) h
theorem Ev.ite {α : Type} {c : Prop} [Decidable c] {a b : Nat → Option α} {r : α} (h1 : c → Ev a r) (h2 : ¬ c → Ev b r) : Ev (fun k => if c then a k else b k) r := by
  by_cases hc : c
  · exact Ev.pos hc (h1 hc)
  · exact Ev.neg hc (h2 hc)
theorem Ev.val {α : Type} {o : Option α} {r : α} (h : o = some r) : Ev (fun _ => o) r := ⟨0, fun _ _ => h⟩
theorem Ev.vbind {α β : Type} {o : Option α} {f : Nat → α → Option β} {a : α} {r : β} (h : o = some a) (k : Ev (fun n => f n a) r) : Ev (fun n => o.bind (f n)) r := Ev.bind (g := fun _ => o) (Ev.val h) k
theorem Ev.unique {α : Type} {g : Nat → Option α} {a b : α} (h : Ev g a) (k : Ev g b) : a = b := by
  obtain ⟨K, h⟩ := h
  obtain ⟨K', k⟩ := k
  exact Option.some.inj ((h (max K K') (Nat.le_max_left _ _)).symm.trans (k (max K K') (Nat.le_max_right _ _)))
theorem Ev.eq {α : Type} {g : Nat → Option α} {a b : α} (h : Ev g a) (e : a = b) : Ev g b := e ▸ h

theorem wrap_nat {i : Nat} (h : i < 4611686018427387904) : wrap64 ((i : Int) + 1) = ((i + 1 : Nat) : Int) := by unfold wrap64; omega
theorem wrap_in {n : Int} (h : -9223372036854775808 ≤ n) (h2 : n ≤ 9223372036854775807) : wrap64 n = n := by unfold wrap64; omega
theorem rd_nat {l : List Int} {i : Nat} (h : i < l.length) : rd l (i : Int) = l[i] := by simp [rd, h]
theorem rdS_nat {l : List ByteArray} {i : Nat} (h : i < l.length) : rdOf ByteArray.empty l (i : Int) = l[i] := by simp [rdOf, h]
theorem bt_nat {s : ByteArray} {i : Nat} (h : i < s.size) : bt s (i : Int) = ((s.data.toList[i]'(by simpa using h)).toNat : Int) := by
  unfold bt
  rw [dif_pos (by simpa using h)]
  rfl
theorem toList_data (s : ByteArray) : s.toList = s.data.toList := Go.Lib.toList_data s
theorem size_data (s : ByteArray) : s.size = s.data.toList.length := rfl
theorem ba_ext {a b : ByteArray} (h : a.data.toList = b.data.toList) : a = b := by
  cases a with
  | mk a => cases b with
    | mk b => exact congrArg ByteArray.mk (Array.toList_inj.mp h)
theorem toList_inj {a b : ByteArray} : a.toList = b.toList ↔ a = b := ⟨fun h => ba_ext (by rw [← toList_data, ← toList_data, h]), fun h => by rw [h]⟩
theorem toList_mk (l : List UInt8) : (⟨l.toArray⟩ : ByteArray).toList = l := by rw [toList_data]
theorem data_extract (s : ByteArray) (a b : Nat) : (s.extract a b).data.toList = (s.data.toList.take b).drop a := by
  rw [ByteArray.data_extract, Array.toList_extract, List.extract_eq_take_drop, List.drop_take]
theorem data_append (a b : ByteArray) : (a ++ b).data.toList = a.data.toList ++ b.data.toList := by
  rw [ByteArray.data_append, Array.toList_append]
theorem size_append (a b : ByteArray) : (a ++ b).size = a.size + b.size := by rw [size_data, data_append, List.length_append]; rfl
theorem take_succ_get {α : Type} {l : List α} {i : Nat} (h : i < l.length) : l.take (i + 1) = l.take i ++ [l[i]] := by
  rw [List.take_add_one, List.getElem?_eq_getElem h]; rfl

/-- digits alone -/
def digB (c : UInt8) : Bool := decide (48 ≤ c.toNat) && decide (c.toNat ≤ 57)
def digitsB (s : ByteArray) (lo hi : Int) : Bool := decide (lo ≤ (s.size : Int)) && decide ((s.size : Int) ≤ hi) && s.data.toList.all digB
theorem contains_dig (c : UInt8) : ([48, 49, 50, 51, 52, 53, 54, 55, 56, 57] : List UInt8).contains c = digB c := by
  have h : ∀ n : Fin 256, ([48, 49, 50, 51, 52, 53, 54, 55, 56, 57] : List UInt8).contains (UInt8.ofNat n.val) = digB (UInt8.ofNat n.val) := by decide +kernel
  have := h ⟨c.toNat, c.toNat_lt⟩
  simpa using this
end Go.Proofs.YtnodkdjaemahcaaGreatDoor.PA

/-! Is a number within bounds: the reference's and the program's own. No condition. -/
namespace Go.Proofs.YtnodkdjaemahcaaGreatDoor.PA
open Go.RowKit Go.Proofs.YtnodkdjaemahcaaGreatDoorW.PrintWords
set_option linter.unusedVariables false

theorem l1In_f (a b c : Int) : spec_l1In.f a b c = some (decide (b ≤ a) && decide (a ≤ c)) := by
  unfold spec_l1In.f
  by_cases h : a ≥ b
  · rw [if_pos h]; simp [show b ≤ a from h]
  · rw [if_neg h]; simp [show ¬ b ≤ a from h]
theorem in_f (a b c : Int) : impl_in.f a b c = some (decide (b ≤ a) && decide (a ≤ c)) := by
  unfold impl_in.f
  by_cases h : a ≥ b
  · rw [if_pos h]; simp [show b ≤ a from h]
  · rw [if_neg h]; simp [show ¬ b ≤ a from h]
end Go.Proofs.YtnodkdjaemahcaaGreatDoor.PA

/-! Digits alone, as the program asks for them. No condition but bounds of size. -/
namespace Go.Proofs.YtnodkdjaemahcaaGreatDoor.PA
open Go.RowKit Go.Proofs.YtnodkdjaemahcaaGreatDoorW.PrintWords
set_option linter.unusedVariables false

theorem over_digits (s : ByteArray) (hs : s.size ≤ 140737488355328) : impl_over.f s (⟨#[48, 49, 50, 51, 52, 53, 54, 55, 56, 57]⟩ : ByteArray) = some (s.data.toList.all digB) := by
  unfold impl_over.f
  rw [if_pos ⟨hs, by decide, by decide⟩]
  congr 1
  exact congrArg (fun f => s.data.toList.all f) (funext contains_dig)
end Go.Proofs.YtnodkdjaemahcaaGreatDoor.PA

/-! Texts of digits, as the program asks for them. No condition but bounds of size. -/
namespace Go.Proofs.YtnodkdjaemahcaaGreatDoor.PA
open Go.RowKit Go.Proofs.YtnodkdjaemahcaaGreatDoorW.PrintWords
set_option linter.unusedVariables false

theorem isDigits_f (s : ByteArray) (lo hi : Int) (hs : s.size ≤ 140737488355328) : impl_isDigits.f s lo hi = some (digitsB s lo hi) := by
  unfold impl_isDigits.f digitsB
  rw [in_f, Option.bind_some]
  cases decide (lo ≤ (s.size : Int)) && decide ((s.size : Int) ≤ hi) with
  | true => rw [if_pos rfl, over_digits s hs]; simp
  | false => rw [if_neg (by simp)]; simp
end Go.Proofs.YtnodkdjaemahcaaGreatDoor.PA

/-! Texts of digits, as the reference and the program ask for them: one Bool for both. No condition but bounds of size. -/
namespace Go.Proofs.YtnodkdjaemahcaaGreatDoor.PA
open Go.RowKit Go.Proofs.YtnodkdjaemahcaaGreatDoorW.PrintWords
set_option linter.unusedVariables false

end Go.Proofs.YtnodkdjaemahcaaGreatDoor.PA

/-! The laws' equality over lists of texts is equality. No condition but bounds. -/
namespace Go.Proofs.YtnodkdjaemahcaaGreatDoor.PA
open Go.RowKit Go.Proofs.YtnodkdjaemahcaaGreatDoorW.PrintWords
set_option linter.unusedVariables false

theorem eqStringS_l0 (a b : List ByteArray) (hab : a.length = b.length) (hl : a.length ≤ 4611686018427387903) : ∀ (d i : Nat), i + d = a.length → a.take i = b.take i → Ev (fun k => laws_eqStringS.l0 k a b (i : Int)) (decide (a = b))
  | 0, i, h, ht => by
    refine Ev.step (fun k => rfl) ?_
    refine Ev.neg (by omega) (Ev.val ?_)
    rw [List.take_of_length_le (by omega), List.take_of_length_le (by omega)] at ht
    simp [ht]
  | d + 1, i, h, ht => by
    refine Ev.step (fun k => rfl) ?_
    refine Ev.pos (by omega) (Ev.pos (by omega) (Ev.pos (by omega) ?_))
    rw [rdS_nat (show i < a.length by omega), rdS_nat (show i < b.length by omega), wrap_nat (by omega)]
    refine Ev.ite (fun e => ?_) (fun e => Ev.val ?_)
    · refine eqStringS_l0 a b hab hl d (i + 1) (by omega) ?_
      rw [take_succ_get (by omega), take_succ_get (by omega), ht, toList_inj.mp e]
    · have : ¬ a = b := fun e2 => e (by subst e2; rfl)
      simp [this]
theorem eqStringS_ev {a b : List ByteArray} (hl : a.length ≤ 4611686018427387903) : Ev (fun k => laws_eqStringS.f k a b) (decide (a = b)) := by
  unfold laws_eqStringS.f
  refine Ev.ite (fun e => ?_) (fun e => Ev.val ?_)
  · exact eqStringS_l0 a b (by omega) hl a.length 0 (by omega) (by simp)
  · have : ¬ a = b := fun e2 => e (by rw [e2])
    simp [this]

end Go.Proofs.YtnodkdjaemahcaaGreatDoor.PA

/-! The laws' own helpers over lists of texts: copying keeps them, sizes are counted, equality is equality. No condition but bounds. -/
namespace Go.Proofs.YtnodkdjaemahcaaGreatDoor.PA
open Go.RowKit Go.Proofs.YtnodkdjaemahcaaGreatDoorW.PrintWords
set_option linter.unusedVariables false

end Go.Proofs.YtnodkdjaemahcaaGreatDoor.PA

/-! Plans: the reference and the program ask for the same. No condition but bounds of size. -/
namespace Go.Proofs.YtnodkdjaemahcaaGreatDoor.PA
open Go.RowKit Go.Proofs.YtnodkdjaemahcaaGreatDoorW.PrintWords
set_option linter.unusedVariables false

def codeB (s : ByteArray) : Bool := digitsB s 1 6
theorem isCode_f (s : ByteArray) (hs : s.size ≤ 140737488355328) : impl_isCode.f s = some (codeB s) := by
  unfold impl_isCode.f
  rw [isDigits_f s 1 6 hs]; rfl

/-- does a code begin a text -/
def begB (c t : ByteArray) : Bool := c.data.toList.isPrefixOf t.data.toList
theorem prefix_take (c t : List UInt8) : (decide (c.length ≤ t.length) && (t.take c.length == c)) = c.isPrefixOf t := by
  induction c generalizing t with
  | nil => simp
  | cons a c ih =>
    cases t with
    | nil => simp
    | cons b t =>
      simp only [List.length_cons, List.take_succ_cons, List.isPrefixOf_cons_cons, ← ih t]
      have hs : (b == a) = (a == b) := Bool.beq_comm
      by_cases h : c.length ≤ t.length <;> simp [h, hs]
theorem plBegins_f (c t : ByteArray) : spec_plBegins.f c t = some (begB c t) := by
  unfold spec_plBegins.f begB
  rw [← prefix_take]
  by_cases h : (c.size : Int) ≤ (t.size : Int)
  · rw [if_pos h, if_pos (by omega), Int.toNat_natCast, toList_data, toList_data, data_extract, List.drop_zero, ← size_data, ← size_data]
    simp [show c.size ≤ t.size by omega]
  · rw [if_neg h, ← size_data, ← size_data]
    simp [show ¬ c.size ≤ t.size by omega]
theorem hasPrefix_f (t c : ByteArray) : strings_HasPrefix.f t c = some (begB c t) := by
  unfold strings_HasPrefix.f stringslite_HasPrefix.f begB
  rw [← prefix_take]
  by_cases h : (t.size : Int) ≥ (c.size : Int)
  · rw [if_pos h, if_pos (by omega), if_pos (by omega), Int.toNat_natCast, toList_data, toList_data, data_extract, List.drop_zero, ← size_data, ← size_data]
    simp [show c.size ≤ t.size by omega]
  · rw [if_neg h, ← size_data, ← size_data]
    simp [show ¬ c.size ≤ t.size by omega]
theorem begins_f (c t : ByteArray) : impl_begins.f c t = some (begB c t) := by
  unfold impl_begins.f
  rw [hasPrefix_f]; rfl

def lessB (a b : ByteArray) : Bool := Op.bytesLess a.toList b.toList
def stepB (a b : ByteArray) : Bool := lessB a b && !begB a b
def chainB : List ByteArray → Bool
  | a :: b :: r => stepB a b && chainB (b :: r)
  | _ => true
/-- a plan -/
def goodB (l : List ByteArray) : Bool := decide (1 ≤ (l.length : Int)) && decide ((l.length : Int) ≤ 20) && l.all codeB && chainB l

section
variable (l : List ByteArray) (hl : l.length ≤ 1048576) (hs : ∀ y ∈ l, y.size ≤ 1048576)
include hl hs
end
section
variable (l : List ByteArray) (hl : l.length ≤ 1048577) (hs : ∀ y ∈ l, y.size ≤ 1048576)
include hl hs
theorem isCodePlan_l0 : ∀ (d i : Nat), i + d = l.length → Ev (fun k => impl_IsCodePlan.l0 k l l (l.length : Int) (i : Int)) ((l.drop i).all codeB && chainB (l.drop (i - 1)) && (decide (1 ≤ (l.length : Int)) && decide ((l.length : Int) ≤ 20)))
  | 0, i, h => by
    refine Ev.step (fun k => rfl) (Ev.neg (by omega) (Ev.val ?_))
    rw [in_f, Option.bind_some, List.drop_of_length_le (l := l) (i := i) (by omega)]
    congr 1
    rcases Nat.lt_or_ge (i - 1) l.length with hlt | hge
    · rw [List.drop_eq_getElem_cons hlt, List.drop_of_length_le (by omega)]; simp [chainB]
    · rw [List.drop_of_length_le hge]; simp [chainB]
  | d + 1, i, h => by
    have hi : i < l.length := by omega
    have hy := hs l[i] (List.getElem_mem hi)
    refine Ev.step (fun k => rfl) (Ev.pos (by omega) (Ev.pos (by omega) (Ev.pos (by omega) ?_)))
    have ih := isCodePlan_l0 d (i + 1) (by omega)
    rw [show i + 1 - 1 = i by omega] at ih
    rw [rdS_nat hi, wrap_nat (by omega)]
    refine Ev.vbind (isCode_f _ (by omega)) ?_
    rw [show (l.drop i).all codeB = (codeB l[i] && (l.drop (i + 1)).all codeB) by rw [List.drop_eq_getElem_cons hi, List.all_cons]]
    cases codeB l[i] with
    | false => exact Ev.neg (by simp) (Ev.val (by simp))
    | true =>
      refine Ev.pos rfl ?_
      rw [Bool.true_and]
      refine Ev.ite (fun e => ?_) (fun e => ?_)
      · have hj : wrap64 ((i : Int) - 1) = ((i - 1 : Nat) : Int) := by rw [wrap_in (by omega) (by omega)]; omega
        rw [hj]
        refine Ev.pos (by omega) (Ev.pos (by omega) ?_)
        rw [rdS_nat (show i - 1 < l.length by omega)]
        rw [show chainB (l.drop (i - 1)) = (stepB l[i - 1] l[i] && chainB (l.drop i)) by
          rw [List.drop_eq_getElem_cons (show i - 1 < l.length by omega), show i - 1 + 1 = i by omega, List.drop_eq_getElem_cons hi]; rfl]
        unfold stepB lessB
        refine Ev.ite (fun e => ?_) (fun e => Ev.val ?_)
        · rw [e, Bool.true_and]
          refine Ev.vbind (begins_f _ _) ?_
          cases begB l[i - 1] l[i] with
          | true => exact Ev.pos rfl (Ev.val (by simp))
          | false => exact Ev.neg (by simp) (by simpa using ih)
        · simp [show Op.bytesLess l[i - 1].toList l[i].toList = false by simpa using e]
      · have : i = 0 := by omega
        subst this
        simpa using ih
theorem isCodePlan_ev2 : Ev (fun k => impl_IsCodePlan.f k l) (goodB l) := by
  unfold impl_IsCodePlan.f
  refine Ev.eq (isCodePlan_l0 l hl hs l.length 0 (by omega)) ?_
  unfold goodB
  simp only [List.drop_zero, Nat.zero_sub]
  cases l.all codeB <;> cases chainB l <;> simp
end
theorem isCodePlan_ev (l : List ByteArray) (hl : l.length ≤ 1048576) (hs : ∀ y ∈ l, y.size ≤ 1048576) : Ev (fun k => impl_IsCodePlan.f k l) (goodB l) := isCodePlan_ev2 l (by omega) hs
end Go.Proofs.YtnodkdjaemahcaaGreatDoor.PA

/-! A code begins a text: what that says of the bytes. No condition. -/
namespace Go.Proofs.YtnodkdjaemahcaaGreatDoor.PA
open Go.RowKit Go.Proofs.YtnodkdjaemahcaaGreatDoorW.PrintWords
set_option linter.unusedVariables false

theorem begB_iff {a b : ByteArray} : begB a b = true ↔ ∃ t, b.data.toList = a.data.toList ++ t := by
  unfold begB
  rw [List.isPrefixOf_iff_prefix]
  exact ⟨fun ⟨t, h⟩ => ⟨t, h.symm⟩, fun ⟨t, h⟩ => ⟨t, h.symm⟩⟩
theorem begB_self (a : ByteArray) : begB a a = true := begB_iff.mpr ⟨[], by simp⟩
end Go.Proofs.YtnodkdjaemahcaaGreatDoor.PA

/-! A text with one digit more: its bytes, and what begins it. No condition. -/
namespace Go.Proofs.YtnodkdjaemahcaaGreatDoor.PA
open Go.RowKit Go.Proofs.YtnodkdjaemahcaaGreatDoorW.PrintWords
set_option linter.unusedVariables false

theorem num_dig : ∀ d : Fin 10, spec_l1Num.f 1 (d.val : Int) = some (digS.extract d.val (d.val + 1)) := by decide +kernel
theorem dig_data : ∀ d : Fin 10, (digS.extract d.val (d.val + 1)).data.toList = [UInt8.ofNat (48 + d.val)] := by decide +kernel
theorem dig_is : ∀ d : Fin 10, digB (UInt8.ofNat (48 + d.val)) = true := by decide +kernel
theorem dig_inj : ∀ a b : Fin 10, UInt8.ofNat (48 + a.val) = UInt8.ofNat (48 + b.val) → a = b := by decide +kernel
theorem l1Num_dig (d : Nat) (h : d < 10) : Ev (fun k => spec_l1Num.f k (d : Int)) (digS.extract d (d + 1)) := by
  refine ⟨1, fun k hk => ?_⟩
  have := leO_add (fun k => spec_l1Num.mono (d : Int) k) (num_dig ⟨d, h⟩) (k - 1)
  rwa [show 1 + (k - 1) = k by omega] at this
theorem moreD_data (c : ByteArray) (d : Nat) (h : d < 10) : (moreD c d).data.toList = c.data.toList ++ [UInt8.ofNat (48 + d)] := by
  unfold moreD
  rw [data_append, dig_data ⟨d, h⟩]
theorem moreD_size (c : ByteArray) (d : Nat) (h : d < 10) : (moreD c d).size = c.size + 1 := by
  rw [size_data, moreD_data c d h, List.length_append]; rfl
theorem beg_more {c : ByteArray} {d : Nat} (h : d < 10) : begB c (moreD c d) = true := begB_iff.mpr ⟨_, moreD_data c d h⟩
theorem beg_trans {a b c : ByteArray} (h1 : begB a b = true) (h2 : begB b c = true) : begB a c = true := by
  obtain ⟨t, ht⟩ := begB_iff.mp h1
  obtain ⟨u, hu⟩ := begB_iff.mp h2
  exact begB_iff.mpr ⟨t ++ u, by rw [hu, ht, List.append_assoc]⟩
theorem beg_eq {a b : ByteArray} (h : begB a b = true) (hz : a.size = b.size) : a = b := by
  obtain ⟨t, ht⟩ := begB_iff.mp h
  have : t = [] := by
    have := congrArg List.length ht
    rw [List.length_append, ← size_data, ← size_data] at this
    exact List.eq_nil_of_length_eq_zero (by omega)
  rw [this, List.append_nil] at ht
  exact ba_ext ht.symm
/-- what begins a longer text begins the text, or is the longer one -/
theorem beg_snoc {x c : ByteArray} {d : Nat} (h : d < 10) (hx : begB x (moreD c d) = true) : begB x c = true ∨ x = moreD c d := by
  obtain ⟨t, ht⟩ := begB_iff.mp hx
  rw [moreD_data c d h] at ht
  rcases List.eq_nil_or_concat t with rfl | ⟨t', u, rfl⟩
  · right
    rw [List.append_nil] at ht
    exact ba_ext (by rw [moreD_data c d h, ht])
  · left
    rw [List.concat_eq_append, ← List.append_assoc] at ht
    have := List.append_inj_left' ht (by simp)
    exact begB_iff.mpr ⟨t', this⟩
end Go.Proofs.YtnodkdjaemahcaaGreatDoor.PA

/-! The order of texts: by bytes; no condition. -/
namespace Go.Proofs.YtnodkdjaemahcaaGreatDoor.PA
open Go.RowKit Go.Proofs.YtnodkdjaemahcaaGreatDoorW.PrintWords
set_option linter.unusedVariables false

theorem bytesLess_lt : ∀ (x y : List UInt8), Op.bytesLess x y = decide (x < y)
  | [], [] => by simp [Op.bytesLess]
  | _ :: _, [] => by simp [Op.bytesLess]
  | [], _ :: _ => by simp [Op.bytesLess]
  | a :: x, b :: y => by
    rw [Op.bytesLess, bytesLess_lt x y]
    simp only [List.cons_lt_cons_iff]
    by_cases h1 : a < b <;> by_cases h2 : a = b <;> by_cases h3 : x < y <;> simp [h1, h2, h3]
def ltB (a b : ByteArray) : Bool := Op.bytesLess a.toList b.toList
theorem ltB_iff {a b : ByteArray} : ltB a b = true ↔ a.toList < b.toList := by unfold ltB; rw [bytesLess_lt]; exact decide_eq_true_iff
theorem ltB_irrefl (a : ByteArray) : ltB a a = false := by
  cases h : ltB a a with
  | false => rfl
  | true => exact absurd (ltB_iff.mp h) (List.lt_irrefl _)
theorem ltB_trans {a b c : ByteArray} (h1 : ltB a b = true) (h2 : ltB b c = true) : ltB a c = true := ltB_iff.mpr (List.lt_trans (ltB_iff.mp h1) (ltB_iff.mp h2))
theorem ltB_asymm {a b : ByteArray} (h1 : ltB a b = true) : ltB b a = false := by
  cases h : ltB b a with
  | false => rfl
  | true => have := ltB_trans h1 h; rw [ltB_irrefl] at this; exact absurd this (by simp)
theorem ltB_three {a b : ByteArray} (h1 : ltB a b = false) (h2 : ltB b a = false) : a = b := by
  have n1 : ¬ a.toList < b.toList := fun h => by rw [ltB_iff.mpr h] at h1; exact absurd h1 (by simp)
  have n2 : ¬ b.toList < a.toList := fun h => by rw [ltB_iff.mpr h] at h2; exact absurd h2 (by simp)
  exact toList_inj.mp (List.le_antisymm (List.not_lt.mp n2) (List.not_lt.mp n1))
/-- strictly up -/
def Up (l : List ByteArray) : Prop := l.Pairwise (fun a b => ltB a b = true)
/-- put a text in its place, once -/
def insB (x : ByteArray) : List ByteArray → List ByteArray
  | [] => [x]
  | y :: r => if ltB y x = true then y :: insB x r else if y = x then y :: r else x :: y :: r
theorem mem_insB {x z : ByteArray} : ∀ {l : List ByteArray}, z ∈ insB x l ↔ z = x ∨ z ∈ l
  | [] => by simp [insB]
  | y :: r => by
    unfold insB
    split
    · rw [List.mem_cons, mem_insB, List.mem_cons]; constructor
      · rintro (h | h | h) <;> simp [h]
      · rintro (h | h | h) <;> simp [h]
    · split
      · rename_i h; subst h; simp
      · simp
theorem up_insB {x : ByteArray} : ∀ {l : List ByteArray}, Up l → Up (insB x l)
  | [], _ => List.pairwise_singleton ..
  | y :: r, h => by
    obtain ⟨h1, h2⟩ := List.pairwise_cons.mp h
    unfold insB
    split
    · rename_i hy
      refine List.pairwise_cons.mpr ⟨fun z hz => ?_, up_insB h2⟩
      rcases mem_insB.mp hz with rfl | hz
      · exact hy
      · exact h1 z hz
    · rename_i hy
      split
      · exact h
      · rename_i hne
        have hxy : ltB x y = true := by
          cases hh : ltB x y with
          | true => rfl
          | false => exact absurd (ltB_three (by simpa using hy) hh) hne
        refine List.pairwise_cons.mpr ⟨fun z hz => ?_, h⟩
        rcases List.mem_cons.mp hz with rfl | hz
        · exact hxy
        · exact ltB_trans hxy (h1 z hz)
theorem len_insB {x : ByteArray} : ∀ {l : List ByteArray}, x ∉ l → (insB x l).length = l.length + 1
  | [], _ => rfl
  | y :: r, h => by
    have hne : ¬ y = x := fun e => h (by simp [e])
    have hr : x ∉ r := fun e => h (by simp [e])
    unfold insB
    split
    · rw [List.length_cons, len_insB hr]; rfl
    · rfl
theorem insB_in {x : ByteArray} : ∀ {l : List ByteArray}, Up l → x ∈ l → insB x l = l
  | [], _, h => by simp at h
  | y :: r, h, hx => by
    obtain ⟨h1, h2⟩ := List.pairwise_cons.mp h
    unfold insB
    split
    · rename_i hy
      rcases List.mem_cons.mp hx with rfl | hx
      · rw [ltB_irrefl] at hy; exact absurd hy (by simp)
      · rw [insB_in h2 hx]
    · rename_i hy
      rcases List.mem_cons.mp hx with rfl | hx
      · simp
      · exact absurd (h1 x hx) (by simpa using hy)
theorem insB_take {x : ByteArray} : ∀ (i : Nat) {l : List ByteArray}, (∀ y ∈ l.take i, ltB y x = true) → insB x l = l.take i ++ insB x (l.drop i)
  | 0, l, _ => by simp
  | i + 1, [], _ => by simp
  | i + 1, y :: r, h => by
    have hy : ltB y x = true := h y (by simp)
    rw [List.take_succ_cons, List.drop_succ_cons, insB, if_pos hy, insB_take i (fun z hz => h z (by simp [hz]))]; rfl
theorem up_take_lt {l : List ByteArray} {i : Nat} {x : ByteArray} (h : Up l) (hi : 0 < i) (hil : i ≤ l.length) (hx : ltB (l[i - 1]'(by omega)) x = true) : ∀ y ∈ l.take i, ltB y x = true := by
  intro y hy
  obtain ⟨j, hj, e⟩ := List.mem_iff_getElem.mp hy
  rw [List.length_take] at hj
  rw [List.getElem_take] at e
  subst e
  rcases Nat.lt_or_ge j (i - 1) with h1 | h1
  · exact ltB_trans (List.pairwise_iff_getElem.mp h j (i - 1) (by omega) (by omega) h1) hx
  · have : j = i - 1 := by omega
    subst this; exact hx
end Go.Proofs.YtnodkdjaemahcaaGreatDoor.PA

/-! The number that digits tell. No condition. -/
namespace Go.Proofs.YtnodkdjaemahcaaGreatDoor.PA
open Go.RowKit Go.Proofs.YtnodkdjaemahcaaGreatDoorW.PrintWords
set_option linter.unusedVariables false

def dval : List UInt8 → Nat
  | [] => 0
  | b :: l => (b.toNat - 48) * 10 ^ l.length + dval l
theorem dval_append : ∀ (a b : List UInt8), dval (a ++ b) = dval a * 10 ^ b.length + dval b
  | [], b => by simp [dval]
  | x :: a, b => by
    rw [List.cons_append, dval, dval_append a b, dval, List.length_append, Nat.pow_add, Nat.add_mul, Nat.mul_assoc, Nat.add_assoc]
theorem dval_one (b : UInt8) : dval [b] = b.toNat - 48 := by simp [dval]
theorem dig_le {b : UInt8} (h : digB b = true) : 48 ≤ b.toNat ∧ b.toNat - 48 ≤ 9 := by
  unfold digB at h
  simp only [Bool.and_eq_true, decide_eq_true_eq] at h
  omega
theorem dval_lt : ∀ (l : List UInt8), l.all digB = true → dval l < 10 ^ l.length
  | [], _ => by simp [dval]
  | b :: l, h => by
    rw [List.all_cons, Bool.and_eq_true] at h
    have h1 := dig_le h.1
    have h2 := dval_lt l h.2
    rw [dval, List.length_cons, Nat.pow_succ]
    have h3 : (b.toNat - 48) * 10 ^ l.length ≤ 9 * 10 ^ l.length := Nat.mul_le_mul_right _ h1.2
    omega
theorem dval_lex : ∀ (a b : List UInt8), a.length = b.length → a.all digB = true → b.all digB = true → dval a < dval b → a < b
  | [], [], _, _, _, h => by simp [dval] at h
  | [], _ :: _, h, _, _, _ => by simp at h
  | _ :: _, [], h, _, _, _ => by simp at h
  | x :: a, y :: b, hl, ha, hb, h => by
    rw [List.all_cons, Bool.and_eq_true] at ha hb
    have hl' : a.length = b.length := by simpa using hl
    have hx := dig_le ha.1
    have hy := dig_le hb.1
    have va := dval_lt a ha.2
    have vb := dval_lt b hb.2
    rw [dval, dval, hl'] at h
    rw [hl'] at va
    rw [List.cons_lt_cons_iff]
    rcases Nat.lt_trichotomy x.toNat y.toNat with h1 | h1 | h1
    · exact .inl (UInt8.lt_iff_toNat_lt.mpr h1)
    · refine .inr ⟨UInt8.toNat_inj.mp h1, dval_lex a b hl' ha.2 hb.2 ?_⟩
      rw [h1] at h
      omega
    · have h2 : (y.toNat - 48 + 1) * 10 ^ b.length ≤ (x.toNat - 48) * 10 ^ b.length := Nat.mul_le_mul_right _ (by omega)
      rw [Nat.add_mul] at h2
      omega
theorem dval_inj : ∀ (a b : List UInt8), a.length = b.length → a.all digB = true → b.all digB = true → dval a = dval b → a = b
  | [], [], _, _, _, _ => rfl
  | [], _ :: _, h, _, _, _ => by simp at h
  | _ :: _, [], h, _, _, _ => by simp at h
  | x :: a, y :: b, hl, ha, hb, h => by
    have ha0 := ha
    have hb0 := hb
    rw [List.all_cons, Bool.and_eq_true] at ha hb
    have hl' : a.length = b.length := by simpa using hl
    have hx := dig_le ha.1
    have hy := dig_le hb.1
    have va := dval_lt a ha.2
    have vb := dval_lt b hb.2
    rw [dval, dval, hl'] at h
    rw [hl'] at va
    rcases Nat.lt_trichotomy x.toNat y.toNat with h1 | h1 | h1
    · have h2 : (x.toNat - 48 + 1) * 10 ^ b.length ≤ (y.toNat - 48) * 10 ^ b.length := Nat.mul_le_mul_right _ (by omega)
      rw [Nat.add_mul] at h2
      omega
    · rw [h1] at h
      rw [UInt8.toNat_inj.mp h1, dval_inj a b hl' ha.2 hb.2 (by omega)]
    · have h2 : (y.toNat - 48 + 1) * 10 ^ b.length ≤ (x.toNat - 48) * 10 ^ b.length := Nat.mul_le_mul_right _ (by omega)
      rw [Nat.add_mul] at h2
      omega
/-- the number that a text of digits tells -/
def tval (s : ByteArray) : Nat := dval s.data.toList
def digsB (s : ByteArray) : Bool := s.data.toList.all digB
theorem tval_more (s : ByteArray) (d : Nat) (h : d < 10) : tval (moreD s d) = 10 * tval s + d := by
  unfold tval
  rw [moreD_data s d h, dval_append, dval_one]
  have e : (UInt8.ofNat (48 + d)).toNat = 48 + d := by
    have : ∀ d : Fin 10, (UInt8.ofNat (48 + d.val)).toNat = 48 + d.val := by decide +kernel
    exact this ⟨d, h⟩
  rw [e, List.length_singleton, Nat.pow_one]
  omega
theorem digs_more {s : ByteArray} (hs : digsB s = true) (d : Nat) (h : d < 10) : digsB (moreD s d) = true := by
  unfold digsB at hs ⊢
  rw [moreD_data s d h, List.all_append, hs]
  have := dig_is ⟨d, h⟩
  simp only [List.all_cons, List.all_nil, this, Bool.and_true]
theorem tval_lt {s : ByteArray} (hs : digsB s = true) : tval s < 10 ^ s.size := dval_lt _ hs
theorem tval_inj {a b : ByteArray} (ha : digsB a = true) (hb : digsB b = true) (hz : a.size = b.size) (h : tval a = tval b) : a = b := ba_ext (dval_inj _ _ hz ha hb h)
theorem code_digs {c : ByteArray} (h : codeB c = true) : digsB c = true := by
  unfold codeB digitsB at h
  simp only [Bool.and_eq_true] at h
  exact h.2
/-- a code begins a text of digits just where its number stands ahead of the text's -/
theorem beg_val {c x : ByteArray} (hc : digsB c = true) (hx : digsB x = true) (hz : c.size ≤ x.size) : begB c x = true ↔ tval x / 10 ^ (x.size - c.size) = tval c := by
  have hsplit : x.data.toList = x.data.toList.take c.size ++ x.data.toList.drop c.size := (List.take_append_drop _ _).symm
  have hl : (x.data.toList.drop c.size).length = x.size - c.size := by rw [List.length_drop]; rfl
  have hlt : (x.data.toList.take c.size).length = c.size := by rw [List.length_take, ← size_data]; omega
  have hall : (x.data.toList.take c.size).all digB = true ∧ (x.data.toList.drop c.size).all digB = true := by
    have h := hx
    unfold digsB at h
    rw [hsplit, List.all_append, Bool.and_eq_true] at h
    exact h
  have hv : tval x = dval (x.data.toList.take c.size) * 10 ^ (x.size - c.size) + dval (x.data.toList.drop c.size) := by
    unfold tval
    rw [← hl, ← dval_append, List.take_append_drop]
  have hd := dval_lt _ hall.2
  rw [hl] at hd
  have hdiv : tval x / 10 ^ (x.size - c.size) = dval (x.data.toList.take c.size) := by
    rw [hv, Nat.mul_comm, Nat.mul_add_div (Nat.pow_pos (by omega)), Nat.div_eq_of_lt hd, Nat.add_zero]
  rw [hdiv]
  constructor
  · intro h
    obtain ⟨t, ht⟩ := begB_iff.mp h
    unfold tval
    rw [ht, List.take_append_of_le_length (by rw [← size_data]; omega), List.take_of_length_le (by rw [← size_data]; omega)]
  · intro h
    have e := dval_inj _ c.data.toList (by rw [hlt]; rfl) hall.1 hc h
    exact begB_iff.mpr ⟨x.data.toList.drop c.size, by rw [← e, List.take_append_drop]⟩
end Go.Proofs.YtnodkdjaemahcaaGreatDoor.PA

/-! Is a text among a list's: the reference and the program answer the same. No condition but bounds. -/
namespace Go.Proofs.YtnodkdjaemahcaaGreatDoor.PA
open Go.RowKit Go.Proofs.YtnodkdjaemahcaaGreatDoorW.PrintWords
set_option linter.unusedVariables false

def hasB (c : ByteArray) (l : List ByteArray) : Bool := l.any (fun x => decide (c = x))
theorem hasB_iff {c : ByteArray} {l : List ByteArray} : hasB c l = true ↔ c ∈ l := by
  unfold hasB
  rw [List.any_eq_true]
  exact ⟨fun ⟨x, hx, e⟩ => (of_decide_eq_true e) ▸ hx, fun h => ⟨c, h, decide_eq_true rfl⟩⟩
theorem hasB_cons (c x : ByteArray) (r : List ByteArray) : hasB c (x :: r) = (decide (c = x) || hasB c r) := rfl
theorem indexS_l0 (l : List ByteArray) (c : ByteArray) (hl : l.length ≤ 1048576) : ∀ (d i : Nat), i + d = l.length → ∃ v, Ev (fun k => slices_Index_string_string.l0 k l c (l.length : Int) (i : Int)) v ∧ decide (v ≥ 0) = hasB c (l.drop i)
  | 0, i, h => by
    refine ⟨-1, ?_, ?_⟩
    · refine Ev.step (fun k => by rw [slices_Index_string_string.l0]) ?_
      exact Ev.neg (by omega) (Ev.val rfl)
    · rw [List.drop_of_length_le (by omega)]; rfl
  | d + 1, i, h => by
    have hi : i < l.length := by omega
    by_cases e : c.toList = l[i].toList
    · refine ⟨(i : Int), ?_, ?_⟩
      · refine Ev.step (fun k => by rw [slices_Index_string_string.l0]) ?_
        refine Ev.pos (by omega) (Ev.pos (by omega) (Ev.pos (by omega) ?_))
        rw [rdS_nat hi]
        exact Ev.pos e (Ev.val rfl)
      · rw [List.drop_eq_getElem_cons hi, hasB_cons, decide_eq_true (toList_inj.mp e), Bool.true_or]; exact decide_eq_true (by omega)
    · have hne : ¬ c = l[i] := fun h => e (by rw [h])
      obtain ⟨v, hv, hd⟩ := indexS_l0 l c hl d (i + 1) (by omega)
      refine ⟨v, ?_, ?_⟩
      · refine Ev.step (fun k => by rw [slices_Index_string_string.l0]) ?_
        refine Ev.pos (by omega) (Ev.pos (by omega) (Ev.pos (by omega) ?_))
        rw [rdS_nat hi, wrap_nat (by omega)]
        exact Ev.neg e hv
      · rw [hd, List.drop_eq_getElem_cons hi, hasB_cons, decide_eq_false hne, Bool.false_or]
theorem containsS_ev (l : List ByteArray) (c : ByteArray) (hl : l.length ≤ 1048576) : Ev (fun k => slices_Contains_string_string.f k l c) (hasB c l) := by
  obtain ⟨v, hv, hd⟩ := indexS_l0 l c hl l.length 0 (by omega)
  unfold slices_Contains_string_string.f slices_Index_string_string.f
  refine Ev.bind hv (Ev.val ?_)
  rw [hd, List.drop_zero]
theorem code_size {s : ByteArray} (h : codeB s = true) : 1 ≤ s.size ∧ s.size ≤ 6 := by
  unfold codeB digitsB at h
  simp at h
  omega
theorem good_code {l : List ByteArray} (h : goodB l = true) {c : ByteArray} (hc : c ∈ l) : codeB c = true := by
  unfold goodB at h
  simp only [Bool.and_eq_true, List.all_eq_true] at h
  exact h.1.2 c hc
theorem good_len {l : List ByteArray} (h : goodB l = true) : 1 ≤ l.length ∧ l.length ≤ 20 := by
  unfold goodB at h
  simp at h
  omega
end Go.Proofs.YtnodkdjaemahcaaGreatDoor.PA

/-! Does a code fit beside all of a list: the program asks so. No condition but bounds. -/
namespace Go.Proofs.YtnodkdjaemahcaaGreatDoor.PA
open Go.RowKit Go.Proofs.YtnodkdjaemahcaaGreatDoorW.PrintWords
set_option linter.unusedVariables false

/-- does a code stand beside all of a list's -/
def fitB (l : List ByteArray) (x : ByteArray) : Bool := !(l.any fun c => begB c x || begB x c)
theorem fits_f (l : List ByteArray) (x : ByteArray) (hl : l.length ≤ 1048576) : impl_fits.f l x = some (fitB l x) := by
  unfold impl_fits.f fitB
  rw [if_pos (by omega)]
  have h := anyO_pure (fun c => begB c x || begB x c) (fun c => (impl_begins.f c x).bind fun b => if b = true then some true else impl_begins.f x c) l (fun c _ => by
    rw [begins_f, begins_f, Option.bind_some]
    cases begB c x <;> simp)
  rw [h]; rfl
theorem fitB_iff {l : List ByteArray} {x : ByteArray} : fitB l x = true ↔ ∀ c ∈ l, begB c x = false ∧ begB x c = false := by
  unfold fitB
  rw [Bool.not_eq_true', List.any_eq_false]
  exact ⟨fun h c hc => by have := h c hc; simpa using this, fun h c hc => by have := h c hc; simp [this]⟩
theorem has_not {x : ByteArray} {l : List ByteArray} : hasB x l = false ↔ x ∉ l := by
  cases h : hasB x l with
  | true => simp [hasB_iff.mp h]
  | false => simp; intro hm; rw [hasB_iff.mpr hm] at h; exact absurd h (by simp)
end Go.Proofs.YtnodkdjaemahcaaGreatDoor.PA

/-! The code that begins a number: the reference's and the program's are one. No condition but bounds. -/
namespace Go.Proofs.YtnodkdjaemahcaaGreatDoor.PA
open Go.RowKit Go.Proofs.YtnodkdjaemahcaaGreatDoorW.PrintWords
set_option linter.unusedVariables false

theorem area_l0 (l : List ByteArray) (t : ByteArray) (hl : l.length ≤ 1048576) : ∀ (d i : Nat), i + d = l.length →
    ∃ v j, Ev (fun k => spec_plArea.l0 k t l (l.length : Int) (i : Int)) v ∧ idxO (fun c => impl_begins.f c t) (l.drop i) (i : Int) = some j ∧
      ((j < 0 ∧ v = ⟨#[]⟩) ∨ (0 ≤ j ∧ j < (l.length : Int) ∧ v = rdOf ByteArray.empty l j ∧ v ∈ l))
  | 0, i, h => by
    refine ⟨⟨#[]⟩, -1, ?_, ?_, .inl ⟨by decide, rfl⟩⟩
    · refine Ev.step (fun k => by rw [spec_plArea.l0]) ?_
      exact Ev.neg (by omega) (Ev.val rfl)
    · rw [List.drop_of_length_le (by omega)]; rfl
  | d + 1, i, h => by
    have hi : i < l.length := by omega
    obtain ⟨v, j, hv, hj, hh⟩ := area_l0 l t hl d (i + 1) (by omega)
    have hd : l.drop i = l[i] :: l.drop (i + 1) := List.drop_eq_getElem_cons hi
    cases hb : begB l[i] t with
    | true =>
      refine ⟨l[i], (i : Int), ?_, ?_, .inr ⟨by omega, by omega, (rdS_nat hi).symm, List.getElem_mem hi⟩⟩
      · refine Ev.step (fun k => by rw [spec_plArea.l0]) ?_
        refine Ev.pos (by omega) (Ev.pos (by omega) (Ev.pos (by omega) ?_))
        rw [rdS_nat hi]
        exact Ev.vbind (plBegins_f _ _) (Ev.pos hb (Ev.val rfl))
      · rw [hd, idxO, begins_f, Option.bind_some, if_pos hb]
    | false =>
      refine ⟨v, j, ?_, ?_, hh⟩
      · refine Ev.step (fun k => by rw [spec_plArea.l0]) ?_
        refine Ev.pos (by omega) (Ev.pos (by omega) (Ev.pos (by omega) ?_))
        rw [rdS_nat hi, wrap_nat (by omega)]
        exact Ev.vbind (plBegins_f _ _) (Ev.neg (by rw [hb]; simp) hv)
      · rw [hd, idxO, begins_f, Option.bind_some, if_neg (by rw [hb]; simp)]
        simpa using hj
theorem area_any (l : List ByteArray) (t : ByteArray) (hl : l.length ≤ 1048576) (hp : ∀ c ∈ l, c.size ≠ 0) : ∃ v, Ev (fun k => spec_plArea.f k l t) v ∧ (v.toList != ([] : List UInt8)) = (l.any fun c => begB c t) := by
  obtain ⟨v, j, hv, hj, hh⟩ := area_l0 l t hl l.length 0 (by omega)
  have hany : anyO (fun c => impl_begins.f c t) l = some (l.any fun c => begB c t) := anyO_pure _ _ l (fun c _ => begins_f c t)
  refine ⟨v, by unfold spec_plArea.f; exact hv, ?_⟩
  obtain ⟨j', hj', e'⟩ := idxO_any (fun c => impl_begins.f c t) l 0 (by omega) _ hany
  rw [List.drop_zero] at hj
  have ejj : j' = j := Option.some.inj (hj'.symm.trans hj)
  subst ejj
  rw [← e']
  rcases hh with ⟨hneg, rfl⟩ | ⟨hpos, hlt, hrd, hmem⟩
  · rw [decide_eq_false (by omega), toList_data]; rfl
  · rw [decide_eq_true hpos, bne_iff_ne]
    intro e
    rw [toList_data] at e
    exact hp v hmem (by rw [size_data, e]; rfl)
end Go.Proofs.YtnodkdjaemahcaaGreatDoor.PA

/-! The first code of a length that can be put in: the reference and the program find the same one. No condition but bounds. -/
namespace Go.Proofs.YtnodkdjaemahcaaGreatDoor.PA
open Go.RowKit Go.Proofs.YtnodkdjaemahcaaGreatDoorW.PrintWords
set_option linter.unusedVariables false

/-- so many zeros behind a text -/
def zerosT (s : ByteArray) : Nat → ByteArray
  | 0 => s
  | n + 1 => zerosT (moreD s 0) n
theorem zerosT_data : ∀ (n : Nat) (s : ByteArray), (zerosT s n).data.toList = s.data.toList ++ List.replicate n 48
  | 0, s => by simp [zerosT]
  | n + 1, s => by
    rw [zerosT, zerosT_data n, moreD_data s 0 (by omega), List.append_assoc, List.replicate_succ]; rfl
theorem repeat_zero (s : ByteArray) (n : Nat) : s ++ (⟨(Lib.repeatL [48] n).toArray⟩ : ByteArray) = zerosT s n := by
  apply ba_ext
  rw [data_append, zerosT_data]
  congr 1
  show Lib.repeatL [48] n = _
  induction n with
  | zero => rfl
  | succ n ih => simp [Lib.repeatL, List.replicate_succ] at ih ⊢; try exact ih
section
variable (l : List ByteArray) (hl : l.length ≤ 1048576) (hp : ∀ c ∈ l, c.size ≠ 0)
include hl hp
omit hp in
theorem first_end (s : ByteArray) : ∀ (d i : Nat), i + d = l.length → Ev (fun k => spec_plFirst.l0 k s l (l.length : Int) (i : Int)) (if ((l.drop i).any fun c => begB s c) = true then (⟨#[]⟩, false) else (s, true))
  | 0, i, h => by
    refine Ev.step (fun k => by rw [spec_plFirst.l0]) ?_
    refine Ev.neg (by omega) (Ev.val ?_)
    rw [List.drop_of_length_le (by omega)]; simp
  | d + 1, i, h => by
    have hi : i < l.length := by omega
    have ih := first_end s d (i + 1) (by omega)
    refine Ev.step (fun k => by rw [spec_plFirst.l0]) ?_
    refine Ev.pos (by omega) (Ev.pos (by omega) (Ev.pos (by omega) ?_))
    rw [rdS_nat hi, wrap_nat (by omega), List.drop_eq_getElem_cons hi, List.any_cons]
    refine Ev.vbind (plBegins_f _ _) ?_
    cases begB s l[i] with
    | true => exact Ev.pos rfl (Ev.val (by simp))
    | false => exact Ev.neg (by simp) (by simpa using ih)
/-- behind what fits, zeros -/
theorem first_zeros : ∀ (n : Nat) (s : ByteArray), s.size + n ≤ 1048576 → fitB l s = true → Ev (fun k => spec_plFirst.f k l s (n : Int)) (zerosT s n, true)
  | n, s, hn, hf => by
    have hfit := fitB_iff.mp hf
    obtain ⟨v, hv, hva⟩ := area_any l s hl hp
    have hno : (l.any fun c => begB c s) = false := List.any_eq_false.mpr (fun c hc => by rw [(hfit c hc).1]; simp)
    rw [hno, bne_eq_false_iff_eq] at hva
    refine Ev.step (fun k => by rw [spec_plFirst.f]) ?_
    refine Ev.bind hv (Ev.pos hva ?_)
    cases n with
    | zero =>
      refine Ev.pos (by omega) (Ev.eq (first_end l hl s l.length 0 (by omega)) ?_)
      have hno2 : (l.any fun c => begB s c) = false := List.any_eq_false.mpr (fun c hc => by rw [(hfit c hc).2]; simp)
      rw [List.drop_zero, hno2]; rfl
    | succ n =>
      have hz := moreD_size s 0 (by omega)
      have hcat : s.size + (digS.extract 0 (0 + 1)).size ≤ 9223372036854775807 := by
        have : (moreD s 0).size = s.size + (digS.extract 0 (0 + 1)).size := size_append _ _
        omega
      have hf2 : fitB l (moreD s 0) = true := fitB_iff.mpr (fun c hc => by
        obtain ⟨h1, h2⟩ := hfit c hc
        constructor
        · cases hh : begB c (moreD s 0) with
          | false => rfl
          | true =>
            rcases beg_snoc (by omega) hh with h | h
            · rw [h1] at h; exact absurd h (by simp)
            · rw [h, beg_more (by omega)] at h2; exact absurd h2 (by simp)
        · cases hh : begB (moreD s 0) c with
          | false => rfl
          | true => rw [beg_trans (beg_more (by omega)) hh] at h2; exact absurd h2 (by simp))
      have ih := first_zeros n (moreD s 0) (by omega) hf2
      refine Ev.neg (by omega) ?_
      refine Ev.step (fun k => by rw [spec_plFirst.l1]) ?_
      refine Ev.pos (by omega) (Ev.bind (l1Num_dig 0 (by omega)) (Ev.pos hcat ?_))
      rw [show wrap64 (((n + 1 : Nat) : Int) - 1) = (n : Int) by rw [wrap_in (by omega) (by omega)]; omega]
      exact Ev.bind ih (Ev.pos rfl (Ev.val rfl))
omit hl hp in
theorem first_loop (s : ByteArray) (n : Nat) (long : Int) (hs : s.size ≤ 1048576) (hn : n ≤ 1048576)
    (H : ∀ d, d < 10 → ∃ r, Ev (fun k => spec_plFirst.f k l (moreD s d) (n : Int)) r ∧ Ev (fun k => impl_firstFree.f k l (moreD s d) long) r) :
    ∀ m d : Nat, d + m = 10 → ∃ r, Ev (fun k => spec_plFirst.l1 k l s ((n + 1 : Nat) : Int) (d : Int)) r ∧ Ev (fun k => firstO (fun d => impl_firstFree.f k l (moreD s d) long) m d) r
  | 0, d, h => by
    refine ⟨(⟨#[]⟩, false), ?_, Ev.val rfl⟩
    refine Ev.step (fun k => by rw [spec_plFirst.l1]) ?_
    exact Ev.neg (by omega) (Ev.val rfl)
  | m + 1, d, h => by
    obtain ⟨r, h1, h2⟩ := H d (by omega)
    obtain ⟨q, h3, h4⟩ := first_loop s n long hs hn H m (d + 1) (by omega)
    have hz := moreD_size s d (by omega)
    have hcat : s.size + (digS.extract d (d + 1)).size ≤ 9223372036854775807 := by
      have : (moreD s d).size = s.size + (digS.extract d (d + 1)).size := size_append _ _
      omega
    have sp : ∀ q, Ev (fun k => if r.2 = true then some (r.1, true) else spec_plFirst.l1 k l s ((n + 1 : Nat) : Int) (((d + 1 : Nat)) : Int)) q → Ev (fun k => spec_plFirst.l1 k l s ((n + 1 : Nat) : Int) (d : Int)) q := by
      intro q hq
      refine Ev.step (fun k => by rw [spec_plFirst.l1]) ?_
      refine Ev.pos (by omega) (Ev.bind (l1Num_dig d (by omega)) (Ev.pos hcat ?_))
      rw [show wrap64 (((n + 1 : Nat) : Int) - 1) = (n : Int) by rw [wrap_in (by omega) (by omega)]; omega, wrap_nat (by omega)]
      exact Ev.bind h1 hq
    have im : ∀ q, Ev (fun k => if r.2 = true then some (r.1, true) else firstO (fun d => impl_firstFree.f k l (moreD s d) long) m (d + 1)) q → Ev (fun k => firstO (fun d => impl_firstFree.f k l (moreD s d) long) (m + 1) d) q := by
      intro q hq
      exact Ev.bind h2 hq
    by_cases hr : r.2 = true
    · exact ⟨(r.1, true), sp _ (Ev.pos hr (Ev.val rfl)), im _ (Ev.pos hr (Ev.val rfl))⟩
    · exact ⟨q, sp _ (Ev.neg hr h3), im _ (Ev.neg hr h4)⟩
theorem first_same (long : Nat) (hlong : long ≤ 1000000) (h0 : 1 ≤ long) : ∀ (n : Nat) (s : ByteArray), s.size + n = long → (∀ c ∈ l, begB c s = true → c = s) →
    ∃ r, Ev (fun k => spec_plFirst.f k l s (n : Int)) r ∧ Ev (fun k => impl_firstFree.f k l s (long : Int)) r := by
  intro n
  induction n with
  | zero =>
    intro s hn hinv
    have hfit := fits_f l s hl
    have hcond : l.length ≤ 1048576 ∧ s.size ≤ 1048576 ∧ 0 ≤ (long : Int) ∧ (long : Int) ≤ 1048576 := ⟨hl, by omega, by omega, by omega⟩
    cases hf : fitB l s with
    | true =>
      rw [hf] at hfit
      have hrep : strings_Repeat.f ⟨#[48]⟩ ((long : Int) - (s.size : Int)) = some ⟨(Lib.repeatL [48] 0).toArray⟩ := by
        unfold strings_Repeat.f
        rw [if_pos ⟨by omega, by omega, by decide⟩, show ((long : Int) - (s.size : Int)).toNat = 0 by omega]
      refine ⟨_, first_zeros l hl hp 0 s (by omega) hf, ?_⟩
      refine Ev.step (fun k => by rw [impl_firstFree.f]) ?_
      refine Ev.pos hcond (Ev.vbind hfit (Ev.pos ⟨rfl, by omega⟩ (Ev.vbind hrep (Ev.pos (by decide) (Ev.val ?_)))))
      rw [repeat_zero]
    | false =>
      rw [hf] at hfit
      refine ⟨(⟨#[]⟩, false), ?_, ?_⟩
      · obtain ⟨v, hv, hva⟩ := area_any l s hl hp
        refine Ev.step (fun k => by rw [spec_plFirst.f]) ?_
        refine Ev.bind hv ?_
        cases ha : (l.any fun c => begB c s) with
        | true =>
          rw [ha, bne_iff_ne] at hva
          exact Ev.neg hva (Ev.val rfl)
        | false =>
          rw [ha, bne_eq_false_iff_eq] at hva
          refine Ev.pos hva (Ev.pos (by omega) (Ev.eq (first_end l hl s l.length 0 (by omega)) ?_))
          have : (l.any fun c => begB s c) = true := by
            cases hb : (l.any fun c => begB s c) with
            | true => rfl
            | false =>
              have : fitB l s = true := fitB_iff.mpr (fun c hc => ⟨by simpa using List.any_eq_false.mp ha c hc, by simpa using List.any_eq_false.mp hb c hc⟩)
              rw [this] at hf; exact absurd hf (by simp)
          rw [List.drop_zero, this]; rfl
      · refine Ev.step (fun k => by rw [impl_firstFree.f]) ?_
        exact Ev.pos hcond (Ev.vbind hfit (Ev.neg (by simp) (Ev.pos (by omega) (Ev.val rfl))))
  | succ n ih =>
    intro s hn hinv
    have hfit := fits_f l s hl
    have hcond : l.length ≤ 1048576 ∧ s.size ≤ 1048576 ∧ 0 ≤ (long : Int) ∧ (long : Int) ≤ 1048576 := ⟨hl, by omega, by omega, by omega⟩
    by_cases hf : fitB l s = true ∧ s.size ≠ 0
    · obtain ⟨hf, hs0⟩ := hf
      rw [hf] at hfit
      have hrep : strings_Repeat.f ⟨#[48]⟩ ((long : Int) - (s.size : Int)) = some ⟨(Lib.repeatL [48] (n + 1)).toArray⟩ := by
        unfold strings_Repeat.f
        rw [if_pos ⟨by omega, by omega, by decide⟩, show ((long : Int) - (s.size : Int)).toNat = n + 1 by omega]
      have hzs : (⟨(Lib.repeatL [48] (n + 1)).toArray⟩ : ByteArray).size ≤ 1099511627776 := by
        have e := repeat_zero s (n + 1)
        have : (s ++ (⟨(Lib.repeatL [48] (n + 1)).toArray⟩ : ByteArray)).size = s.size + (n + 1) := by
          rw [e, size_data, zerosT_data, List.length_append, List.length_replicate]; rfl
        rw [size_append] at this
        omega
      refine ⟨_, first_zeros l hl hp (n + 1) s (by omega) hf, ?_⟩
      refine Ev.step (fun k => by rw [impl_firstFree.f]) ?_
      refine Ev.pos hcond (Ev.vbind hfit (Ev.pos ⟨rfl, hs0⟩ (Ev.vbind hrep (Ev.pos hzs (Ev.val ?_)))))
      rw [repeat_zero]
    · have hcon := containsS_ev l s hl
      have im : ∀ q, Ev (fun k => if hasB s l = true then some ((⟨#[]⟩ : ByteArray), false) else firstO (fun d => impl_firstFree.f k l (moreD s d) (long : Int)) 10 0) q → Ev (fun k => impl_firstFree.f k l s (long : Int)) q := by
        intro q hq
        refine Ev.step (fun k => by rw [impl_firstFree.f]) ?_
        exact Ev.pos hcond (Ev.vbind hfit (Ev.neg hf (Ev.neg (by omega) (Ev.bind hcon hq))))
      obtain ⟨v, hv, hva⟩ := area_any l s hl hp
      cases hm : hasB s l with
      | true =>
        rw [hm] at im
        refine ⟨(⟨#[]⟩, false), ?_, im _ (Ev.pos rfl (Ev.val rfl))⟩
        have ha : (l.any fun c => begB c s) = true := List.any_eq_true.mpr ⟨s, hasB_iff.mp hm, begB_self s⟩
        rw [ha, bne_iff_ne] at hva
        refine Ev.step (fun k => by rw [spec_plFirst.f]) ?_
        exact Ev.bind hv (Ev.neg hva (Ev.val rfl))
      | false =>
        rw [hm] at im
        have hno : ∀ c ∈ l, begB c s = false := fun c hc => by
          cases hh : begB c s with
          | false => rfl
          | true => have := hinv c hc hh; subst this; exact absurd hc (has_not.mp hm)
        have ha : (l.any fun c => begB c s) = false := List.any_eq_false.mpr (fun c hc => by rw [hno c hc]; simp)
        rw [ha, bne_eq_false_iff_eq] at hva
        obtain ⟨r, h1, h2⟩ := first_loop l s n (long : Int) (by omega) (by omega) (fun d hd => ih (moreD s d) (by rw [moreD_size s d hd]; omega) (fun c hc hh => by
          rcases beg_snoc hd hh with h | h
          · rw [hno c hc] at h; exact absurd h (by simp)
          · exact h)) 10 0 (by omega)
        refine ⟨r, ?_, im _ (Ev.neg (by simp) h2)⟩
        refine Ev.step (fun k => by rw [spec_plFirst.f]) ?_
        exact Ev.bind hv (Ev.pos hva (Ev.neg (by omega) h1))
end
end Go.Proofs.YtnodkdjaemahcaaGreatDoor.PA

/-! The reference's sorted list of texts: a text is put in its place. No condition but bounds. -/
namespace Go.Proofs.YtnodkdjaemahcaaGreatDoor.PA
open Go.RowKit Go.Proofs.YtnodkdjaemahcaaGreatDoorW.PrintWords
set_option linter.unusedVariables false

theorem insB_cons_ge {x y : ByteArray} {r : List ByteArray} (h : ltB y x = false) : insB x (y :: r) = if y = x then y :: r else x :: y :: r := by
  rw [insB, if_neg (by simp [h])]
theorem put_tail (l : List ByteArray) (x : ByteArray) (hl : l.length ≤ 1048576) (i : Nat) (hi : i ≤ l.length) (own : ∀ m : List ByteArray, m.length ≤ 1048576 → spec_l1OwnS.f m = some m) (h1 : ∀ y ∈ l.take i, ltB y x = true) (h2 : ∀ y ∈ l.drop i, ltB y x = false) :
    Ev (fun k => (if (i : Int) < (l.length : Int) then (if 0 ≤ (i : Int) then (if (rdOf ByteArray.empty l (i : Int)).toList = x.toList then (some l) else (if (i : Int) ≤ (l.length : Int) then ((spec_l1OwnS.f (l.take ((i : Int) : Int).toNat)).bind fun t270 => (if t270.length < 8796093022208 then ((some (t270 ++ [x] : List ByteArray)).bind fun y273 => ((some (l.drop ((i : Int) : Int).toNat : List ByteArray)).bind fun y276 => (if y273.length + y276.length < 8796093022208 then (some (y273 ++ y276)) else (none)))) else (none))) else (none))) else (none)) else (if 0 ≤ (i : Int) then (if (i : Int) ≤ (l.length : Int) then ((spec_l1OwnS.f (l.take ((i : Int) : Int).toNat)).bind fun t287 => (if t287.length < 8796093022208 then ((some (t287 ++ [x] : List ByteArray)).bind fun y290 => ((some (l.drop ((i : Int) : Int).toNat : List ByteArray)).bind fun y293 => (if y290.length + y293.length < 8796093022208 then (some (y290 ++ y293)) else (none)))) else (none))) else (none)) else (none)))) (insB x l) := by
  rw [insB_take i h1, Int.toNat_natCast, own _ (by simp; omega)]
  have hlen : (l.take i ++ [x]).length + (l.drop i).length = l.length + 1 := by simp; omega
  have hput : (l.take i).length < 8796093022208 := by simp; omega
  by_cases hlt : i < l.length
  · have hd : l.drop i = l[i] :: l.drop (i + 1) := List.drop_eq_getElem_cons hlt
    have hge : ltB l[i] x = false := h2 _ (hd ▸ List.mem_cons_self ..)
    refine Ev.pos (by omega) (Ev.pos (by omega) ?_)
    rw [rdS_nat hlt]
    by_cases e : l[i] = x
    · refine Ev.pos (by rw [e]) (Ev.val ?_)
      rw [hd, insB_cons_ge hge, if_pos e, ← hd, List.take_append_drop]
    · refine Ev.neg (fun h => e (toList_inj.mp h)) (Ev.pos (by omega) (Ev.vbind rfl (Ev.pos hput (Ev.vbind rfl (Ev.vbind rfl (Ev.pos (by omega) (Ev.val ?_)))))))
      rw [show insB x (l.drop i) = x :: l.drop i by rw [hd, insB_cons_ge hge, if_neg e]]
      simp
  · have hd : l.drop i = [] := List.drop_of_length_le (by omega)
    refine Ev.neg (by omega) (Ev.pos (by omega) (Ev.pos (by omega) (Ev.vbind rfl (Ev.pos hput (Ev.vbind rfl (Ev.vbind rfl (Ev.pos (by omega) (Ev.val ?_))))))))
    rw [hd]; simp [insB]
theorem own_f (m : List ByteArray) (h : m.length ≤ 1048576) : spec_l1OwnS.f m = some m := by
  unfold spec_l1OwnS.f
  rw [Option.bind_some, if_pos (by simp; omega)]; rfl
theorem wdPut_l0 (l : List ByteArray) (x : ByteArray) (hl : l.length ≤ 1048576) (hu : Up l) : ∀ (i : Nat), i ≤ l.length → (∀ y ∈ l.drop i, ltB y x = false) → Ev (fun k => spec_wdPut.l0 k l x (i : Int)) (insB x l)
  | 0, hi, h2 => by
    refine Ev.step (fun k => by rw [spec_wdPut.l0]) ?_
    refine Ev.neg (by omega) ?_
    exact put_tail l x hl 0 hi own_f (by simp) h2
  | i + 1, hi, h2 => by
    refine Ev.step (fun k => by rw [spec_wdPut.l0]) ?_
    have hj : wrap64 (((i + 1 : Nat) : Int) - 1) = (i : Int) := by rw [wrap_in (by omega) (by omega)]; omega
    rw [hj]
    refine Ev.pos (by omega) (Ev.pos (by omega) (Ev.pos (by omega) ?_))
    rw [rdS_nat (show i < l.length by omega)]
    refine Ev.ite (fun e => ?_) (fun e => ?_)
    · exact put_tail l x hl (i + 1) hi own_f (up_take_lt hu (by omega) hi e) h2
    · refine wdPut_l0 l x hl hu i (by omega) (fun y hy => ?_)
      rw [List.drop_eq_getElem_cons (show i < l.length by omega)] at hy
      rcases List.mem_cons.mp hy with rfl | hy
      · exact Bool.eq_false_iff.mpr e
      · exact h2 y hy
theorem wdPut_ev (l : List ByteArray) (x : ByteArray) (hl : l.length ≤ 1048576) (hu : Up l) : Ev (fun k => spec_wdPut.f k l x) (insB x l) :=
  wdPut_l0 l x hl hu l.length (Nat.le_refl _) (by rw [List.drop_of_length_le (Nat.le_refl _)]; simp)
end Go.Proofs.YtnodkdjaemahcaaGreatDoor.PA

/-! Sorted lists of texts: putting one after the other sorts, where none comes twice. No condition. -/
namespace Go.Proofs.YtnodkdjaemahcaaGreatDoor.PA
open Go.RowKit Go.Proofs.YtnodkdjaemahcaaGreatDoorW.PrintWords
set_option linter.unusedVariables false

theorem insB_perm {x : ByteArray} : ∀ {l : List ByteArray}, x ∉ l → (insB x l).Perm (x :: l)
  | [], _ => List.Perm.refl _
  | y :: r, h => by
    have hne : ¬ y = x := fun e => h (by simp [e])
    have hr : x ∉ r := fun e => h (by simp [e])
    unfold insB
    split
    · exact (List.Perm.cons y (insB_perm hr)).trans (List.Perm.swap x y r)
    · exact List.Perm.refl _
def putAll (B : List ByteArray) (l : List ByteArray) : List ByteArray := l.foldl (fun B x => insB x B) B
theorem putAll_facts : ∀ (l B : List ByteArray), Up B → Up (putAll B l) ∧ (putAll B l).length ≤ B.length + l.length ∧ ((putAll B l).length = B.length + l.length → (putAll B l).Perm (l ++ B)) ∧ ((l ++ B).Nodup → (putAll B l).length = B.length + l.length)
  | [], B, h => ⟨h, by simp [putAll], fun _ => List.Perm.refl _, fun _ => rfl⟩
  | x :: l, B, h => by
    obtain ⟨h1, h2, h3, h4⟩ := putAll_facts l (insB x B) (up_insB h)
    have e : putAll B (x :: l) = putAll (insB x B) l := rfl
    rw [e]
    by_cases hx : x ∈ B
    · rw [insB_in h hx] at h1 h2 h3 h4 ⊢
      refine ⟨h1, by simp only [List.length_cons]; omega, fun hh => by simp only [List.length_cons] at hh; omega, fun hh => ?_⟩
      have := (List.nodup_cons.mp hh).1
      exact absurd (List.mem_append_right l hx) this
    · have hp := insB_perm hx
      have hlen := len_insB hx
      rw [hlen] at h2 h3 h4
      refine ⟨h1, by simp only [List.length_cons]; omega, fun hh => ?_, fun hh => ?_⟩
      · have := h3 (by simp only [List.length_cons] at hh; omega)
        refine this.trans ?_
        exact (List.Perm.append_left l hp).trans List.perm_middle
      · have hn : (l ++ insB x B).Nodup := ((List.Perm.append_left l hp).trans List.perm_middle).nodup_iff.mpr hh
        have := h4 hn
        simp only [List.length_cons]
        omega
/-- what the library's sort writes -/
def sortB (l : List ByteArray) : List ByteArray := ((l.map (·.data.toList)).mergeSort fun x y => decide (x ≤ y)).map fun b => ⟨b.toArray⟩
theorem sortB_perm (l : List ByteArray) : (sortB l).Perm l := by
  unfold sortB
  have h := (List.mergeSort_perm (l.map (·.data.toList)) (fun x y => decide (x ≤ y))).map (fun b => (⟨b.toArray⟩ : ByteArray))
  refine h.trans ?_
  rw [List.map_map]
  have : (fun b : List UInt8 => (⟨b.toArray⟩ : ByteArray)) ∘ (fun s : ByteArray => s.data.toList) = id := by
    funext s; exact ba_ext (by simp)
  rw [this, List.map_id]
theorem sortB_up (l : List ByteArray) : (sortB l).Pairwise (fun a b => ltB b a = false) := by
  have h := List.pairwise_mergeSort (le := fun (x y : List UInt8) => decide (x ≤ y)) (fun a b c h1 h2 => by
      simp only [decide_eq_true_eq] at h1 h2 ⊢
      exact List.le_trans h1 h2) (fun a b => by
      simp only [Bool.or_eq_true, decide_eq_true_eq]
      exact List.le_total a b) (l.map (·.data.toList))
  unfold sortB
  rw [List.pairwise_map]
  refine h.imp ?_
  intro a b hab
  have hab' : a ≤ b := of_decide_eq_true hab
  cases hh : ltB (⟨b.toArray⟩ : ByteArray) ⟨a.toArray⟩ with
  | false => rfl
  | true =>
    have := ltB_iff.mp hh
    rw [toList_mk, toList_mk] at this
    exact absurd this (List.not_lt.mpr hab')
theorem up_nodup {l : List ByteArray} (h : Up l) : l.Nodup := h.imp (fun {a b} hab e => by rw [e, ltB_irrefl] at hab; exact absurd hab (by simp))
theorem sortB_eq {l U : List ByteArray} (hU : Up U) (hp : U.Perm l) : sortB l = U := by
  refine List.Perm.eq_of_pairwise (le := fun a b => ltB b a = false) (fun a b _ _ h1 h2 => ltB_three h2 h1) (sortB_up l) (hU.imp (fun {a b} hab => ltB_asymm hab)) ((sortB_perm l).trans hp.symm)
end Go.Proofs.YtnodkdjaemahcaaGreatDoor.PA

/-! Making a plan: the reference puts the codes in their places, the program sorts them. No condition but bounds. -/
namespace Go.Proofs.YtnodkdjaemahcaaGreatDoor.PA
open Go.RowKit Go.Proofs.YtnodkdjaemahcaaGreatDoorW.PrintWords
set_option linter.unusedVariables false

theorem chain_up : ∀ (l : List ByteArray), chainB l = true → Up l
  | [], _ => List.Pairwise.nil
  | [a], _ => List.pairwise_singleton ..
  | a :: b :: r, h => by
    rw [chainB, Bool.and_eq_true] at h
    have ih := chain_up (b :: r) h.2
    have hab : ltB a b = true := by have := h.1; unfold stepB at this; rw [Bool.and_eq_true] at this; exact this.1
    refine List.pairwise_cons.mpr ⟨fun z hz => ?_, ih⟩
    rcases List.mem_cons.mp hz with rfl | hz
    · exact hab
    · exact ltB_trans hab ((List.pairwise_cons.mp ih).1 z hz)
theorem good_up {l : List ByteArray} (h : goodB l = true) : Up l := by
  unfold goodB at h
  rw [Bool.and_eq_true] at h
  exact chain_up l h.2
def codesB (l : List ByteArray) : Bool := decide (1 ≤ (l.length : Int)) && decide ((l.length : Int) ≤ 20) && l.all codeB
theorem good_codes {l : List ByteArray} (h : goodB l = true) : codesB l = true := by
  unfold goodB at h
  rw [Bool.and_eq_true] at h
  exact h.1
theorem codes_perm {a b : List ByteArray} (h : a.Perm b) : codesB a = codesB b := by
  unfold codesB
  rw [h.length_eq, h.all_eq]
/-- the plan of some codes, if they make one -/
def planOf (l : List ByteArray) : List ByteArray × Bool := if codesB l = true ∧ (putAll [] l).length = l.length ∧ goodB (putAll [] l) = true then (putAll [] l, true) else ([], false)
theorem planOf_len (l : List ByteArray) : (planOf l).1.length ≤ 20 := by
  unfold planOf
  split
  · rename_i h
    have := good_codes h.2.2
    unfold codesB at this
    simp only [Bool.and_eq_true, decide_eq_true_eq] at this
    show (putAll [] l).length ≤ 20
    omega
  · simp
section
variable (l : List ByteArray) (hl : l.length ≤ 1048576) (hs : ∀ y ∈ l, y.size ≤ 1048576)
include hl hs
theorem makeI_ev : Ev (fun k => impl_MakePlan.f k l) (planOf l) := by
  unfold impl_MakePlan.f
  by_cases h20 : (l.length : Int) > 20
  · refine Ev.pos h20 (Ev.val ?_)
    have hc : codesB l = false := by
      unfold codesB
      simp [show ¬ (l.length : Int) ≤ 20 by omega]
    unfold planOf
    rw [hc, if_neg (by simp)]
  · have hcl : slices_Clone_string_string.f l = some l := by unfold slices_Clone_string_string.f; rw [if_pos hl]
    have hso : slices_Sort_string_string.f l = some (sortB l) := by unfold slices_Sort_string_string.f; rw [if_pos hl]; rfl
    have hp := sortB_perm l
    have hgood := isCodePlan_ev (sortB l) (by rw [hp.length_eq]; exact hl) (fun y hy => hs y (hp.mem_iff.mp hy))
    refine Ev.neg h20 (Ev.vbind hcl (Ev.vbind hso (Ev.bind (a := planOf l) ?_ (Ev.val rfl))))
    unfold impl_toldCodes.f
    refine Ev.bind hgood ?_
    obtain ⟨u1, u2, u3, u4⟩ := putAll_facts l [] List.Pairwise.nil
    cases g : goodB (sortB l) with
    | true =>
      have hc : codesB l = true := by rw [← codes_perm hp]; exact good_codes g
      have hn : l.Nodup := hp.nodup_iff.mp (up_nodup (good_up g))
      have hz : (putAll [] l).length = l.length := by have := u4 (by rw [List.append_nil]; exact hn); simpa using this
      have hpu := u3 (by simpa using hz)
      rw [List.append_nil] at hpu
      have e := sortB_eq u1 hpu
      rw [e] at g ⊢
      exact Ev.pos rfl (Ev.val (by unfold planOf; rw [if_pos ⟨hc, hz, g⟩]))
    | false =>
      refine Ev.neg (by simp) (Ev.val ?_)
      unfold planOf
      rw [if_neg]
      rintro ⟨hc, hz, gg⟩
      have hpu := u3 (by simpa using hz)
      rw [List.append_nil] at hpu
      rw [sortB_eq u1 hpu, gg] at g
      exact absurd g (by simp)
end
end Go.Proofs.YtnodkdjaemahcaaGreatDoor.PA

/-! What a plan is: codes, strictly up, none of which begins another one. No condition. -/
namespace Go.Proofs.YtnodkdjaemahcaaGreatDoor.PA
open Go.RowKit Go.Proofs.YtnodkdjaemahcaaGreatDoorW.PrintWords
set_option linter.unusedVariables false

/-- what lies between a text and a longer one that it begins is begun by it too -/
theorem between : ∀ (a b t : List UInt8), a ≤ b → b ≤ a ++ t → a.isPrefixOf b = true
  | [], b, t, _, _ => by simp
  | x :: a, [], t, h, _ => by
    exact absurd h (by simp [← List.not_lt])
  | x :: a, y :: b, t, h1, h2 => by
    rw [List.cons_le_cons_iff] at h1
    rw [List.cons_append, List.cons_le_cons_iff] at h2
    have hxy : x = y := by
      rcases h1 with h1 | ⟨h1, _⟩
      · rcases h2 with h2 | ⟨h2, _⟩
        · exact absurd h1 (by have := UInt8.lt_asymm h2; exact this)
        · exact h2.symm
      · exact h1
    subst hxy
    have g1 : a ≤ b := by
      rcases h1 with h1 | ⟨_, h1⟩
      · exact absurd h1 (UInt8.lt_irrefl x)
      · exact h1
    have g2 : b ≤ a ++ t := by
      rcases h2 with h2 | ⟨_, h2⟩
      · exact absurd h2 (UInt8.lt_irrefl x)
      · exact h2
    rw [List.isPrefixOf_cons_cons, between a b t g1 g2]
    simp
theorem beg_between {a b c : ByteArray} (h1 : ltB a b = true) (h2 : ltB b c = true) (h : begB a c = true) : begB a b = true := by
  obtain ⟨t, ht⟩ := begB_iff.mp h
  have e1 := ltB_iff.mp h1
  have e2 := ltB_iff.mp h2
  rw [toList_data, toList_data] at e1 e2
  rw [ht] at e2
  exact between _ _ t (List.le_of_lt e1) (List.le_of_lt e2)
/-- none of the texts begins another one -/
def Apart (l : List ByteArray) : Prop := ∀ a ∈ l, ∀ b ∈ l, a ≠ b → begB a b = false
theorem beg_not_lt {a b : ByteArray} (h : ltB b a = true) : begB a b = false := by
  cases hb : begB a b with
  | false => rfl
  | true =>
    obtain ⟨t, ht⟩ := begB_iff.mp hb
    have e := ltB_iff.mp h
    rw [toList_data, toList_data, ht] at e
    exact absurd e (List.not_lt.mpr (List.le_append_left (l₁ := a.data.toList)))
theorem chain_apart : ∀ (l : List ByteArray), chainB l = true → l.Pairwise (fun a b => ltB a b = true ∧ begB a b = false)
  | [], _ => List.Pairwise.nil
  | [a], _ => List.pairwise_singleton ..
  | a :: b :: r, h => by
    rw [chainB, Bool.and_eq_true] at h
    have ih := chain_apart (b :: r) h.2
    have hab : ltB a b = true ∧ begB a b = false := by have := h.1; unfold stepB at this; simpa [ltB, lessB] using this
    refine List.pairwise_cons.mpr ⟨fun z hz => ?_, ih⟩
    rcases List.mem_cons.mp hz with rfl | hz
    · exact hab
    · have hbz := (List.pairwise_cons.mp ih).1 z hz
      refine ⟨ltB_trans hab.1 hbz.1, ?_⟩
      cases hh : begB a z with
      | false => rfl
      | true => rw [beg_between hab.1 hbz.1 hh] at hab; exact absurd hab.2 (by simp)
theorem apart_chain : ∀ (l : List ByteArray), Up l → Apart l → chainB l = true
  | [], _, _ => rfl
  | [a], _, _ => rfl
  | a :: b :: r, hu, ha => by
    obtain ⟨h1, h2⟩ := List.pairwise_cons.mp hu
    have hab := h1 b (by simp)
    have hne : a ≠ b := fun e => by rw [e, ltB_irrefl] at hab; exact absurd hab (by simp)
    rw [chainB, Bool.and_eq_true]
    refine ⟨?_, apart_chain (b :: r) h2 (fun x hx y hy => ha x (by simp [hx]) y (by simp [hy]))⟩
    unfold stepB
    rw [Bool.and_eq_true]
    exact ⟨hab, by rw [ha a (by simp) b (by simp) hne]; rfl⟩
theorem good_iff {l : List ByteArray} : goodB l = true ↔ codesB l = true ∧ Up l ∧ Apart l := by
  constructor
  · intro h
    have hp : chainB l = true := by unfold goodB at h; rw [Bool.and_eq_true] at h; exact h.2
    refine ⟨good_codes h, good_up h, ?_⟩
    have hpw := chain_apart l hp
    intro a ha b hb hne
    obtain ⟨i, hi, rfl⟩ := List.mem_iff_getElem.mp ha
    obtain ⟨j, hj, rfl⟩ := List.mem_iff_getElem.mp hb
    rcases Nat.lt_trichotomy i j with h1 | h1 | h1
    · exact (List.pairwise_iff_getElem.mp hpw i j hi hj h1).2
    · subst h1; exact absurd rfl hne
    · exact beg_not_lt (List.pairwise_iff_getElem.mp hpw j i hj hi h1).1
  · rintro ⟨h1, h2, h3⟩
    unfold goodB
    rw [Bool.and_eq_true]
    exact ⟨h1, apart_chain l h2 h3⟩
theorem putAll_up {l : List ByteArray} (h : Up l) : putAll [] l = l := by
  obtain ⟨h1, h2, h3, h4⟩ := putAll_facts l [] List.Pairwise.nil
  have hz := h4 (by rw [List.append_nil]; exact up_nodup h)
  have hp := h3 hz
  rw [List.append_nil] at hp
  exact List.Perm.eq_of_pairwise (le := fun a b => ltB b a = false) (fun a b _ _ e1 e2 => ltB_three e2 e1) (h1.imp (fun {a b} hab => ltB_asymm hab)) (h.imp (fun {a b} hab => ltB_asymm hab)) hp
end Go.Proofs.YtnodkdjaemahcaaGreatDoor.PA

/-! Codes of given lengths, the shorter first: the first free code stands right behind all that is taken. No condition but bounds. -/
namespace Go.Proofs.YtnodkdjaemahcaaGreatDoor.PA
open Go.RowKit Go.Proofs.YtnodkdjaemahcaaGreatDoorW.PrintWords
set_option linter.unusedVariables false

/-- nines behind a text -/
def ninesT (s : ByteArray) : Nat → ByteArray
  | 0 => s
  | m + 1 => ninesT (moreD s 9) m
theorem nines_size : ∀ (m : Nat) (s : ByteArray), (ninesT s m).size = s.size + m
  | 0, s => rfl
  | m + 1, s => by rw [ninesT, nines_size m, moreD_size s 9 (by omega)]; omega
theorem nines_digs : ∀ (m : Nat) (s : ByteArray), digsB s = true → digsB (ninesT s m) = true
  | 0, s, h => h
  | m + 1, s, h => nines_digs m _ (digs_more h 9 (by omega))
theorem nines_beg : ∀ (m : Nat) (s : ByteArray), begB s (ninesT s m) = true
  | 0, s => begB_self s
  | m + 1, s => beg_trans (beg_more (by omega)) (nines_beg m _)
theorem nines_val : ∀ (m : Nat) (s : ByteArray), tval (ninesT s m) + 1 = (tval s + 1) * 10 ^ m
  | 0, s => by simp [ninesT]
  | m + 1, s => by
    rw [ninesT, nines_val m, tval_more s 9 (by omega), Nat.pow_succ, Nat.mul_comm (10 ^ m) 10, ← Nat.mul_assoc]
    congr 1
    omega
section
variable (l : List ByteArray) (n T : Nat) (hl : l.length ≤ 1048576) (hn : n ≤ 6) (hc : ∀ c ∈ l, codeB c = true ∧ c.size ≤ n)
  (hT : ∀ x, digsB x = true → x.size = n → (l.any fun c => begB c x) = decide (tval x < T))
include hl hn hc hT
theorem plFirst_val : ∀ (m : Nat) (b : ByteArray), digsB b = true → b.size + m = n →
    (T < (tval b + 1) * 10 ^ m → ∃ r, digsB r = true ∧ r.size = n ∧ tval r = max T (tval b * 10 ^ m) ∧ Ev (fun k => spec_plFirst.f k l b (m : Int)) (r, true)) ∧
    (¬ T < (tval b + 1) * 10 ^ m → Ev (fun k => spec_plFirst.f k l b (m : Int)) (⟨#[]⟩, false)) := by
  have hp : ∀ c ∈ l, c.size ≠ 0 := fun c h => by have := code_size (hc c h).1; omega
  intro m
  induction m with
  | zero =>
    intro b hb hz
    obtain ⟨v, hv, hva⟩ := area_any l b hl hp
    have ha := hT b hb (by omega)
    rw [ha] at hva
    simp only [Nat.pow_zero, Nat.mul_one]
    constructor
    · intro h
      rw [decide_eq_false (by omega), bne_eq_false_iff_eq] at hva
      refine ⟨b, hb, by omega, by omega, ?_⟩
      refine Ev.step (fun k => by rw [spec_plFirst.f]) ?_
      refine Ev.bind hv (Ev.pos hva (Ev.pos (by omega) (Ev.eq (first_end l hl b l.length 0 (by omega)) ?_)))
      have : (l.any fun c => begB b c) = false := by
        rw [List.any_eq_false]
        intro c hcl hbc
        have hbc' : begB b c = true := by simpa using hbc
        obtain ⟨t, ht⟩ := begB_iff.mp hbc'
        have hsz : c.size = b.size + t.length := by have := congrArg List.length ht; rwa [List.length_append, ← size_data, ← size_data] at this
        have e := beg_eq hbc' (by have := (hc c hcl).2; omega)
        have hcov : (l.any fun c => begB c b) = true := List.any_eq_true.mpr ⟨c, hcl, by rw [e]; exact begB_self c⟩
        rw [ha, decide_eq_false (by omega)] at hcov
        exact absurd hcov (by simp)
      rw [List.drop_zero, this]; rfl
    · intro h
      rw [decide_eq_true (by omega), bne_iff_ne] at hva
      refine Ev.step (fun k => by rw [spec_plFirst.f]) ?_
      exact Ev.bind hv (Ev.neg hva (Ev.val rfl))
  | succ m ih =>
    intro b hb hz
    obtain ⟨v, hv, hva⟩ := area_any l b hl hp
    have hP : 0 < 10 ^ m := Nat.pow_pos (by omega)
    cases ha : (l.any fun c => begB c b) with
    | true =>
      rw [ha, bne_iff_ne] at hva
      obtain ⟨c, hcl, hcb⟩ := List.any_eq_true.mp ha
      have hcov : (l.any fun c => begB c (ninesT b (m + 1))) = true := List.any_eq_true.mpr ⟨c, hcl, beg_trans hcb (nines_beg (m + 1) b)⟩
      rw [hT _ (nines_digs (m + 1) b hb) (by rw [nines_size]; omega), decide_eq_true_iff] at hcov
      have hv9 := nines_val (m + 1) b
      refine ⟨fun h => by omega, fun _ => ?_⟩
      refine Ev.step (fun k => by rw [spec_plFirst.f]) ?_
      exact Ev.bind hv (Ev.neg hva (Ev.val rfl))
    | false =>
      rw [ha, bne_eq_false_iff_eq] at hva
      have hm10 : tval b * (10 ^ m * 10) = 10 * (tval b * 10 ^ m) := by rw [← Nat.mul_assoc, Nat.mul_comm]
      have hpow : (tval b + 1) * 10 ^ (m + 1) = 10 * (tval b * 10 ^ m) + 10 * 10 ^ m := by rw [Nat.pow_succ, Nat.add_mul, hm10]; omega
      have hpow2 : tval b * 10 ^ (m + 1) = 10 * (tval b * 10 ^ m) := by rw [Nat.pow_succ, hm10]
      have loop : ∀ (j d : Nat), d + j = 10 → (d = 0 ∨ 10 * (tval b * 10 ^ m) + d * 10 ^ m ≤ T) →
          (T < (tval b + 1) * 10 ^ (m + 1) → ∃ r, digsB r = true ∧ r.size = n ∧ tval r = max T (tval b * 10 ^ (m + 1)) ∧ Ev (fun k => spec_plFirst.l1 k l b ((m + 1 : Nat) : Int) (d : Int)) (r, true)) ∧
          (¬ T < (tval b + 1) * 10 ^ (m + 1) → Ev (fun k => spec_plFirst.l1 k l b ((m + 1 : Nat) : Int) (d : Int)) (⟨#[]⟩, false)) := by
        intro j
        induction j with
        | zero =>
          intro d hd hprev
          have hd10 : d = 10 := by omega
          subst hd10
          refine ⟨fun h => by rcases hprev with h0 | h0 <;> omega, fun _ => ?_⟩
          refine Ev.step (fun k => by rw [spec_plFirst.l1]) ?_
          exact Ev.neg (by omega) (Ev.val rfl)
        | succ j ihj =>
          intro d hd hprev
          have hz2 := moreD_size b d (by omega)
          have hcat : b.size + (digS.extract d (d + 1)).size ≤ 9223372036854775807 := by
            have : (moreD b d).size = b.size + (digS.extract d (d + 1)).size := size_append _ _
            omega
          obtain ⟨i1, i2⟩ := ih (moreD b d) (digs_more hb d (by omega)) (by omega)
          have hval := tval_more b d (by omega)
          rw [hval] at i1 i2
          have e1 : (10 * tval b + d + 1) * 10 ^ m = 10 * (tval b * 10 ^ m) + d * 10 ^ m + 10 ^ m := by rw [Nat.add_mul, Nat.add_mul, Nat.mul_assoc]; omega
          have e2 : (10 * tval b + d) * 10 ^ m = 10 * (tval b * 10 ^ m) + d * 10 ^ m := by rw [Nat.add_mul, Nat.mul_assoc]
          have e3 : d * 10 ^ m + 10 ^ m ≤ 10 * 10 ^ m := by
            have : (d + 1) * 10 ^ m ≤ 10 * 10 ^ m := Nat.mul_le_mul_right _ (by omega)
            rw [Nat.add_mul] at this
            omega
          have sp : ∀ (r : ByteArray × Bool) q, Ev (fun k => spec_plFirst.f k l (moreD b d) (m : Int)) r → Ev (fun k => if r.2 = true then some (r.1, true) else spec_plFirst.l1 k l b ((m + 1 : Nat) : Int) (((d + 1 : Nat)) : Int)) q → Ev (fun k => spec_plFirst.l1 k l b ((m + 1 : Nat) : Int) (d : Int)) q := by
            intro r q h1 hq
            refine Ev.step (fun k => by rw [spec_plFirst.l1]) ?_
            refine Ev.pos (by omega) (Ev.bind (l1Num_dig d (by omega)) (Ev.pos hcat ?_))
            rw [show wrap64 (((m + 1 : Nat) : Int) - 1) = (m : Int) by rw [wrap_in (by omega) (by omega)]; omega, wrap_nat (by omega)]
            exact Ev.bind h1 hq
          by_cases hlt : T < (10 * tval b + d + 1) * 10 ^ m
          · obtain ⟨r, r1, r2, r3, r4⟩ := i1 hlt
            refine ⟨fun _ => ⟨r, r1, r2, ?_, sp _ _ r4 (Ev.pos rfl (Ev.val rfl))⟩, fun h => by omega⟩
            rw [r3, e2, hpow2]
            rcases hprev with h0 | h0
            · subst h0; simp
            · omega
          · have hf := i2 hlt
            obtain ⟨j1, j2⟩ := ihj (d + 1) (by omega) (.inr (by rw [Nat.add_mul]; omega))
            refine ⟨fun h => ?_, fun h => sp _ _ hf (Ev.neg (by simp) (j2 h))⟩
            obtain ⟨r, r1, r2, r3, r4⟩ := j1 h
            exact ⟨r, r1, r2, r3, sp _ _ hf (Ev.neg (by simp) r4)⟩
      obtain ⟨l1, l2⟩ := loop 10 0 (by omega) (.inl rfl)
      have st : ∀ q, Ev (fun k => spec_plFirst.l1 k l b ((m + 1 : Nat) : Int) ((0 : Nat) : Int)) q → Ev (fun k => spec_plFirst.f k l b ((m + 1 : Nat) : Int)) q := by
        intro q hq
        refine Ev.step (fun k => by rw [spec_plFirst.f]) ?_
        exact Ev.bind hv (Ev.pos hva (Ev.neg (by omega) hq))
      refine ⟨fun h => ?_, fun h => st _ (l2 h)⟩
      obtain ⟨r, r1, r2, r3, r4⟩ := l1 h
      exact ⟨r, r1, r2, r3, st _ r4⟩
end
/-- what is taken: codes no longer than n, in order, that begin just the texts of n digits below a bound -/
structure Taken (l : List ByteArray) (S n : Nat) : Prop where
  code : ∀ c ∈ l, codeB c = true ∧ c.size ≤ n
  cov : ∀ x, digsB x = true → x.size = n → (l.any fun c => begB c x) = decide (tval x * 10 ^ (6 - n) < S)
  div : 10 ^ (6 - n) ∣ S
  up : Up l
  apart : Apart l
theorem taken_nil (n : Nat) : Taken [] 0 n :=
  ⟨fun c h => by simp at h, fun x _ _ => by simp, Nat.dvd_zero _, List.Pairwise.nil, fun a h => by simp at h⟩
theorem beg_ext {c p x : ByteArray} (hp : begB p x = true) (hz : c.size ≤ p.size) (h : begB c x = true) : begB c p = true := by
  obtain ⟨t, ht⟩ := begB_iff.mp hp
  obtain ⟨u, hu⟩ := begB_iff.mp h
  unfold begB
  rw [List.isPrefixOf_iff_prefix]
  have h1 : c.data.toList <+: x.data.toList := ⟨u, hu.symm⟩
  have h2 : p.data.toList <+: x.data.toList := ⟨t, ht.symm⟩
  exact List.prefix_of_prefix_length_le h1 h2 hz
theorem taken_more {l : List ByteArray} {S n m : Nat} (h : Taken l S n) (hnm : n ≤ m) (hm : m ≤ 6) : Taken l S m := by
  have hpow : 10 ^ (6 - n) = 10 ^ (6 - m) * 10 ^ (m - n) := by rw [← Nat.pow_add]; congr 1; omega
  refine ⟨fun c hc => ⟨(h.code c hc).1, Nat.le_trans (h.code c hc).2 hnm⟩, fun x hx hz => ?_, Nat.dvd_trans ⟨10 ^ (m - n), hpow⟩ h.div, h.up, h.apart⟩
  have hpz : (x.extract 0 n).size = n := by rw [ByteArray.size_extract]; omega
  have hpd : (x.extract 0 n).data.toList = x.data.toList.take n := by rw [data_extract, List.drop_zero]
  have hpb : begB (x.extract 0 n) x = true := begB_iff.mpr ⟨x.data.toList.drop n, by rw [hpd, List.take_append_drop]⟩
  have hpg : digsB (x.extract 0 n) = true := by
    unfold digsB at hx ⊢
    rw [hpd, List.all_eq_true]
    intro b hb
    exact List.all_eq_true.mp hx b (List.mem_of_mem_take hb)
  have hany : (l.any fun c => begB c x) = (l.any fun c => begB c (x.extract 0 n)) := by
    rw [Bool.eq_iff_iff, List.any_eq_true, List.any_eq_true]
    constructor
    · rintro ⟨c, hc, hb⟩
      exact ⟨c, hc, beg_ext hpb (by have := (h.code c hc).2; omega) hb⟩
    · rintro ⟨c, hc, hb⟩
      exact ⟨c, hc, beg_trans hb hpb⟩
  rw [hany, h.cov _ hpg hpz]
  have hv := (beg_val hpg hx (by omega)).mp hpb
  rw [hpz, hz] at hv
  obtain ⟨q, hq⟩ := h.div
  rw [← hv, hq, hpow]
  rw [Bool.eq_iff_iff, decide_eq_true_iff, decide_eq_true_iff]
  have p1 : 0 < 10 ^ (6 - m) := Nat.pow_pos (by omega)
  have p2 : 0 < 10 ^ (m - n) := Nat.pow_pos (by omega)
  rw [Nat.mul_comm _ (10 ^ (6 - m) * 10 ^ (m - n)), Nat.mul_lt_mul_left (Nat.mul_pos p1 p2), Nat.div_lt_iff_lt_mul p2, Nat.mul_assoc, Nat.mul_comm _ (10 ^ (6 - m)), Nat.mul_lt_mul_left p1, Nat.mul_comm q]
theorem taken_snoc {l : List ByteArray} {S n : Nat} (hn : 1 ≤ n ∧ n ≤ 6) (h : Taken l S n) {x : ByteArray} (hx : digsB x = true) (hz : x.size = n) (hv : tval x * 10 ^ (6 - n) = S) : Taken (l ++ [x]) (S + 10 ^ (6 - n)) n ∧ ∀ c ∈ l, ltB c x = true := by
  have p1 : 0 < 10 ^ (6 - n) := Nat.pow_pos (by omega)
  have hcode : codeB x = true := by
    unfold codeB digitsB
    simp only [Bool.and_eq_true, decide_eq_true_eq]
    exact ⟨⟨by omega, by omega⟩, hx⟩
  have hno : ∀ c ∈ l, begB c x = false := by
    intro c hc
    have := h.cov x hx hz
    rw [decide_eq_false (by omega), List.any_eq_false] at this
    simpa using this c hc
  have hno2 : ∀ c ∈ l, begB x c = false := by
    intro c hc
    cases hb : begB x c with
    | false => rfl
    | true =>
      obtain ⟨t, ht⟩ := begB_iff.mp hb
      have hsz : c.size = x.size + t.length := by have := congrArg List.length ht; rwa [List.length_append, ← size_data, ← size_data] at this
      have e := beg_eq hb (by have := (h.code c hc).2; omega)
      have := hno c hc
      rw [← e, begB_self] at this
      exact absurd this (by simp)
  have hlt : ∀ c ∈ l, ltB c x = true := by
    intro c hc
    obtain ⟨hcc, hcz⟩ := h.code c hc
    have hcd := code_digs hcc
    have h9 : (l.any fun c' => begB c' (ninesT c (n - c.size))) = true := List.any_eq_true.mpr ⟨c, hc, nines_beg _ c⟩
    rw [h.cov _ (nines_digs _ c hcd) (by rw [nines_size]; omega), decide_eq_true_iff, ← hv, Nat.mul_comm, Nat.mul_comm (tval x), Nat.mul_lt_mul_left p1] at h9
    have v9 := nines_val (n - c.size) c
    have hpd : (x.data.toList.take c.size).length = c.size := by rw [List.length_take, ← size_data]; omega
    have hdl : (x.data.toList.drop c.size).length = n - c.size := by rw [List.length_drop, ← size_data]; omega
    have hall : (x.data.toList.take c.size).all digB = true := by
      rw [List.all_eq_true]; intro b hb; exact List.all_eq_true.mp hx b (List.mem_of_mem_take hb)
    have hall2 : (x.data.toList.drop c.size).all digB = true := by
      rw [List.all_eq_true]; intro b hb; exact List.all_eq_true.mp hx b (List.mem_of_mem_drop hb)
    have hxv : tval x = dval (x.data.toList.take c.size) * 10 ^ (n - c.size) + dval (x.data.toList.drop c.size) := by
      unfold tval
      rw [← hdl, ← dval_append, List.take_append_drop]
    have hd2 := dval_lt _ hall2
    rw [hdl] at hd2
    have hlt2 : dval c.data.toList < dval (x.data.toList.take c.size) := by
      refine Nat.lt_of_not_le (fun hle => ?_)
      have hm : (dval (x.data.toList.take c.size) + 1) * 10 ^ (n - c.size) ≤ (tval c + 1) * 10 ^ (n - c.size) := Nat.mul_le_mul_right _ (Nat.succ_le_succ hle)
      rw [Nat.add_mul] at hm
      omega
    refine ltB_iff.mpr ?_
    rw [toList_data, toList_data]
    have h1 := dval_lex c.data.toList _ (by rw [hpd]; rfl) hcd hall hlt2
    have h2 : x.data.toList.take c.size ≤ x.data.toList := by
      have := List.le_append_left (l₁ := x.data.toList.take c.size) (l₂ := x.data.toList.drop c.size)
      rwa [List.take_append_drop] at this
    exact Classical.byContradiction fun hn => List.not_lt.mpr (List.le_trans h2 (List.not_lt.mp hn)) h1
  refine ⟨⟨fun c hc => ?_, fun y hy hyz => ?_, Nat.dvd_add h.div (Nat.dvd_refl _), ?_, fun a ha b hb hab => ?_⟩, hlt⟩
  · rcases List.mem_append.mp hc with hc | hc
    · exact h.code c hc
    · rw [List.mem_singleton.mp hc]; exact ⟨hcode, by omega⟩
  · rw [List.any_append, h.cov y hy hyz, ← hv]
    have hxy : begB x y = decide (tval y = tval x) := by
      rw [Bool.eq_iff_iff, decide_eq_true_iff]
      constructor
      · intro hb; rw [beg_eq hb (by omega)]
      · intro he; rw [tval_inj hx hy (by omega) he.symm]; exact begB_self y
    simp only [List.any_cons, List.any_nil, Bool.or_false, hxy]
    rw [Bool.eq_iff_iff, Bool.or_eq_true, decide_eq_true_iff, decide_eq_true_iff, decide_eq_true_iff]
    have e : tval x * 10 ^ (6 - n) + 10 ^ (6 - n) = (tval x + 1) * 10 ^ (6 - n) := by rw [Nat.add_mul, Nat.one_mul]
    rw [e, Nat.mul_comm _ (10 ^ (6 - n)), Nat.mul_comm _ (10 ^ (6 - n)), Nat.mul_comm _ (10 ^ (6 - n)), Nat.mul_lt_mul_left p1, Nat.mul_lt_mul_left p1]
    omega
  · unfold Up
    rw [List.pairwise_append]
    exact ⟨h.up, List.pairwise_singleton .., fun a ha b hb => by rw [List.mem_singleton.mp hb]; exact hlt a ha⟩
  · rcases List.mem_append.mp ha with ha | ha
    · rcases List.mem_append.mp hb with hb | hb
      · exact h.apart a ha b hb hab
      · rw [List.mem_singleton.mp hb]; exact hno a ha
    · rcases List.mem_append.mp hb with hb | hb
      · rw [List.mem_singleton.mp ha]; exact hno2 b hb
      · rw [List.mem_singleton.mp ha, List.mem_singleton.mp hb] at hab; exact absurd rfl hab
theorem insB_end {l : List ByteArray} {x : ByteArray} (h : ∀ c ∈ l, ltB c x = true) : insB x l = l ++ [x] := by
  have := insB_take l.length (l := l) (x := x) (by rw [List.take_length]; exact h)
  rw [List.take_length, List.drop_length] at this
  rw [this]; rfl
/-- one code more: where there is room, the reference and the program find the same one, right behind all others; else none -/
theorem taken_step {l : List ByteArray} {S n m : Nat} (hl : l.length ≤ 1048576) (h : Taken l S n) (hnm : n ≤ m) (h1 : 1 ≤ m) (hm : m ≤ 6) :
    (S < 1000000 → ∃ r, Ev (fun k => spec_plFirst.f k l ⟨#[]⟩ (m : Int)) (r, true) ∧ Ev (fun k => impl_firstFree.f k l ⟨#[]⟩ (m : Int)) (r, true) ∧ Taken (l ++ [r]) (S + 10 ^ (6 - m)) m ∧ insB r l = l ++ [r] ∧ (l = [] → S = 0 → r = zerosT ⟨#[]⟩ m) ∧ r.size = m) ∧
    (¬ S < 1000000 → Ev (fun k => impl_firstFree.f k l ⟨#[]⟩ (m : Int)) (⟨#[]⟩, false)) := by
  have hk := taken_more h hnm hm
  have p1 : 0 < 10 ^ (6 - m) := Nat.pow_pos (by omega)
  obtain ⟨T, hT⟩ := hk.div
  have hp : ∀ c ∈ l, c.size ≠ 0 := fun c hc => by have := code_size (hk.code c hc).1; omega
  have h6 : 10 ^ m * 10 ^ (6 - m) = 1000000 := by rw [← Nat.pow_add, show m + (6 - m) = 6 by omega]
  have hcov : ∀ x, digsB x = true → x.size = m → (l.any fun c => begB c x) = decide (tval x < T) := by
    intro x hx hz
    rw [hk.cov x hx hz, hT, Bool.eq_iff_iff, decide_eq_true_iff, decide_eq_true_iff, Nat.mul_comm (tval x), Nat.mul_lt_mul_left p1]
  have hd0 : digsB ⟨#[]⟩ = true := rfl
  have hv0 : tval ⟨#[]⟩ = 0 := rfl
  obtain ⟨f1, f2⟩ := plFirst_val l m T hl hm hk.code hcov m ⟨#[]⟩ hd0 (by show 0 + m = m; omega)
  rw [hv0, Nat.zero_add, Nat.one_mul, Nat.zero_mul] at f1
  rw [hv0, Nat.zero_add, Nat.one_mul] at f2
  have hlt : T < 10 ^ m ↔ S < 1000000 := by
    rw [hT, ← h6, Nat.mul_comm (10 ^ m), Nat.mul_lt_mul_left p1]
  obtain ⟨q, q1, q2⟩ := first_same l hl hp m (by omega) h1 m ⟨#[]⟩ (by show 0 + m = m; omega) (fun c hc hb => by
    obtain ⟨t, ht⟩ := begB_iff.mp hb
    have : c.size = 0 := by
      have := congrArg List.length ht
      rw [List.length_append, ← size_data, ← size_data] at this
      have z : (⟨#[]⟩ : ByteArray).size = 0 := rfl
      omega
    exact absurd this (hp c hc))
  constructor
  · intro hS
    obtain ⟨r, r1, r2, r3, r4⟩ := f1 (hlt.mpr hS)
    have e := Ev.unique q1 r4
    subst e
    rw [Nat.max_eq_left (Nat.zero_le _)] at r3
    obtain ⟨t1, t2⟩ := taken_snoc ⟨h1, hm⟩ hk r1 r2 (by rw [r3, hT, Nat.mul_comm])
    refine ⟨r, r4, q2, t1, insB_end t2, fun _ hS0 => ?_, r2⟩
    have hT0 : T = 0 := by
      rcases Nat.eq_zero_or_pos T with h | h
      · exact h
      · have := Nat.mul_pos p1 h
        omega
    refine tval_inj r1 ?_ ?_ ?_
    · unfold digsB
      rw [zerosT_data, List.all_append]
      simp [digB]
    · rw [r2, size_data, zerosT_data, List.length_append, List.length_replicate]
      show m = 0 + m
      omega
    · rw [r3, hT0]
      have hz : ∀ j, dval (List.replicate j (48 : UInt8)) = 0 := by
        intro j
        induction j with
        | zero => rfl
        | succ j ih => rw [List.replicate_succ, dval, ih]; simp
      unfold tval
      rw [zerosT_data]
      show 0 = dval ([] ++ List.replicate m 48)
      rw [List.nil_append, hz]
  · intro hS
    have e := Ev.unique q1 (f2 (fun h => hS (hlt.mp h)))
    subst e
    exact q2
end Go.Proofs.YtnodkdjaemahcaaGreatDoor.PA

/-! The lengths of a plan's codes, in order: the reference counts them up, the program sorts. No condition but bounds. -/
namespace Go.Proofs.YtnodkdjaemahcaaGreatDoor.PA
open Go.RowKit Go.Proofs.YtnodkdjaemahcaaGreatDoorW.PrintWords
set_option linter.unusedVariables false

/-- those of a list that are 1, then those that are 2, .. -/
def upTo (l : List Int) : Nat → List Int
  | 0 => []
  | j + 1 => upTo l j ++ l.filter fun n => decide (n = (j + 1 : Int))
theorem mem_upTo {l : List Int} {n : Int} : ∀ {j : Nat}, n ∈ upTo l j ↔ n ∈ l ∧ 1 ≤ n ∧ n ≤ j
  | 0 => by simp [upTo]; omega
  | j + 1 => by
    rw [upTo, List.mem_append, mem_upTo, List.mem_filter, decide_eq_true_iff]
    constructor
    · rintro (⟨h1, h2, h3⟩ | ⟨h1, h2⟩)
      · exact ⟨h1, h2, by omega⟩
      · exact ⟨h1, by omega, by omega⟩
    · rintro ⟨h1, h2, h3⟩
      by_cases e : n = (j + 1 : Int)
      · exact .inr ⟨h1, e⟩
      · exact .inl ⟨h1, h2, by omega⟩
theorem upTo_up (l : List Int) : ∀ j : Nat, (upTo l j).Pairwise (· ≤ ·)
  | 0 => List.Pairwise.nil
  | j + 1 => by
    rw [upTo, List.pairwise_append]
    refine ⟨upTo_up l j, List.pairwise_iff_getElem.mpr (fun a b ha hb _ => ?_), fun a ha b hb => ?_⟩
    · have h1 := of_decide_eq_true (List.mem_filter.mp (List.getElem_mem ha)).2
      have h2 := of_decide_eq_true (List.mem_filter.mp (List.getElem_mem hb)).2
      omega
    · rw [List.mem_filter, decide_eq_true_iff] at hb
      have := (mem_upTo.mp ha).2.2
      omega
theorem upTo_count (l : List Int) (a : Int) : ∀ j : Nat, (upTo l j).count a = if 1 ≤ a ∧ a ≤ j then l.count a else 0
  | 0 => by
    rw [if_neg (by omega)]; rfl
  | j + 1 => by
    rw [upTo, List.count_append, upTo_count l a j]
    by_cases e : a = (j + 1 : Int)
    · rw [List.count_filter (by simpa using e), if_neg (by omega), if_pos (by omega)]; omega
    · rw [List.count_eq_zero_of_not_mem (l := l.filter _) (fun h => e (by rw [List.mem_filter, decide_eq_true_iff] at h; exact h.2))]
      by_cases h : 1 ≤ a ∧ a ≤ j
      · rw [if_pos h, if_pos (by omega)]; rfl
      · rw [if_neg h, if_neg (by omega)]
theorem upTo_perm {l : List Int} {j : Nat} (h : ∀ n ∈ l, 1 ≤ n ∧ n ≤ (j : Int)) : (upTo l j).Perm l := by
  rw [List.perm_iff_count]
  intro a
  rw [upTo_count]
  by_cases ha : a ∈ l
  · rw [if_pos (h a ha)]
  · rw [List.count_eq_zero_of_not_mem ha, ite_self]
theorem upTo_sort {l : List Int} {j : Nat} (h : ∀ n ∈ l, 1 ≤ n ∧ n ≤ (j : Int)) : upTo l j = l.mergeSort fun x y => decide (x ≤ y) := by
  have h1 := List.pairwise_mergeSort (le := fun (x y : Int) => decide (x ≤ y)) (fun a b c h1 h2 => by
      simp only [decide_eq_true_eq] at h1 h2 ⊢; omega) (fun a b => by
      simp only [Bool.or_eq_true, decide_eq_true_eq]; omega) l
  refine List.Perm.eq_of_pairwise (le := fun a b => a ≤ b) (fun a b _ _ e1 e2 => by omega) (upTo_up l j) (h1.imp (fun hab => of_decide_eq_true hab)) ?_
  exact (upTo_perm h).trans (List.mergeSort_perm l _).symm
theorem upTo_len (l : List Int) : ∀ j : Nat, (upTo l j).length ≤ j * l.length
  | 0 => Nat.zero_le _
  | j + 1 => by
    have := upTo_len l j
    have h2 := List.length_filter_le (fun n => decide (n = (j + 1 : Int))) l
    rw [upTo, List.length_append, Nat.add_mul]; omega
mutual
theorem sorted_l0 (l : List Int) (hl : l.length ≤ 1048576) : ∀ (m j : Nat), j + m = 6 → Ev (fun k => spec_plSorted.l0 k l (upTo l j) ((j + 1 : Nat) : Int)) (upTo l 6)
  | 0, j, h => by
    refine Ev.step (fun k => by rw [spec_plSorted.l0]) ?_
    refine Ev.neg (by omega) (Ev.val ?_)
    rw [show j = 6 by omega]
  | m + 1, j, h => by
    refine Ev.step (fun k => by rw [spec_plSorted.l0]) ?_
    refine Ev.pos (by omega) ?_
    have := sorted_l1 l hl m j h l.length 0 (by omega)
    simpa using this
theorem sorted_l1 (l : List Int) (hl : l.length ≤ 1048576) : ∀ (m j : Nat), j + (m + 1) = 6 → ∀ (d i : Nat), i + d = l.length → Ev (fun k => spec_plSorted.l1 k l (upTo l j ++ (l.take i).filter fun n => decide (n = (j + 1 : Int))) ((j + 1 : Nat) : Int) l (l.length : Int) (i : Int)) (upTo l 6)
  | m, j, h, 0, i, hi => by
    refine Ev.step (fun k => by rw [spec_plSorted.l1]) ?_
    refine Ev.neg (by omega) ?_
    rw [List.take_of_length_le (by omega), wrap_nat (by omega)]
    exact sorted_l0 l hl m (j + 1) (by omega)
  | m, j, h, d + 1, i, hi => by
    have hlt : i < l.length := by omega
    have ih := sorted_l1 l hl m j h d (i + 1) (by omega)
    rw [take_succ_get hlt, List.filter_append] at ih
    have z1 := upTo_len l j
    have z2 := List.length_filter_le (fun n => decide (n = (j + 1 : Int))) (l.take i)
    rw [List.length_take] at z2
    have z3 : j * l.length ≤ 6 * l.length := Nat.mul_le_mul_right _ (by omega)
    refine Ev.step (fun k => by rw [spec_plSorted.l1]) ?_
    refine Ev.pos (by omega) (Ev.pos (by omega) (Ev.pos (by omega) ?_))
    rw [rd_nat hlt, wrap_nat (by omega)]
    by_cases e : l[i] = ((j + 1 : Nat) : Int)
    · refine Ev.pos e (Ev.pos (by rw [List.length_append]; omega) ?_)
      have e2 : decide (l[i] = (j + 1 : Int)) = true := decide_eq_true (by omega)
      simp only [List.filter_cons, e2, List.filter_nil, if_true] at ih
      rw [List.append_assoc]
      exact ih
    · refine Ev.neg e ?_
      have e2 : decide (l[i] = (j + 1 : Int)) = false := decide_eq_false (by omega)
      simp only [List.filter_cons, e2, List.filter_nil, Bool.false_eq_true, if_false, List.append_nil] at ih
      exact ih
end
theorem plSorted_ev (l : List Int) (hl : l.length ≤ 1048576) : Ev (fun k => spec_plSorted.f k l) (upTo l 6) := sorted_l0 l hl 6 0 (by omega)
end Go.Proofs.YtnodkdjaemahcaaGreatDoor.PA

/-! Lengths of codes: the reference and the program ask for the same. No condition but bounds. -/
namespace Go.Proofs.YtnodkdjaemahcaaGreatDoor.PA
open Go.RowKit Go.Proofs.YtnodkdjaemahcaaGreatDoorW.PrintWords
set_option linter.unusedVariables false

def lenB (n : Int) : Bool := decide (1 ≤ n) && decide (n ≤ 6)
def lensB (l : List Int) : Bool := decide (1 ≤ (l.length : Int)) && decide ((l.length : Int) ≤ 20) && l.all lenB
theorem lens_l0 (l : List Int) (hl : l.length ≤ 1048576) : ∀ (d i : Nat), i + d = l.length → Ev (fun k => spec_l1All.l0 k 1 6 l (l.length : Int) (i : Int)) ((l.drop i).all lenB)
  | 0, i, h => by
    refine Ev.step (fun k => by rw [spec_l1All.l0]) ?_
    refine Ev.neg (by omega) (Ev.val ?_)
    rw [List.drop_of_length_le (by omega)]; rfl
  | d + 1, i, h => by
    have hi : i < l.length := by omega
    refine Ev.step (fun k => by rw [spec_l1All.l0]) ?_
    refine Ev.pos (by omega) (Ev.pos (by omega) (Ev.pos (by omega) ?_))
    rw [rd_nat hi, wrap_nat (by omega), List.drop_eq_getElem_cons hi, List.all_cons]
    refine Ev.vbind (l1In_f _ _ _) ?_
    have ih := lens_l0 l hl d (i + 1) (by omega)
    show Ev (fun k => if lenB l[i] = true then _ else _) _
    cases lenB l[i] with
    | true => exact Ev.pos rfl (by rw [Bool.true_and]; exact ih)
    | false => exact Ev.neg (by simp) (Ev.val rfl)
theorem plLengths_ev (l : List Int) (hl : l.length ≤ 1048576) : Ev (fun k => spec_plLengths.f k l) (lensB l) := by
  unfold spec_plLengths.f lensB
  refine Ev.vbind (l1In_f _ _ _) ?_
  cases decide (1 ≤ (l.length : Int)) && decide ((l.length : Int) ≤ 20) with
  | true =>
    have h := lens_l0 l hl l.length 0 (by omega)
    rw [List.drop_zero] at h
    exact Ev.pos rfl (Ev.bind (g := fun k => spec_l1All.f k l 1 6) h (Ev.val rfl))
  | false => exact Ev.neg (by simp) (Ev.val rfl)
theorem lengthsOk_f (l : List Int) (hl : l.length ≤ 1048576) : impl_lengthsOk.f l = some (lensB l) := by
  unfold impl_lengthsOk.f lensB
  rw [if_pos (by omega)]
  have hany : anyO (fun x => (impl_codeLong.f x).map (!·)) l = some (l.any (fun x => !lenB x)) := by
    refine anyO_pure _ _ l (fun x _ => ?_)
    unfold impl_codeLong.f
    rw [in_f]; rfl
  rw [hany]
  have e : l.any (fun x => !lenB x) = !l.all lenB := by
    induction l with
    | nil => rfl
    | cons a l ih => rw [List.any_cons, List.all_cons, ih (by simp at hl; omega) (anyO_pure _ _ l (fun x _ => by unfold impl_codeLong.f; rw [in_f]; rfl)), Bool.not_and]
  rw [e]
  by_cases h : 1 ≤ l.length ∧ l.length ≤ 20
  · rw [if_pos h]
    simp [show (1 : Int) ≤ (l.length : Int) by omega, show (l.length : Int) ≤ 20 by omega]
  · rw [if_neg h]
    by_cases h1 : 1 ≤ l.length
    · simp [show ¬ (l.length : Int) ≤ 20 by omega]
    · simp [show ¬ (1 : Int) ≤ (l.length : Int) by omega]
theorem lensB_facts {l : List Int} (h : lensB l = true) : 1 ≤ l.length ∧ l.length ≤ 20 ∧ ∀ n ∈ l, 1 ≤ n ∧ n ≤ 6 := by
  unfold lensB at h
  simp only [Bool.and_eq_true, List.all_eq_true, decide_eq_true_eq] at h
  refine ⟨by omega, by omega, fun n hn => ?_⟩
  have := h.2 n hn
  simpa [lenB] using this
end Go.Proofs.YtnodkdjaemahcaaGreatDoor.PA

/-! Powers of ten, as the reference reckons them. No condition but bounds. -/
namespace Go.Proofs.YtnodkdjaemahcaaGreatDoor.PA
open Go.RowKit Go.Proofs.YtnodkdjaemahcaaGreatDoorW.PrintWords
set_option linter.unusedVariables false

def p10 : Nat → Int
  | 0 => 1
  | n + 1 => p10 n * 10
theorem p10_le : ∀ n, n ≤ 12 → 1 ≤ p10 n ∧ p10 n ≤ 1000000000000 := by decide
theorem plTens_l0 : ∀ (d i : Nat), i + d ≤ 12 → Ev (fun k => spec_plTens.l0 k (d : Int) (p10 i)) (p10 (i + d))
  | 0, i, h => by
    refine Ev.step (fun k => by rw [spec_plTens.l0]) ?_
    exact Ev.neg (by omega) (Ev.val rfl)
  | d + 1, i, h => by
    have := p10_le i (by omega)
    refine Ev.step (fun k => by rw [spec_plTens.l0]) ?_
    refine Ev.pos (by omega) ?_
    rw [wrap_in (n := ((d + 1 : Nat) : Int) - 1) (by omega) (by omega), wrap_in (by omega) (by omega), show ((d + 1 : Nat) : Int) - 1 = (d : Int) by omega]
    have := plTens_l0 d (i + 1) (by omega)
    rwa [show i + 1 + d = i + (d + 1) by omega] at this
theorem plTens_ev (n : Nat) (h : n ≤ 12) : Ev (fun k => spec_plTens.f k (n : Int)) (p10 n) := by
  have := plTens_l0 n 0 (by omega)
  rw [Nat.zero_add] at this
  exact this
end Go.Proofs.YtnodkdjaemahcaaGreatDoor.PA

/-! Plans of lengths: the key. No condition but bounds. -/
namespace Go.Proofs.YtnodkdjaemahcaaGreatDoor.PA
open Go.RowKit Go.Proofs.YtnodkdjaemahcaaGreatDoorW.PrintWords
set_option linter.unusedVariables false

/-- how much of all texts codes of some lengths take -/
def partL (l : List Int) : Nat := (l.map fun n => 10 ^ (6 - n.toNat)).sum
theorem p10_eq : ∀ n, p10 n = ((10 ^ n : Nat) : Int)
  | 0 => rfl
  | n + 1 => by rw [p10, p10_eq n, Nat.pow_succ]; push_cast; rfl
theorem partL_perm {a b : List Int} (h : a.Perm b) : partL a = partL b := by
  induction h with
  | nil => rfl
  | cons x _ ih => unfold partL at ih ⊢; rw [List.map_cons, List.sum_cons, List.map_cons, List.sum_cons, ih]
  | swap x y l => unfold partL; simp only [List.map_cons, List.sum_cons]; omega
  | trans _ _ h1 h2 => rw [h1, h2]
theorem sum_most : ∀ {l : List Nat} {m : Nat}, (∀ x ∈ l, x ≤ m) → l.sum ≤ m * l.length
  | [], m, _ => by simp
  | a :: l, m, h => by
    have h1 := h a (by simp)
    have h2 := sum_most (l := l) (m := m) (fun x hx => h x (by simp [hx]))
    rw [List.sum_cons, List.length_cons, Nat.mul_add]
    omega
theorem can_l0' (l : List Int) (hl : l.length ≤ 20) (hs : ∀ n ∈ l, 1 ≤ n ∧ n ≤ 6) : ∀ (d i : Nat), i + d = l.length → Ev (fun k => spec_plCan.l0 k ((partL (l.take i) : Nat) : Int) l (l.length : Int) (i : Int)) (decide (partL l ≤ 1000000))
  | 0, i, h => by
    refine Ev.step (fun k => by rw [spec_plCan.l0]) ?_
    refine Ev.neg (by omega) (Ev.bind (plTens_ev 6 (by omega)) (Ev.val ?_))
    rw [List.take_of_length_le (by omega), p10_eq]
    congr 1
    rw [Bool.eq_iff_iff, decide_eq_true_iff, decide_eq_true_iff]
    omega
  | d + 1, i, h => by
    have hi : i < l.length := by omega
    have hy := hs _ (List.getElem_mem hi)
    have ih := can_l0' l hl hs d (i + 1) (by omega)
    have e : partL (l.take (i + 1)) = partL (l.take i) + 10 ^ (6 - l[i].toNat) := by
      unfold partL
      rw [take_succ_get hi, List.map_append, List.sum_append]; simp
    have hb : partL (l.take i) ≤ 1000000 * i := by
      have : ∀ x ∈ (l.take i).map (fun n => 10 ^ (6 - n.toNat)), x ≤ 1000000 := by
        intro x hx
        obtain ⟨n, _, rfl⟩ := List.mem_map.mp hx
        exact Nat.pow_le_pow_right (n := 10) (by omega) (show 6 - n.toNat ≤ 6 by omega)
      have h2 := sum_most this
      rw [List.length_map, List.length_take] at h2
      have h3 : 1000000 * min i l.length ≤ 1000000 * i := Nat.mul_le_mul_left _ (Nat.min_le_left _ _)
      unfold partL
      omega
    have hw : wrap64 (6 - l[i]) = ((6 - l[i].toNat : Nat) : Int) := by rw [wrap_in (by omega) (by omega)]; omega
    have hp : 10 ^ (6 - l[i].toNat) ≤ 1000000 := Nat.pow_le_pow_right (n := 10) (by omega) (show 6 - l[i].toNat ≤ 6 by omega)
    refine Ev.step (fun k => by rw [spec_plCan.l0]) ?_
    refine Ev.pos (by omega) (Ev.pos (by omega) (Ev.pos (by omega) ?_))
    rw [rd_nat hi, wrap_nat (by omega), hw]
    refine Ev.bind (plTens_ev _ (by omega)) ?_
    rw [p10_eq, wrap_in (by omega) (by omega)]
    rw [e] at ih
    push_cast at ih
    exact ih
theorem partL_take (l : List Int) (i : Nat) : partL (l.take i) ≤ partL l := by
  have e : partL l = partL (l.take i) + partL (l.drop i) := by
    unfold partL
    rw [← List.sum_append, ← List.map_append, List.take_append_drop]
  omega
theorem partL_next {l : List Int} {i : Nat} (hi : i < l.length) : partL (l.take (i + 1)) = partL (l.take i) + 10 ^ (6 - l[i].toNat) := by
  unfold partL
  rw [take_succ_get hi, List.map_append, List.sum_append]; simp
theorem plCan_ev (l : List Int) (hl : l.length ≤ 20) (hs : ∀ n ∈ l, 1 ≤ n ∧ n ≤ 6) : Ev (fun k => spec_plCan.f k l) (decide (partL l ≤ 1000000)) := by
  have := can_l0' l hl hs l.length 0 (by omega)
  unfold spec_plCan.f
  exact this
/-- a plan of codes that are taken is the plan of itself -/
theorem taken_plan {out : List ByteArray} {S n : Nat} (h : Taken out S n) (h1 : 1 ≤ out.length) (h20 : out.length ≤ 20) : planOf out = (out, true) := by
  have hc : codesB out = true := by
    unfold codesB
    simp only [Bool.and_eq_true, decide_eq_true_eq, List.all_eq_true]
    exact ⟨⟨by omega, by omega⟩, fun c hc => (h.code c hc).1⟩
  have hg := good_iff.mpr ⟨hc, h.up, h.apart⟩
  unfold planOf
  rw [putAll_up h.up, if_pos ⟨hc, rfl, hg⟩]
theorem div_room {S m : Nat} (hm : m ≤ 6) (hS : S < 1000000) (hd : 10 ^ (6 - m) ∣ S + 10 ^ (6 - m)) : S + 10 ^ (6 - m) ≤ 1000000 := by
  have h6 : 10 ^ m * 10 ^ (6 - m) = 1000000 := by rw [← Nat.pow_add, show m + (6 - m) = 6 by omega]
  obtain ⟨a, ha⟩ := hd
  have p1 : 0 < 10 ^ (6 - m) := Nat.pow_pos (by omega)
  rw [ha]
  by_cases c : a ≤ 10 ^ m
  · rw [← h6, Nat.mul_comm (10 ^ m)]; exact Nat.mul_le_mul_left _ c
  · exfalso
    have : 10 ^ (6 - m) * (10 ^ m + 1) ≤ 10 ^ (6 - m) * a := Nat.mul_le_mul_left _ (by omega)
    rw [Nat.mul_add, Nat.mul_one, Nat.mul_comm, h6] at this
    omega
theorem planLen_loops (q : List Int) (hl : q.length ≤ 20) (h0 : 1 ≤ q.length) (hs : ∀ n ∈ q, 1 ≤ n ∧ n ≤ 6) (hu : q.Pairwise (· ≤ ·)) :
    ∀ (d i : Nat) (out : List ByteArray) (S n : Nat), i + d = q.length → Taken out S n → out.length = i → S = partL (q.take i) → S ≤ 1000000 → (∀ x ∈ q.drop i, n ≤ x.toNat) →
      (partL q ≤ 1000000 → ∃ r : List ByteArray, r.length ≤ 20 ∧ Ev (fun k => spec_PlanOfLengths.l0 k out q (q.length : Int) (i : Int)) (r, true) ∧ Ev (fun k => impl_PlanOfLengths.l0 k out q (q.length : Int) (i : Int)) (r, true)) ∧
      (¬ partL q ≤ 1000000 → Ev (fun k => impl_PlanOfLengths.l0 k out q (q.length : Int) (i : Int)) ([], false))
  | 0, i, out, S, n, h, ht, ho, hS, hS6, hn => by
    rw [List.take_of_length_le (by omega)] at hS
    refine ⟨fun _ => ⟨out, by omega, ?_, ?_⟩, fun hf => absurd (hS ▸ hS6) hf⟩
    · refine Ev.step (fun k => by rw [spec_PlanOfLengths.l0]) ?_
      exact Ev.neg (by omega) (Ev.val rfl)
    · have hmk := makeI_ev out (by omega) (fun y hy => by have := code_size (ht.code y hy).1; omega)
      rw [taken_plan ht (by omega) (by omega)] at hmk
      refine Ev.step (fun k => by rw [impl_PlanOfLengths.l0]) ?_
      exact Ev.neg (by omega) (Ev.bind hmk (Ev.val rfl))
  | d + 1, i, out, S, n, h, ht, ho, hS, hS6, hn => by
    have hi : i < q.length := by omega
    have hy := hs _ (List.getElem_mem hi)
    have hnm := hn q[i] (by rw [List.drop_eq_getElem_cons hi]; exact List.mem_cons_self)
    have e := partL_next hi
    obtain ⟨m, hm⟩ : ∃ m : Nat, q[i].toNat = m := ⟨_, rfl⟩
    have hqi : q[i] = (m : Int) := by omega
    rw [hm] at hnm e
    have p1 : 0 < 10 ^ (6 - m) := Nat.pow_pos (by omega)
    have hle := partL_take q (i + 1)
    obtain ⟨s1, s2⟩ := taken_step (m := m) (by omega) ht hnm (by omega) (by omega)
    by_cases c : S < 1000000
    · obtain ⟨r, r1, r2, r3, r4, r5, r6⟩ := s1 c
      have hS2 := div_room (by omega) c r3.div
      obtain ⟨i1, i2⟩ := planLen_loops q hl h0 hs hu d (i + 1) (out ++ [r]) _ m (by omega) r3 (by simp [ho]) (by omega) hS2 (fun x hx => by
        obtain ⟨j, hj, rfl⟩ := List.mem_drop_iff_getElem.mp hx
        have := List.pairwise_iff_getElem.mp hu i (i + 1 + j) hi (by omega) (by omega)
        omega)
      have hput := wdPut_ev out r (by omega) ht.up
      rw [r4] at hput
      have himp : ∀ v, Ev (fun k => impl_PlanOfLengths.l0 k (out ++ [r]) q (q.length : Int) ((i + 1 : Nat) : Int)) v → Ev (fun k => impl_PlanOfLengths.l0 k out q (q.length : Int) (i : Int)) v := by
        intro v hv
        refine Ev.step (fun k => by rw [impl_PlanOfLengths.l0]) ?_
        refine Ev.pos (by omega) (Ev.pos (by omega) (Ev.pos (by omega) ?_))
        rw [rd_nat hi, wrap_nat (by omega), hqi]
        refine Ev.bind r2 ?_
        by_cases c0 : (out.length : Int) = 0
        · have hnil : out = [] := List.eq_nil_of_length_eq_zero (by omega)
          have hi0 : i = 0 := by omega
          have hz := r5 hnil (by rw [hS, hi0]; simp [partL])
          have hrep : strings_Repeat.f ⟨#[48]⟩ (m : Int) = some r := by
            unfold strings_Repeat.f
            rw [if_pos ⟨by omega, by omega, by decide⟩, Int.toNat_natCast, hz, ← repeat_zero]
            congr 1
          exact Ev.pos c0 (Ev.vbind hrep (Ev.pos (by omega) hv))
        · exact Ev.neg c0 (Ev.pos rfl (Ev.pos (by omega) hv))
      refine ⟨fun hp => ?_, fun hp => himp _ (i2 hp)⟩
      obtain ⟨o, o1, o2, o3⟩ := i1 hp
      refine ⟨o, o1, ?_, himp _ o3⟩
      refine Ev.step (fun k => by rw [spec_PlanOfLengths.l0]) ?_
      refine Ev.pos (by omega) (Ev.pos (by omega) (Ev.pos (by omega) ?_))
      rw [rd_nat hi, wrap_nat (by omega), hqi]
      exact Ev.bind r1 (Ev.bind hput o2)
    · have hi0 : i ≠ 0 := by
        intro hz
        subst hz
        simp [partL] at hS
        omega
      refine ⟨fun hp => absurd hp (by omega), fun _ => ?_⟩
      refine Ev.step (fun k => by rw [impl_PlanOfLengths.l0]) ?_
      refine Ev.pos (by omega) (Ev.pos (by omega) (Ev.pos (by omega) ?_))
      rw [rd_nat hi, wrap_nat (by omega), hqi]
      refine Ev.bind (s2 c) ?_
      exact Ev.neg (by omega) (Ev.neg (by simp) (Ev.val rfl))
theorem planOfLengths_key (l : List Int) (hl : l.length ≤ 1048576) :
    ∃ r : List ByteArray × Bool, Ev (fun k => spec_PlanOfLengths.f k l) r ∧ Ev (fun k => impl_PlanOfLengths.f k l) r ∧ r.1.length ≤ 20 := by
  have hg := plLengths_ev l hl
  have hi := lengthsOk_f l hl
  unfold spec_PlanOfLengths.f impl_PlanOfLengths.f
  have j0t : Ev (fun k => spec_PlanOfLengths.j0 k l true) ([], false) := by
    refine Ev.step (fun k => by rw [spec_PlanOfLengths.j0]) ?_
    exact Ev.pos rfl (Ev.val rfl)
  cases g : lensB l with
  | false =>
    rw [g] at hg hi
    exact ⟨([], false), Ev.bind hg (Ev.neg (by simp) j0t), Ev.vbind hi (Ev.neg (by simp) (Ev.val rfl)), by simp⟩
  | true =>
    rw [g] at hg hi
    obtain ⟨f1, f2, f3⟩ := lensB_facts g
    have hcan := plCan_ev l f2 f3
    have hsort := upTo_sort (j := 6) f3
    have hperm := upTo_perm (j := 6) f3
    have hz := hperm.length_eq
    have hq : ∀ n ∈ upTo l 6, 1 ≤ n ∧ n ≤ 6 := fun n hn => f3 n (hperm.mem_iff.mp hn)
    have hp := partL_perm hperm
    obtain ⟨s1, s2⟩ := planLen_loops (upTo l 6) (by omega) (by omega) hq (upTo_up l 6) (upTo l 6).length 0 [] 0 0 (by omega) (taken_nil 0) rfl (by simp [partL]) (by omega) (fun x hx => Nat.zero_le _)
    have hclone : slices_Clone_int_int.f l = some l := by unfold slices_Clone_int_int.f; rw [if_pos hl]
    have hso : slices_Sort_int_int.f l = some (upTo l 6) := by unfold slices_Sort_int_int.f; rw [if_pos hl, hsort]
    have hspec := plSorted_ev l hl
    by_cases c : partL l ≤ 1000000
    · obtain ⟨r, r1, r2, r3⟩ := s1 (by omega)
      rw [decide_eq_true c] at hcan
      refine ⟨(r, true), ?_, ?_, r1⟩
      · refine Ev.bind hg (Ev.pos rfl (Ev.bind hcan (Ev.step (fun k => by rw [spec_PlanOfLengths.j0]) ?_)))
        exact Ev.neg (by simp) (Ev.bind hspec r2)
      · exact Ev.vbind hi (Ev.pos rfl (Ev.vbind hclone (Ev.vbind hso r3)))
    · rw [decide_eq_false c] at hcan
      refine ⟨([], false), ?_, ?_, by simp⟩
      · exact Ev.bind hg (Ev.pos rfl (Ev.bind hcan j0t))
      · exact Ev.vbind hi (Ev.pos rfl (Ev.vbind hclone (Ev.vbind hso (s2 (by omega)))))
end Go.Proofs.YtnodkdjaemahcaaGreatDoor.PA

/-! The laws' marks: marking a row writes texts that the holder then finds. No condition but bounds. -/
namespace Go.Proofs.YtnodkdjaemahcaaGreatDoor.PA
open Go.RowKit Go.Proofs.YtnodkdjaemahcaaGreatDoorW.PrintWords
set_option linter.unusedVariables false

theorem num1_size (z : Int) : (strOfNums [z]).size = 1 := rfl
theorem markText_l0 : ∀ (f n : Nat) (x : ByteArray), n ≤ f → x.size + n ≤ 4611686018427387903 → ∃ t, Ev (fun k => laws_markText.l0 k (n : Int) x) t
  | f, 0, x, _, h => by
    refine ⟨(⟨#[109]⟩ : ByteArray) ++ x, ?_⟩
    refine Ev.step (fun k => by rw [laws_markText.l0]) ?_
    exact Ev.neg (by omega) (Ev.pos (by omega) (Ev.val rfl))
  | 0, n + 1, x, hf, _ => by omega
  | f + 1, n + 1, x, hf, h => by
    have hz : (strOfNums [wrap64 (48 + Int.tmod ((n + 1 : Nat) : Int) 10) % 256] ++ x).size = x.size + 1 := by rw [size_append, num1_size]; omega
    have hd : wrap64 (Int.tdiv ((n + 1 : Nat) : Int) 10) = (((n + 1) / 10 : Nat) : Int) := by
      rw [Int.tdiv_eq_ediv_of_nonneg (by omega), wrap_in (by omega) (by omega)]; omega
    obtain ⟨t, ht⟩ := markText_l0 f ((n + 1) / 10) (strOfNums [wrap64 (48 + Int.tmod ((n + 1 : Nat) : Int) 10) % 256] ++ x) (by omega) (by rw [hz]; omega)
    refine ⟨t, ?_⟩
    refine Ev.step (fun k => by rw [laws_markText.l0]) ?_
    refine Ev.pos (by omega) (Ev.vbind rfl (Ev.pos (by rw [num1_size]; omega) ?_))
    rw [hd]
    exact ht
theorem markText_ex (n : Nat) (hn : n ≤ 1099511627776) : ∃ t, Ev (fun k => laws_markText.f k (n : Int)) t := by
  unfold laws_markText.f
  by_cases h : (n : Int) ≤ 0
  · exact ⟨_, Ev.pos h (Ev.val rfl)⟩
  · obtain ⟨t, ht⟩ := markText_l0 n n ⟨#[]⟩ (Nat.le_refl _) (by show 0 + n ≤ _; omega)
    exact ⟨t, Ev.neg h ht⟩
open Classical in
noncomputable def markT (n : Nat) : ByteArray := if h : ∃ t, Ev (fun k => laws_markText.f k (n : Int)) t then h.choose else ⟨#[]⟩
theorem markT_ev (n : Nat) (hn : n ≤ 1099511627776) : Ev (fun k => laws_markText.f k (n : Int)) (markT n) := by
  have h := markText_ex n hn
  unfold markT
  rw [dif_pos h]
  exact h.choose_spec
/-- the marks of so many places -/
noncomputable def marksT (n m : Nat) : List ByteArray := (List.range m).map (fun j => markT (n + j))
theorem marksT_len (n m : Nat) : (marksT n m).length = m := by simp [marksT]
theorem mark_l0 (n m : Nat) (hn : n + m ≤ 1099511627776) : ∀ (d i : Nat) (x : List ByteArray), i + d = m → x.length = m → x.take i = (marksT n m).take i → Ev (fun k => laws_markStringS.l0 k x ((n + i : Nat) : Int) (i : Int)) (((n + m : Nat) : Int), marksT n m)
  | 0, i, x, h, hx, ht => by
    refine Ev.step (fun k => by rw [laws_markStringS.l0]) ?_
    refine Ev.neg (by omega) (Ev.val ?_)
    rw [List.take_of_length_le (by omega), List.take_of_length_le (by rw [marksT_len]; omega)] at ht
    rw [ht, show n + i = n + m by omega]
  | d + 1, i, x, h, hx, ht => by
    refine Ev.step (fun k => by rw [laws_markStringS.l0]) ?_
    refine Ev.pos (by omega) (Ev.bind (markT_ev (n + i) (by omega)) (Ev.pos (by omega) ?_))
    rw [wrap_nat (by omega), wrap_nat (by omega), Int.toNat_natCast]
    refine mark_l0 n m hn d (i + 1) _ (by omega) (by simpa using hx) ?_
    rw [take_succ_get (by simp; omega), take_succ_get (show i < (marksT n m).length by rw [marksT_len]; omega), List.take_set_of_le (Nat.le_refl _), ht]
    simp [marksT]
theorem markStringS_ev (l : List ByteArray) (n : Nat) (hn : n + l.length ≤ 1099511627776) : Ev (fun k => laws_markStringS.f k l (n : Int)) (((n + l.length : Nat) : Int), marksT n l.length) :=
  mark_l0 n l.length hn l.length 0 l (by omega) rfl (by simp)
theorem held_l0 (n m : Nat) (hn : n + m ≤ 1099511627776) : ∀ (d i : Nat), i + d = m → Ev (fun k => laws_heldStringS.l0 k (marksT n m) ((n + i : Nat) : Int) (i : Int)) ((n + m : Nat) : Int)
  | 0, i, h => by
    refine Ev.step (fun k => by rw [laws_heldStringS.l0]) ?_
    refine Ev.neg (by rw [marksT_len]; omega) (Ev.val ?_)
    rw [show n + i = n + m by omega]
  | d + 1, i, h => by
    refine Ev.step (fun k => by rw [laws_heldStringS.l0]) ?_
    refine Ev.pos (by rw [marksT_len]; omega) (Ev.pos (by omega) (Ev.bind (markT_ev (n + i) (by omega)) ?_))
    rw [rdS_nat (by rw [marksT_len]; omega), wrap_nat (by omega), wrap_nat (by omega)]
    refine Ev.pos (by simp [marksT]) ?_
    exact held_l0 n m hn d (i + 1) (by omega)
theorem heldStringS_ev (n m : Nat) (hn : n + m ≤ 1099511627776) : Ev (fun k => laws_heldStringS.f k (marksT n m) (n : Int)) ((n + m : Nat) : Int) :=
  held_l0 n m hn m 0 (by omega)
end Go.Proofs.YtnodkdjaemahcaaGreatDoor.PA

/-! The laws' marks on rows of numbers: marking a row writes numbers that the holder then finds. No condition but bounds. -/
namespace Go.Proofs.YtnodkdjaemahcaaGreatDoor.PA
open Go.RowKit Go.Proofs.YtnodkdjaemahcaaGreatDoorW.PrintWords
set_option linter.unusedVariables false

def marksI (n m : Nat) : List Int := (List.range m).map (fun j => ((n + j : Nat) : Int))
theorem marksI_len (n m : Nat) : (marksI n m).length = m := by simp [marksI]
theorem markI_l0 (n m : Nat) (hn : n + m ≤ 1099511627776) : ∀ (d i : Nat) (x : List Int), i + d = m → x.length = m → x.take i = (marksI n m).take i → Ev (fun k => laws_markIntS.l0 k x ((n + i : Nat) : Int) (i : Int)) (((n + m : Nat) : Int), marksI n m)
  | 0, i, x, h, hx, ht => by
    refine Ev.step (fun k => by rw [laws_markIntS.l0]) ?_
    refine Ev.neg (by omega) (Ev.val ?_)
    rw [List.take_of_length_le (by omega), List.take_of_length_le (by rw [marksI_len]; omega)] at ht
    rw [ht, show n + i = n + m by omega]
  | d + 1, i, x, h, hx, ht => by
    refine Ev.step (fun k => by rw [laws_markIntS.l0]) ?_
    refine Ev.pos (by omega) (Ev.pos (by omega) ?_)
    rw [wrap_nat (by omega), wrap_nat (by omega), Int.toNat_natCast]
    refine markI_l0 n m hn d (i + 1) _ (by omega) (by simpa using hx) ?_
    rw [take_succ_get (by simp; omega), take_succ_get (show i < (marksI n m).length by rw [marksI_len]; omega), List.take_set_of_le (Nat.le_refl _), ht]
    simp [marksI]
theorem markIntS_ev (l : List Int) (n : Nat) (hn : n + l.length ≤ 1099511627776) : Ev (fun k => laws_markIntS.f k l (n : Int)) (((n + l.length : Nat) : Int), marksI n l.length) :=
  markI_l0 n l.length hn l.length 0 l (by omega) rfl (by simp)
end Go.Proofs.YtnodkdjaemahcaaGreatDoor.PA

/-! The laws' equality over lists of whole numbers is equality. No condition but bounds. -/
namespace Go.Proofs.YtnodkdjaemahcaaGreatDoor.PA
open Go.RowKit Go.Proofs.YtnodkdjaemahcaaGreatDoorW.PrintWords
set_option linter.unusedVariables false

theorem eqIntS_l0 (a b : List Int) (hab : a.length = b.length) (hl : a.length ≤ 4611686018427387903) : ∀ (d i : Nat), i + d = a.length → a.take i = b.take i → Ev (fun k => laws_eqIntS.l0 k a b (i : Int)) (decide (a = b))
  | 0, i, h, ht => by
    refine Ev.step (fun k => by rw [laws_eqIntS.l0]) ?_
    refine Ev.neg (by omega) (Ev.val ?_)
    rw [List.take_of_length_le (by omega), List.take_of_length_le (by omega)] at ht
    simp [ht]
  | d + 1, i, h, ht => by
    refine Ev.step (fun k => by rw [laws_eqIntS.l0]) ?_
    refine Ev.pos (by omega) (Ev.pos (by omega) (Ev.pos (by omega) ?_))
    rw [rd_nat (show i < a.length by omega), rd_nat (show i < b.length by omega), wrap_nat (by omega)]
    refine Ev.ite (fun e => ?_) (fun e => Ev.val ?_)
    · refine eqIntS_l0 a b hab hl d (i + 1) (by omega) ?_
      rw [take_succ_get (by omega), take_succ_get (by omega), ht, e]
    · have : ¬ a = b := fun e2 => e (by subst e2; rfl)
      simp [this]
theorem eqIntS_ev {a b : List Int} (hl : a.length ≤ 4611686018427387903) : Ev (fun k => laws_eqIntS.f k a b) (decide (a = b)) := by
  unfold laws_eqIntS.f
  refine Ev.ite (fun e => ?_) (fun e => Ev.val ?_)
  · exact eqIntS_l0 a b (by omega) hl a.length 0 (by omega) (by simp)
  · have : ¬ a = b := fun e2 => e (by rw [e2])
    simp [this]
end Go.Proofs.YtnodkdjaemahcaaGreatDoor.PA

/-! The laws' own helpers over lists of whole numbers: copying keeps them. No condition but bounds. -/
namespace Go.Proofs.YtnodkdjaemahcaaGreatDoor.PA
open Go.RowKit Go.Proofs.YtnodkdjaemahcaaGreatDoorW.PrintWords
set_option linter.unusedVariables false

theorem toIntS_l0 (l : List Int) (hl : l.length ≤ 4611686018427387903) : ∀ (d i : Nat) (x : List Int), i + d = l.length → x.length = l.length → x.take i = l.take i → Ev (fun k => laws_toIntS.l0 k l x (i : Int)) l
  | 0, i, x, h, hx, ht => by
    refine Ev.step (fun k => by rw [laws_toIntS.l0]) ?_
    refine Ev.neg (by omega) (Ev.val ?_)
    rw [List.take_of_length_le (by omega), List.take_of_length_le (by omega)] at ht
    rw [ht]
  | d + 1, i, x, h, hx, ht => by
    refine Ev.step (fun k => by rw [laws_toIntS.l0]) ?_
    refine Ev.pos (by omega) (Ev.pos (by omega) (Ev.pos (by omega) ?_))
    rw [rd_nat (show i < l.length by omega), wrap_nat (by omega), Int.toNat_natCast]
    refine toIntS_l0 l hl d (i + 1) _ (by omega) (by simpa using hx) ?_
    rw [take_succ_get (by simp; omega), take_succ_get (show i < l.length by omega), List.take_set_of_le (Nat.le_refl _), ht]
    simp
theorem toIntS_ev {l : List Int} (hl : l.length ≤ 17592186044416) : Ev (fun k => laws_toIntS.f k l) l := by
  unfold laws_toIntS.f
  refine Ev.pos (by omega) (Ev.pos (by omega) ?_)
  exact toIntS_l0 l (by omega) l.length 0 _ (by omega) (by simp) (by simp)
end Go.Proofs.YtnodkdjaemahcaaGreatDoor.PA
