/- The plain facts that the law FnExactJoinCodes's proof leans on, in one text: each part has its own sentence. No condition but bounds. -/
import Derived.Test.YtphdlbdmdokfaaaDoorPAx0
import Derived.Test.YtphdlbdmdokfaaaDoorPAx1
import Derived.Test.YtphdlbdmdokfaaaDoorPAx2
import Derived.Test.YtphdlbdmdokfaaaDoorPAx3
import Derived.Test.YtphdlbdmdokfaaaDoorPAx4
import Derived.Test.YtphdlbdmdokfaaaDoorPAx5
import Derived.Test.YtphdlbdmdokfaaaDoorPAx6
import Derived.Test.YtphdlbdmdokfaaaDoorPAx7
import Derived.Test.YtphdlbdmdokfaaaDoorPAx8
import Derived.Test.YtphdlbdmdokfaaaDoorPAx13
import Derived.Test.YtphdlbdmdokfaaaDoorPAx15
import Derived.Test.YtphdlbdmdokfaaaDoorPAx16
import Derived.Lib.Strings
import Derived.Test.YtphdlbdmdokfaaaDoorWWords
import Derived.Test.YtphdlbdmdokfaaaDoorWMore
import Derived.Test.YtphdlbdmdokfaaaDoorXX
/-! Plain facts that the laws' pure proofs share: answers from some number of rounds on, numbers without wrap, strings as lists of bytes. No condition. -/
namespace Go.Proofs.YtphdlbdmdokfaaaDoor.PA
open Go.RowKit Go.Proofs.YtphdlbdmdokfaaaDoorW.PrintWords
set_option linter.unusedVariables false

theorem Ev.pos {α : Type} {c : Prop} [Decidable c] {a b : Nat → Option α} {r : α} (hc : c) (h : Ev a r) : Ev (fun k => if c then a k else b k) r := Ev.congr (fun k => if_pos hc) h
theorem Ev.neg {α : Type} {c : Prop} [Decidable c] {a b : Nat → Option α} {r : α} (hc : ¬ c) (h : Ev b r) : Ev (fun k => if c then a k else b k) r := Ev.congr (fun k => if_neg hc) h
theorem Ev.ite {α : Type} {c : Prop} [Decidable c] {a b : Nat → Option α} {r : α} (h1 : c → Ev a r) (h2 : ¬ c → Ev b r) : Ev (fun k => if c then a k else b k) r := by
  by_cases hc : c
  · exact Ev.pos hc (h1 hc)
  · exact Ev.neg hc (h2 hc)
theorem Ev.val {α : Type} {o : Option α} {r : α} (h : o = some r) : Ev (fun _ => o) r := ⟨0, fun _ _ => h⟩
theorem Ev.vbind {α β : Type} {o : Option α} {f : Nat → α → Option β} {a : α} {r : β} (h : o = some a) (k : Ev (fun n => f n a) r) : Ev (fun n => o.bind (f n)) r := Ev.bind (g := fun _ => o) (Ev.val h) k
theorem Ev.unique {α : Type} {g : Nat → Option α} {a b : α} (h : Ev g a) (k : Ev g b) : a = b := by
  obtain ⟨K, h⟩ := h
  obtain ⟨K', k⟩ := k
  exact Option.some.inj ((h (max K K') (Nat.le_max_left _ _)).symm.trans (k (max K K') (Nat.le_max_right _ _)))
theorem Ev.eq {α : Type} {g : Nat → Option α} {a b : α} (h : Ev g a) (e : a = b) : Ev g b := e ▸ h

theorem wrap_nat {i : Nat} (h : i < 4611686018427387904) : wrap64 ((i : Int) + 1) = ((i + 1 : Nat) : Int) := by unfold wrap64; omega
theorem wrap_in {n : Int} (h : -9223372036854775808 ≤ n) (h2 : n ≤ 9223372036854775807) : wrap64 n = n := by unfold wrap64; omega
theorem rd_nat {l : List Int} {i : Nat} (h : i < l.length) : rd l (i : Int) = l[i] := by simp [rd, h]
theorem rdS_nat {l : List ByteArray} {i : Nat} (h : i < l.length) : rdOf ByteArray.empty l (i : Int) = l[i] := by simp [rdOf, h]
theorem bt_nat {s : ByteArray} {i : Nat} (h : i < s.size) : bt s (i : Int) = ((s.data.toList[i]'(by simpa using h)).toNat : Int) := by
  unfold bt
  rw [dif_pos (by simpa using h)]
  rfl
theorem toList_data (s : ByteArray) : s.toList = s.data.toList := Go.Lib.toList_data s
theorem size_data (s : ByteArray) : s.size = s.data.toList.length := rfl
theorem ba_ext {a b : ByteArray} (h : a.data.toList = b.data.toList) : a = b := by
  cases a with
  | mk a => cases b with
    | mk b => exact congrArg ByteArray.mk (Array.toList_inj.mp h)
theorem toList_inj {a b : ByteArray} : a.toList = b.toList ↔ a = b := ⟨fun h => ba_ext (by rw [← toList_data, ← toList_data, h]), fun h => by rw [h]⟩
theorem toList_mk (l : List UInt8) : (⟨l.toArray⟩ : ByteArray).toList = l := by rw [toList_data]
theorem data_extract (s : ByteArray) (a b : Nat) : (s.extract a b).data.toList = (s.data.toList.take b).drop a := by
  rw [ByteArray.data_extract, Array.toList_extract, List.extract_eq_take_drop, List.drop_take]
theorem data_append (a b : ByteArray) : (a ++ b).data.toList = a.data.toList ++ b.data.toList := by
  rw [ByteArray.data_append, Array.toList_append]
theorem size_append (a b : ByteArray) : (a ++ b).size = a.size + b.size := by rw [size_data, data_append, List.length_append]; rfl
theorem take_succ_get {α : Type} {l : List α} {i : Nat} (h : i < l.length) : l.take (i + 1) = l.take i ++ [l[i]] := by
  rw [List.take_add_one, List.getElem?_eq_getElem h]; rfl

/-- digits alone -/
def digB (c : UInt8) : Bool := decide (48 ≤ c.toNat) && decide (c.toNat ≤ 57)
def digitsB (s : ByteArray) (lo hi : Int) : Bool := decide (lo ≤ (s.size : Int)) && decide ((s.size : Int) ≤ hi) && s.data.toList.all digB
theorem contains_dig (c : UInt8) : ([48, 49, 50, 51, 52, 53, 54, 55, 56, 57] : List UInt8).contains c = digB c := by
  have h : ∀ n : Fin 256, ([48, 49, 50, 51, 52, 53, 54, 55, 56, 57] : List UInt8).contains (UInt8.ofNat n.val) = digB (UInt8.ofNat n.val) := by decide +kernel
  have := h ⟨c.toNat, c.toNat_lt⟩
  simpa using this
end Go.Proofs.YtphdlbdmdokfaaaDoor.PA

/-! Is a number within bounds: the reference's and the program's own. No condition. -/
namespace Go.Proofs.YtphdlbdmdokfaaaDoor.PA
open Go.RowKit Go.Proofs.YtphdlbdmdokfaaaDoorW.PrintWords
set_option linter.unusedVariables false

theorem l1In_f (a b c : Int) : spec_l1In.f a b c = some (decide (b ≤ a) && decide (a ≤ c)) := by
  unfold spec_l1In.f
  by_cases h : a ≥ b
  · rw [if_pos h]; simp [show b ≤ a from h]
  · rw [if_neg h]; simp [show ¬ b ≤ a from h]
theorem in_f (a b c : Int) : impl_in.f a b c = some (decide (b ≤ a) && decide (a ≤ c)) := by
  unfold impl_in.f
  by_cases h : a ≥ b
  · rw [if_pos h]; simp [show b ≤ a from h]
  · rw [if_neg h]; simp [show ¬ b ≤ a from h]
end Go.Proofs.YtphdlbdmdokfaaaDoor.PA

/-! Texts of digits, as the program asks for them. No condition but bounds of size. -/
namespace Go.Proofs.YtphdlbdmdokfaaaDoor.PA
open Go.RowKit Go.Proofs.YtphdlbdmdokfaaaDoorW.PrintWords
set_option linter.unusedVariables false

theorem over_digits (s : ByteArray) (hs : s.size ≤ 140737488355328) : impl_over.f s (⟨#[48, 49, 50, 51, 52, 53, 54, 55, 56, 57]⟩ : ByteArray) = some (s.data.toList.all digB) := by
  unfold impl_over.f
  rw [if_pos ⟨hs, by decide, by decide⟩]
  congr 1
  exact congrArg (fun f => s.data.toList.all f) (funext contains_dig)
theorem isDigits_f (s : ByteArray) (lo hi : Int) (hs : s.size ≤ 140737488355328) : impl_isDigits.f s lo hi = some (digitsB s lo hi) := by
  unfold impl_isDigits.f digitsB
  rw [in_f, Option.bind_some]
  cases decide (lo ≤ (s.size : Int)) && decide ((s.size : Int) ≤ hi) with
  | true => rw [if_pos rfl, over_digits s hs]; simp
  | false => rw [if_neg (by simp)]; simp
end Go.Proofs.YtphdlbdmdokfaaaDoor.PA

/-! Texts of digits, as the reference and the program ask for them: one Bool for both. No condition but bounds of size. -/
namespace Go.Proofs.YtphdlbdmdokfaaaDoor.PA
open Go.RowKit Go.Proofs.YtphdlbdmdokfaaaDoorW.PrintWords
set_option linter.unusedVariables false

theorem piDigits_l0 (s : ByteArray) (hs : s.size ≤ 4611686018427387903) : ∀ (d i : Nat), i + d = s.size → Ev (fun k => spec_piDigits.l0 k s (i : Int)) ((s.data.toList.drop i).all digB)
  | 0, i, h => by
    refine Ev.step (fun k => rfl) (Ev.neg (by omega) (Ev.val ?_))
    rw [List.drop_of_length_le (by rw [← size_data]; omega)]; rfl
  | d + 1, i, h => by
    have hi : i < s.data.toList.length := by rw [← size_data]; omega
    refine Ev.step (fun k => rfl) (Ev.pos (by omega) (Ev.pos (by omega) ?_))
    rw [bt_nat (by omega), List.drop_eq_getElem_cons hi, List.all_cons, wrap_nat (by omega)]
    unfold digB
    refine Ev.ite (fun e => Ev.val ?_) (fun e => Ev.ite (fun e2 => Ev.val ?_) (fun e2 => ?_))
    · simp only [show ¬ 48 ≤ (s.data.toList[i]).toNat by omega, decide_false, Bool.false_and]
    · simp only [show ¬ (s.data.toList[i]).toNat ≤ 57 by omega, decide_false, Bool.and_false, Bool.false_and]
    · simp only [show 48 ≤ (s.data.toList[i]).toNat by omega, show (s.data.toList[i]).toNat ≤ 57 by omega, decide_true, Bool.true_and]
      exact piDigits_l0 s hs d (i + 1) (by omega)
theorem piDigits_ev (s : ByteArray) (lo hi : Int) (hs : s.size ≤ 4611686018427387903) : Ev (fun k => spec_piDigits.f k s lo hi) (digitsB s lo hi) := by
  unfold spec_piDigits.f digitsB
  refine Ev.vbind (l1In_f _ _ _) ?_
  cases decide (lo ≤ (s.size : Int)) && decide ((s.size : Int) ≤ hi) with
  | true => exact Ev.pos rfl (by simpa using piDigits_l0 s hs s.size 0 (by omega))
  | false => exact Ev.neg (by simp) (Ev.val (by simp))
end Go.Proofs.YtphdlbdmdokfaaaDoor.PA

/-! The laws' own helpers over lists of texts: copying keeps them, sizes are counted, equality is equality. No condition but bounds. -/
namespace Go.Proofs.YtphdlbdmdokfaaaDoor.PA
open Go.RowKit Go.Proofs.YtphdlbdmdokfaaaDoorW.PrintWords
set_option linter.unusedVariables false

theorem toStringS_l0 (l : List ByteArray) (hl : l.length ≤ 4611686018427387903) : ∀ (d i : Nat) (x : List ByteArray), i + d = l.length → x.length = l.length → x.take i = l.take i → Ev (fun k => laws_toStringS.l0 k l x (i : Int)) l
  | 0, i, x, h, hx, ht => by
    refine Ev.step (fun k => rfl) ?_
    refine Ev.neg (by omega) (Ev.val ?_)
    rw [List.take_of_length_le (by omega), List.take_of_length_le (by omega)] at ht
    rw [ht]
  | d + 1, i, x, h, hx, ht => by
    refine Ev.step (fun k => rfl) ?_
    refine Ev.pos (by omega) (Ev.pos (by omega) (Ev.pos (by omega) ?_))
    rw [rdS_nat (show i < l.length by omega), wrap_nat (by omega), Int.toNat_natCast]
    refine toStringS_l0 l hl d (i + 1) _ (by omega) (by simpa using hx) ?_
    rw [take_succ_get (by simp; omega), take_succ_get (show i < l.length by omega), List.take_set_of_le (Nat.le_refl _), ht]
    simp
theorem toStringS_ev {l : List ByteArray} (hl : l.length ≤ 17592186044416) : Ev (fun k => laws_toStringS.f k l) l := by
  unfold laws_toStringS.f
  refine Ev.pos (by omega) (Ev.pos (by omega) ?_)
  exact toStringS_l0 l (by omega) l.length 0 _ (by omega) (by simp) (by simp)

theorem eqStringS_l0 (a b : List ByteArray) (hab : a.length = b.length) (hl : a.length ≤ 4611686018427387903) : ∀ (d i : Nat), i + d = a.length → a.take i = b.take i → Ev (fun k => laws_eqStringS.l0 k a b (i : Int)) (decide (a = b))
  | 0, i, h, ht => by
    refine Ev.step (fun k => rfl) ?_
    refine Ev.neg (by omega) (Ev.val ?_)
    rw [List.take_of_length_le (by omega), List.take_of_length_le (by omega)] at ht
    simp [ht]
  | d + 1, i, h, ht => by
    refine Ev.step (fun k => rfl) ?_
    refine Ev.pos (by omega) (Ev.pos (by omega) (Ev.pos (by omega) ?_))
    rw [rdS_nat (show i < a.length by omega), rdS_nat (show i < b.length by omega), wrap_nat (by omega)]
    refine Ev.ite (fun e => ?_) (fun e => Ev.val ?_)
    · refine eqStringS_l0 a b hab hl d (i + 1) (by omega) ?_
      rw [take_succ_get (by omega), take_succ_get (by omega), ht, toList_inj.mp e]
    · have : ¬ a = b := fun e2 => e (by subst e2; rfl)
      simp [this]
theorem eqStringS_ev {a b : List ByteArray} (hl : a.length ≤ 4611686018427387903) : Ev (fun k => laws_eqStringS.f k a b) (decide (a = b)) := by
  unfold laws_eqStringS.f
  refine Ev.ite (fun e => ?_) (fun e => Ev.val ?_)
  · exact eqStringS_l0 a b (by omega) hl a.length 0 (by omega) (by simp)
  · have : ¬ a = b := fun e2 => e (by rw [e2])
    simp [this]

theorem szStringS_l0 (l : List ByteArray) (hl : l.length ≤ 1048576) (hs : ∀ y ∈ l, y.size ≤ maxLen) : ∀ (d i : Nat) (x : Int), i + d = l.length → 0 ≤ x → x ≤ 1048576 → (∀ y ∈ l.take i, y.size ≤ 1048576) →
    ∃ v, Ev (fun k => laws_szStringS.l0 k l x (i : Int)) v ∧ (v < 0 ∨ ∀ y ∈ l, y.size ≤ 1048576)
  | 0, i, x, h, h0, hx, ht => by
    refine ⟨x, Ev.step (fun k => rfl) (Ev.neg (by omega) (Ev.val rfl)), .inr ?_⟩
    rwa [List.take_of_length_le (by omega)] at ht
  | d + 1, i, x, h, h0, hx, ht => by
    have hi : i < l.length := by omega
    have hm := hs l[i] (List.getElem_mem hi)
    unfold maxLen at hm
    by_cases e : wrap64 (x - (l[i].size : Int)) < 0
    · refine ⟨-1, Ev.step (fun k => rfl) (Ev.pos (by omega) (Ev.pos (by omega) ?_)), .inl (by omega)⟩
      rw [rdS_nat hi]
      exact Ev.pos e (Ev.val rfl)
    · have hw : wrap64 (x - (l[i].size : Int)) = x - (l[i].size : Int) := wrap_in (by omega) (by omega)
      obtain ⟨v, hv, hp⟩ := szStringS_l0 l hl hs d (i + 1) (x - (l[i].size : Int)) (by omega) (by omega) (by omega) (by
        rw [take_succ_get hi]
        intro y hy
        rcases List.mem_append.mp hy with hy | hy
        · exact ht y hy
        · rw [List.mem_singleton.mp hy]; omega)
      refine ⟨v, Ev.step (fun k => rfl) (Ev.pos (by omega) (Ev.pos (by omega) ?_)), hp⟩
      rw [rdS_nat hi, wrap_nat (by omega)]
      refine Ev.neg e ?_
      rw [hw]
      exact hv
theorem szStringS_ev {l : List ByteArray} (hl : l.length ≤ maxLen) (hs : ∀ y ∈ l, y.size ≤ maxLen) : ∃ v, Ev (fun k => laws_szStringS.f k l 1048576) v ∧ (v < 0 ∨ (l.length ≤ 1048576 ∧ ∀ y ∈ l, y.size ≤ 1048576)) := by
  unfold maxLen at hl
  by_cases e : wrap64 (1048576 - (l.length : Int)) < 0
  · exact ⟨-1, by unfold laws_szStringS.f; exact Ev.pos e (Ev.val rfl), .inl (by omega)⟩
  · have hw : wrap64 (1048576 - (l.length : Int)) = 1048576 - (l.length : Int) := wrap_in (by omega) (by omega)
    rw [hw] at e
    obtain ⟨v, hv, hp⟩ := szStringS_l0 l (by omega) hs l.length 0 (1048576 - (l.length : Int)) (by omega) (by omega) (by omega) (by simp)
    refine ⟨v, ?_, hp.imp id (fun h => ⟨by omega, h⟩)⟩
    unfold laws_szStringS.f
    rw [hw]
    exact Ev.neg e hv
end Go.Proofs.YtphdlbdmdokfaaaDoor.PA

/-! Plans: the reference and the program ask for the same. No condition but bounds of size. -/
namespace Go.Proofs.YtphdlbdmdokfaaaDoor.PA
open Go.RowKit Go.Proofs.YtphdlbdmdokfaaaDoorW.PrintWords
set_option linter.unusedVariables false

def codeB (s : ByteArray) : Bool := digitsB s 1 6
theorem plCode_ev (s : ByteArray) (hs : s.size ≤ 4611686018427387903) : Ev (fun k => spec_plCode.f k s) (codeB s) := by
  unfold spec_plCode.f
  exact Ev.bind (piDigits_ev s 1 6 hs) (Ev.val rfl)
theorem isCode_f (s : ByteArray) (hs : s.size ≤ 140737488355328) : impl_isCode.f s = some (codeB s) := by
  unfold impl_isCode.f
  rw [isDigits_f s 1 6 hs]; rfl

/-- does a code begin a text -/
def begB (c t : ByteArray) : Bool := c.data.toList.isPrefixOf t.data.toList
theorem prefix_take (c t : List UInt8) : (decide (c.length ≤ t.length) && (t.take c.length == c)) = c.isPrefixOf t := by
  induction c generalizing t with
  | nil => simp
  | cons a c ih =>
    cases t with
    | nil => simp
    | cons b t =>
      simp only [List.length_cons, List.take_succ_cons, List.isPrefixOf_cons_cons, ← ih t]
      have hs : (b == a) = (a == b) := Bool.beq_comm
      by_cases h : c.length ≤ t.length <;> simp [h, hs]
theorem plBegins_f (c t : ByteArray) : spec_plBegins.f c t = some (begB c t) := by
  unfold spec_plBegins.f begB
  rw [← prefix_take]
  by_cases h : (c.size : Int) ≤ (t.size : Int)
  · rw [if_pos h, if_pos (by omega), Int.toNat_natCast, toList_data, toList_data, data_extract, List.drop_zero, ← size_data, ← size_data]
    simp [show c.size ≤ t.size by omega]
  · rw [if_neg h, ← size_data, ← size_data]
    simp [show ¬ c.size ≤ t.size by omega]
theorem hasPrefix_f (t c : ByteArray) : strings_HasPrefix.f t c = some (begB c t) := by
  unfold strings_HasPrefix.f stringslite_HasPrefix.f begB
  rw [← prefix_take]
  by_cases h : (t.size : Int) ≥ (c.size : Int)
  · rw [if_pos h, if_pos (by omega), if_pos (by omega), Int.toNat_natCast, toList_data, toList_data, data_extract, List.drop_zero, ← size_data, ← size_data]
    simp [show c.size ≤ t.size by omega]
  · rw [if_neg h, ← size_data, ← size_data]
    simp [show ¬ c.size ≤ t.size by omega]
theorem begins_f (c t : ByteArray) : impl_begins.f c t = some (begB c t) := by
  unfold impl_begins.f
  rw [hasPrefix_f]; rfl

def lessB (a b : ByteArray) : Bool := Op.bytesLess a.toList b.toList
def stepB (a b : ByteArray) : Bool := lessB a b && !begB a b
def chainB : List ByteArray → Bool
  | a :: b :: r => stepB a b && chainB (b :: r)
  | _ => true
/-- a plan -/
def goodB (l : List ByteArray) : Bool := decide (1 ≤ (l.length : Int)) && decide ((l.length : Int) ≤ 20) && l.all codeB && chainB l

section
variable (l : List ByteArray) (hl : l.length ≤ 1048576) (hs : ∀ y ∈ l, y.size ≤ 1048576)
include hl hs
theorem plCodes_l0 : ∀ (d i : Nat), i + d = l.length → Ev (fun k => spec_plCodes.l0 k l (l.length : Int) (i : Int)) ((l.drop i).all codeB)
  | 0, i, h => by
    refine Ev.step (fun k => rfl) (Ev.neg (by omega) (Ev.val ?_))
    rw [List.drop_of_length_le (by omega)]; rfl
  | d + 1, i, h => by
    have hi : i < l.length := by omega
    have hy := hs l[i] (List.getElem_mem hi)
    refine Ev.step (fun k => rfl) (Ev.pos (by omega) (Ev.pos (by omega) (Ev.pos (by omega) ?_)))
    rw [rdS_nat hi, wrap_nat (by omega), List.drop_eq_getElem_cons hi, List.all_cons]
    refine Ev.bind (plCode_ev _ (by omega)) ?_
    cases codeB l[i] with
    | true => exact Ev.pos rfl (by simpa using plCodes_l0 d (i + 1) (by omega))
    | false => exact Ev.neg (by simp) (Ev.val (by simp))
theorem plCodes_ev : Ev (fun k => spec_plCodes.f k l) (decide (1 ≤ (l.length : Int)) && decide ((l.length : Int) ≤ 20) && l.all codeB) := by
  unfold spec_plCodes.f
  refine Ev.vbind (l1In_f _ _ _) ?_
  cases decide (1 ≤ (l.length : Int)) && decide ((l.length : Int) ≤ 20) with
  | true => exact Ev.pos rfl (by simpa using plCodes_l0 l hl hs l.length 0 (by omega))
  | false => exact Ev.neg (by simp) (Ev.val (by simp))
omit hs in
theorem plGood_l0 : ∀ (d i : Nat), i + d = l.length → 1 ≤ i → Ev (fun k => spec_plGood.l0 k l (i : Int)) (chainB (l.drop (i - 1)))
  | 0, i, h, h1 => by
    refine Ev.step (fun k => rfl) (Ev.neg (by omega) (Ev.val ?_))
    rcases Nat.lt_or_ge (i - 1) l.length with hlt | hge
    · rw [List.drop_eq_getElem_cons hlt, List.drop_of_length_le (by omega)]; rfl
    · rw [List.drop_of_length_le hge]; rfl
  | d + 1, i, h, h1 => by
    have hi : i < l.length := by omega
    have hj : wrap64 ((i : Int) - 1) = ((i - 1 : Nat) : Int) := by rw [wrap_in (by omega) (by omega)]; omega
    refine Ev.step (fun k => rfl) (Ev.pos (by omega) ?_)
    rw [hj]
    refine Ev.pos (by omega) (Ev.pos (by omega) (Ev.pos (by omega) ?_))
    rw [rdS_nat hi, rdS_nat (show i - 1 < l.length by omega), wrap_nat (by omega)]
    rw [List.drop_eq_getElem_cons (show i - 1 < l.length by omega), show i - 1 + 1 = i by omega, List.drop_eq_getElem_cons hi]
    show Ev _ (stepB l[i - 1] l[i] && chainB (l[i] :: l.drop (i + 1)))
    unfold stepB lessB
    refine Ev.ite (fun e => ?_) (fun e => Ev.val ?_)
    · rw [e, Bool.true_and]
      refine Ev.vbind (plBegins_f _ _) ?_
      cases begB l[i - 1] l[i] with
      | true => exact Ev.pos rfl (Ev.val rfl)
      | false =>
        refine Ev.neg (by simp) ?_
        have := plGood_l0 d (i + 1) (by omega) (by omega)
        rw [show i + 1 - 1 = i by omega, List.drop_eq_getElem_cons hi] at this
        simpa using this
    · simp [show Op.bytesLess l[i - 1].toList l[i].toList = false by simpa using e]
theorem plGood_ev : Ev (fun k => spec_plGood.f k l) (goodB l) := by
  unfold spec_plGood.f goodB
  refine Ev.bind (plCodes_ev l hl hs) ?_
  cases hc : decide (1 ≤ (l.length : Int)) && decide ((l.length : Int) ≤ 20) && l.all codeB with
  | true =>
    have h1 : 1 ≤ l.length := by
      cases h : decide (1 ≤ (l.length : Int)) with
      | true => have := of_decide_eq_true h; omega
      | false => rw [h] at hc; simp at hc
    exact Ev.pos rfl (by simpa using plGood_l0 l hl (l.length - 1) 1 (by omega) (by omega))
  | false => exact Ev.neg (by simp) (Ev.val (by simp))
end
section
variable (l : List ByteArray) (hl : l.length ≤ 1048577) (hs : ∀ y ∈ l, y.size ≤ 1048576)
include hl hs
theorem isCodePlan_l0 : ∀ (d i : Nat), i + d = l.length → Ev (fun k => impl_IsCodePlan.l0 k l l (l.length : Int) (i : Int)) ((l.drop i).all codeB && chainB (l.drop (i - 1)) && (decide (1 ≤ (l.length : Int)) && decide ((l.length : Int) ≤ 20)))
  | 0, i, h => by
    refine Ev.step (fun k => rfl) (Ev.neg (by omega) (Ev.val ?_))
    rw [in_f, Option.bind_some, List.drop_of_length_le (l := l) (i := i) (by omega)]
    congr 1
    rcases Nat.lt_or_ge (i - 1) l.length with hlt | hge
    · rw [List.drop_eq_getElem_cons hlt, List.drop_of_length_le (by omega)]; simp [chainB]
    · rw [List.drop_of_length_le hge]; simp [chainB]
  | d + 1, i, h => by
    have hi : i < l.length := by omega
    have hy := hs l[i] (List.getElem_mem hi)
    refine Ev.step (fun k => rfl) (Ev.pos (by omega) (Ev.pos (by omega) (Ev.pos (by omega) ?_)))
    have ih := isCodePlan_l0 d (i + 1) (by omega)
    rw [show i + 1 - 1 = i by omega] at ih
    rw [rdS_nat hi, wrap_nat (by omega)]
    refine Ev.vbind (isCode_f _ (by omega)) ?_
    rw [show (l.drop i).all codeB = (codeB l[i] && (l.drop (i + 1)).all codeB) by rw [List.drop_eq_getElem_cons hi, List.all_cons]]
    cases codeB l[i] with
    | false => exact Ev.neg (by simp) (Ev.val (by simp))
    | true =>
      refine Ev.pos rfl ?_
      rw [Bool.true_and]
      refine Ev.ite (fun e => ?_) (fun e => ?_)
      · have hj : wrap64 ((i : Int) - 1) = ((i - 1 : Nat) : Int) := by rw [wrap_in (by omega) (by omega)]; omega
        rw [hj]
        refine Ev.pos (by omega) (Ev.pos (by omega) ?_)
        rw [rdS_nat (show i - 1 < l.length by omega)]
        rw [show chainB (l.drop (i - 1)) = (stepB l[i - 1] l[i] && chainB (l.drop i)) by
          rw [List.drop_eq_getElem_cons (show i - 1 < l.length by omega), show i - 1 + 1 = i by omega, List.drop_eq_getElem_cons hi]; rfl]
        unfold stepB lessB
        refine Ev.ite (fun e => ?_) (fun e => Ev.val ?_)
        · rw [e, Bool.true_and]
          refine Ev.vbind (begins_f _ _) ?_
          cases begB l[i - 1] l[i] with
          | true => exact Ev.pos rfl (Ev.val (by simp))
          | false => exact Ev.neg (by simp) (by simpa using ih)
        · simp [show Op.bytesLess l[i - 1].toList l[i].toList = false by simpa using e]
      · have : i = 0 := by omega
        subst this
        simpa using ih
theorem isCodePlan_ev2 : Ev (fun k => impl_IsCodePlan.f k l) (goodB l) := by
  unfold impl_IsCodePlan.f
  refine Ev.eq (isCodePlan_l0 l hl hs l.length 0 (by omega)) ?_
  unfold goodB
  simp only [List.drop_zero, Nat.zero_sub]
  cases l.all codeB <;> cases chainB l <;> simp
end
theorem isCodePlan_ev (l : List ByteArray) (hl : l.length ≤ 1048576) (hs : ∀ y ∈ l, y.size ≤ 1048576) : Ev (fun k => impl_IsCodePlan.f k l) (goodB l) := isCodePlan_ev2 l (by omega) hs
end Go.Proofs.YtphdlbdmdokfaaaDoor.PA

/-! The order of texts: by bytes; no condition. -/
namespace Go.Proofs.YtphdlbdmdokfaaaDoor.PA
open Go.RowKit Go.Proofs.YtphdlbdmdokfaaaDoorW.PrintWords
set_option linter.unusedVariables false

theorem bytesLess_lt : ∀ (x y : List UInt8), Op.bytesLess x y = decide (x < y)
  | [], [] => by simp [Op.bytesLess]
  | _ :: _, [] => by simp [Op.bytesLess]
  | [], _ :: _ => by simp [Op.bytesLess]
  | a :: x, b :: y => by
    rw [Op.bytesLess, bytesLess_lt x y]
    simp only [List.cons_lt_cons_iff]
    by_cases h1 : a < b <;> by_cases h2 : a = b <;> by_cases h3 : x < y <;> simp [h1, h2, h3]
def ltB (a b : ByteArray) : Bool := Op.bytesLess a.toList b.toList
theorem ltB_iff {a b : ByteArray} : ltB a b = true ↔ a.toList < b.toList := by unfold ltB; rw [bytesLess_lt]; exact decide_eq_true_iff
theorem ltB_irrefl (a : ByteArray) : ltB a a = false := by
  cases h : ltB a a with
  | false => rfl
  | true => exact absurd (ltB_iff.mp h) (List.lt_irrefl _)
theorem ltB_trans {a b c : ByteArray} (h1 : ltB a b = true) (h2 : ltB b c = true) : ltB a c = true := ltB_iff.mpr (List.lt_trans (ltB_iff.mp h1) (ltB_iff.mp h2))
theorem ltB_asymm {a b : ByteArray} (h1 : ltB a b = true) : ltB b a = false := by
  cases h : ltB b a with
  | false => rfl
  | true => have := ltB_trans h1 h; rw [ltB_irrefl] at this; exact absurd this (by simp)
theorem ltB_three {a b : ByteArray} (h1 : ltB a b = false) (h2 : ltB b a = false) : a = b := by
  have n1 : ¬ a.toList < b.toList := fun h => by rw [ltB_iff.mpr h] at h1; exact absurd h1 (by simp)
  have n2 : ¬ b.toList < a.toList := fun h => by rw [ltB_iff.mpr h] at h2; exact absurd h2 (by simp)
  exact toList_inj.mp (List.le_antisymm (List.not_lt.mp n2) (List.not_lt.mp n1))
/-- strictly up -/
def Up (l : List ByteArray) : Prop := l.Pairwise (fun a b => ltB a b = true)
/-- put a text in its place, once -/
def insB (x : ByteArray) : List ByteArray → List ByteArray
  | [] => [x]
  | y :: r => if ltB y x = true then y :: insB x r else if y = x then y :: r else x :: y :: r
theorem mem_insB {x z : ByteArray} : ∀ {l : List ByteArray}, z ∈ insB x l ↔ z = x ∨ z ∈ l
  | [] => by simp [insB]
  | y :: r => by
    unfold insB
    split
    · rw [List.mem_cons, mem_insB, List.mem_cons]; constructor
      · rintro (h | h | h) <;> simp [h]
      · rintro (h | h | h) <;> simp [h]
    · split
      · rename_i h; subst h; simp
      · simp
theorem up_insB {x : ByteArray} : ∀ {l : List ByteArray}, Up l → Up (insB x l)
  | [], _ => List.pairwise_singleton ..
  | y :: r, h => by
    obtain ⟨h1, h2⟩ := List.pairwise_cons.mp h
    unfold insB
    split
    · rename_i hy
      refine List.pairwise_cons.mpr ⟨fun z hz => ?_, up_insB h2⟩
      rcases mem_insB.mp hz with rfl | hz
      · exact hy
      · exact h1 z hz
    · rename_i hy
      split
      · exact h
      · rename_i hne
        have hxy : ltB x y = true := by
          cases hh : ltB x y with
          | true => rfl
          | false => exact absurd (ltB_three (by simpa using hy) hh) hne
        refine List.pairwise_cons.mpr ⟨fun z hz => ?_, h⟩
        rcases List.mem_cons.mp hz with rfl | hz
        · exact hxy
        · exact ltB_trans hxy (h1 z hz)
theorem len_insB {x : ByteArray} : ∀ {l : List ByteArray}, x ∉ l → (insB x l).length = l.length + 1
  | [], _ => rfl
  | y :: r, h => by
    have hne : ¬ y = x := fun e => h (by simp [e])
    have hr : x ∉ r := fun e => h (by simp [e])
    unfold insB
    split
    · rw [List.length_cons, len_insB hr]; rfl
    · rfl
theorem insB_in {x : ByteArray} : ∀ {l : List ByteArray}, Up l → x ∈ l → insB x l = l
  | [], _, h => by simp at h
  | y :: r, h, hx => by
    obtain ⟨h1, h2⟩ := List.pairwise_cons.mp h
    unfold insB
    split
    · rename_i hy
      rcases List.mem_cons.mp hx with rfl | hx
      · rw [ltB_irrefl] at hy; exact absurd hy (by simp)
      · rw [insB_in h2 hx]
    · rename_i hy
      rcases List.mem_cons.mp hx with rfl | hx
      · simp
      · exact absurd (h1 x hx) (by simpa using hy)
theorem insB_take {x : ByteArray} : ∀ (i : Nat) {l : List ByteArray}, (∀ y ∈ l.take i, ltB y x = true) → insB x l = l.take i ++ insB x (l.drop i)
  | 0, l, _ => by simp
  | i + 1, [], _ => by simp
  | i + 1, y :: r, h => by
    have hy : ltB y x = true := h y (by simp)
    rw [List.take_succ_cons, List.drop_succ_cons, insB, if_pos hy, insB_take i (fun z hz => h z (by simp [hz]))]; rfl
theorem up_take_lt {l : List ByteArray} {i : Nat} {x : ByteArray} (h : Up l) (hi : 0 < i) (hil : i ≤ l.length) (hx : ltB (l[i - 1]'(by omega)) x = true) : ∀ y ∈ l.take i, ltB y x = true := by
  intro y hy
  obtain ⟨j, hj, e⟩ := List.mem_iff_getElem.mp hy
  rw [List.length_take] at hj
  rw [List.getElem_take] at e
  subst e
  rcases Nat.lt_or_ge j (i - 1) with h1 | h1
  · exact ltB_trans (List.pairwise_iff_getElem.mp h j (i - 1) (by omega) (by omega) h1) hx
  · have : j = i - 1 := by omega
    subst this; exact hx
end Go.Proofs.YtphdlbdmdokfaaaDoor.PA

/-! The reference's sorted list of texts: a text is put in its place. No condition but bounds. -/
namespace Go.Proofs.YtphdlbdmdokfaaaDoor.PA
open Go.RowKit Go.Proofs.YtphdlbdmdokfaaaDoorW.PrintWords
set_option linter.unusedVariables false

theorem insB_cons_ge {x y : ByteArray} {r : List ByteArray} (h : ltB y x = false) : insB x (y :: r) = if y = x then y :: r else x :: y :: r := by
  rw [insB, if_neg (by simp [h])]
theorem put_tail (l : List ByteArray) (x : ByteArray) (hl : l.length ≤ 1048576) (i : Nat) (hi : i ≤ l.length) (own : ∀ m : List ByteArray, m.length ≤ 1048576 → spec_l1OwnS.f m = some m) (h1 : ∀ y ∈ l.take i, ltB y x = true) (h2 : ∀ y ∈ l.drop i, ltB y x = false) :
    Ev (fun k => (if (i : Int) < (l.length : Int) then (if 0 ≤ (i : Int) then (if (rdOf ByteArray.empty l (i : Int)).toList = x.toList then (some l) else (if (i : Int) ≤ (l.length : Int) then ((spec_l1OwnS.f (l.take ((i : Int) : Int).toNat)).bind fun t270 => (if t270.length < 8796093022208 then ((some (t270 ++ [x] : List ByteArray)).bind fun y273 => ((some (l.drop ((i : Int) : Int).toNat : List ByteArray)).bind fun y276 => (if y273.length + y276.length < 8796093022208 then (some (y273 ++ y276)) else (none)))) else (none))) else (none))) else (none)) else (if 0 ≤ (i : Int) then (if (i : Int) ≤ (l.length : Int) then ((spec_l1OwnS.f (l.take ((i : Int) : Int).toNat)).bind fun t287 => (if t287.length < 8796093022208 then ((some (t287 ++ [x] : List ByteArray)).bind fun y290 => ((some (l.drop ((i : Int) : Int).toNat : List ByteArray)).bind fun y293 => (if y290.length + y293.length < 8796093022208 then (some (y290 ++ y293)) else (none)))) else (none))) else (none)) else (none)))) (insB x l) := by
  rw [insB_take i h1, Int.toNat_natCast, own _ (by simp; omega)]
  have hlen : (l.take i ++ [x]).length + (l.drop i).length = l.length + 1 := by simp; omega
  have hput : (l.take i).length < 8796093022208 := by simp; omega
  by_cases hlt : i < l.length
  · have hd : l.drop i = l[i] :: l.drop (i + 1) := List.drop_eq_getElem_cons hlt
    have hge : ltB l[i] x = false := h2 _ (hd ▸ List.mem_cons_self ..)
    refine Ev.pos (by omega) (Ev.pos (by omega) ?_)
    rw [rdS_nat hlt]
    by_cases e : l[i] = x
    · refine Ev.pos (by rw [e]) (Ev.val ?_)
      rw [hd, insB_cons_ge hge, if_pos e, ← hd, List.take_append_drop]
    · refine Ev.neg (fun h => e (toList_inj.mp h)) (Ev.pos (by omega) (Ev.vbind rfl (Ev.pos hput (Ev.vbind rfl (Ev.vbind rfl (Ev.pos (by omega) (Ev.val ?_)))))))
      rw [show insB x (l.drop i) = x :: l.drop i by rw [hd, insB_cons_ge hge, if_neg e]]
      simp
  · have hd : l.drop i = [] := List.drop_of_length_le (by omega)
    refine Ev.neg (by omega) (Ev.pos (by omega) (Ev.pos (by omega) (Ev.vbind rfl (Ev.pos hput (Ev.vbind rfl (Ev.vbind rfl (Ev.pos (by omega) (Ev.val ?_))))))))
    rw [hd]; simp [insB]
theorem own_f (m : List ByteArray) (h : m.length ≤ 1048576) : spec_l1OwnS.f m = some m := by
  unfold spec_l1OwnS.f
  rw [Option.bind_some, if_pos (by simp; omega)]; rfl
theorem wdPut_l0 (l : List ByteArray) (x : ByteArray) (hl : l.length ≤ 1048576) (hu : Up l) : ∀ (i : Nat), i ≤ l.length → (∀ y ∈ l.drop i, ltB y x = false) → Ev (fun k => spec_wdPut.l0 k l x (i : Int)) (insB x l)
  | 0, hi, h2 => by
    refine Ev.step (fun k => by rw [spec_wdPut.l0]) ?_
    refine Ev.neg (by omega) ?_
    exact put_tail l x hl 0 hi own_f (by simp) h2
  | i + 1, hi, h2 => by
    refine Ev.step (fun k => by rw [spec_wdPut.l0]) ?_
    have hj : wrap64 (((i + 1 : Nat) : Int) - 1) = (i : Int) := by rw [wrap_in (by omega) (by omega)]; omega
    rw [hj]
    refine Ev.pos (by omega) (Ev.pos (by omega) (Ev.pos (by omega) ?_))
    rw [rdS_nat (show i < l.length by omega)]
    refine Ev.ite (fun e => ?_) (fun e => ?_)
    · exact put_tail l x hl (i + 1) hi own_f (up_take_lt hu (by omega) hi e) h2
    · refine wdPut_l0 l x hl hu i (by omega) (fun y hy => ?_)
      rw [List.drop_eq_getElem_cons (show i < l.length by omega)] at hy
      rcases List.mem_cons.mp hy with rfl | hy
      · exact Bool.eq_false_iff.mpr e
      · exact h2 y hy
theorem wdPut_ev (l : List ByteArray) (x : ByteArray) (hl : l.length ≤ 1048576) (hu : Up l) : Ev (fun k => spec_wdPut.f k l x) (insB x l) :=
  wdPut_l0 l x hl hu l.length (Nat.le_refl _) (by rw [List.drop_of_length_le (Nat.le_refl _)]; simp)
end Go.Proofs.YtphdlbdmdokfaaaDoor.PA

/-! Sorted lists of texts: putting one after the other sorts, where none comes twice. No condition. -/
namespace Go.Proofs.YtphdlbdmdokfaaaDoor.PA
open Go.RowKit Go.Proofs.YtphdlbdmdokfaaaDoorW.PrintWords
set_option linter.unusedVariables false

theorem insB_perm {x : ByteArray} : ∀ {l : List ByteArray}, x ∉ l → (insB x l).Perm (x :: l)
  | [], _ => List.Perm.refl _
  | y :: r, h => by
    have hne : ¬ y = x := fun e => h (by simp [e])
    have hr : x ∉ r := fun e => h (by simp [e])
    unfold insB
    split
    · exact (List.Perm.cons y (insB_perm hr)).trans (List.Perm.swap x y r)
    · exact List.Perm.refl _
def putAll (B : List ByteArray) (l : List ByteArray) : List ByteArray := l.foldl (fun B x => insB x B) B
theorem putAll_facts : ∀ (l B : List ByteArray), Up B → Up (putAll B l) ∧ (putAll B l).length ≤ B.length + l.length ∧ ((putAll B l).length = B.length + l.length → (putAll B l).Perm (l ++ B)) ∧ ((l ++ B).Nodup → (putAll B l).length = B.length + l.length)
  | [], B, h => ⟨h, by simp [putAll], fun _ => List.Perm.refl _, fun _ => rfl⟩
  | x :: l, B, h => by
    obtain ⟨h1, h2, h3, h4⟩ := putAll_facts l (insB x B) (up_insB h)
    have e : putAll B (x :: l) = putAll (insB x B) l := rfl
    rw [e]
    by_cases hx : x ∈ B
    · rw [insB_in h hx] at h1 h2 h3 h4 ⊢
      refine ⟨h1, by simp only [List.length_cons]; omega, fun hh => by simp only [List.length_cons] at hh; omega, fun hh => ?_⟩
      have := (List.nodup_cons.mp hh).1
      exact absurd (List.mem_append_right l hx) this
    · have hp := insB_perm hx
      have hlen := len_insB hx
      rw [hlen] at h2 h3 h4
      refine ⟨h1, by simp only [List.length_cons]; omega, fun hh => ?_, fun hh => ?_⟩
      · have := h3 (by simp only [List.length_cons] at hh; omega)
        refine this.trans ?_
        exact (List.Perm.append_left l hp).trans List.perm_middle
      · have hn : (l ++ insB x B).Nodup := ((List.Perm.append_left l hp).trans List.perm_middle).nodup_iff.mpr hh
        have := h4 hn
        simp only [List.length_cons]
        omega
/-- what the library's sort writes -/
def sortB (l : List ByteArray) : List ByteArray := ((l.map (·.data.toList)).mergeSort fun x y => decide (x ≤ y)).map fun b => ⟨b.toArray⟩
theorem sortB_perm (l : List ByteArray) : (sortB l).Perm l := by
  unfold sortB
  have h := (List.mergeSort_perm (l.map (·.data.toList)) (fun x y => decide (x ≤ y))).map (fun b => (⟨b.toArray⟩ : ByteArray))
  refine h.trans ?_
  rw [List.map_map]
  have : (fun b : List UInt8 => (⟨b.toArray⟩ : ByteArray)) ∘ (fun s : ByteArray => s.data.toList) = id := by
    funext s; exact ba_ext (by simp)
  rw [this, List.map_id]
theorem sortB_up (l : List ByteArray) : (sortB l).Pairwise (fun a b => ltB b a = false) := by
  have h := List.pairwise_mergeSort (le := fun (x y : List UInt8) => decide (x ≤ y)) (fun a b c h1 h2 => by
      simp only [decide_eq_true_eq] at h1 h2 ⊢
      exact List.le_trans h1 h2) (fun a b => by
      simp only [Bool.or_eq_true, decide_eq_true_eq]
      exact List.le_total a b) (l.map (·.data.toList))
  unfold sortB
  rw [List.pairwise_map]
  refine h.imp ?_
  intro a b hab
  have hab' : a ≤ b := of_decide_eq_true hab
  cases hh : ltB (⟨b.toArray⟩ : ByteArray) ⟨a.toArray⟩ with
  | false => rfl
  | true =>
    have := ltB_iff.mp hh
    rw [toList_mk, toList_mk] at this
    exact absurd this (List.not_lt.mpr hab')
theorem up_nodup {l : List ByteArray} (h : Up l) : l.Nodup := h.imp (fun {a b} hab e => by rw [e, ltB_irrefl] at hab; exact absurd hab (by simp))
theorem sortB_eq {l U : List ByteArray} (hU : Up U) (hp : U.Perm l) : sortB l = U := by
  refine List.Perm.eq_of_pairwise (le := fun a b => ltB b a = false) (fun a b _ _ h1 h2 => ltB_three h2 h1) (sortB_up l) (hU.imp (fun {a b} hab => ltB_asymm hab)) ((sortB_perm l).trans hp.symm)
end Go.Proofs.YtphdlbdmdokfaaaDoor.PA

/-! Making a plan: the reference puts the codes in their places, the program sorts them. No condition but bounds. -/
namespace Go.Proofs.YtphdlbdmdokfaaaDoor.PA
open Go.RowKit Go.Proofs.YtphdlbdmdokfaaaDoorW.PrintWords
set_option linter.unusedVariables false

theorem chain_up : ∀ (l : List ByteArray), chainB l = true → Up l
  | [], _ => List.Pairwise.nil
  | [a], _ => List.pairwise_singleton ..
  | a :: b :: r, h => by
    rw [chainB, Bool.and_eq_true] at h
    have ih := chain_up (b :: r) h.2
    have hab : ltB a b = true := by have := h.1; unfold stepB at this; rw [Bool.and_eq_true] at this; exact this.1
    refine List.pairwise_cons.mpr ⟨fun z hz => ?_, ih⟩
    rcases List.mem_cons.mp hz with rfl | hz
    · exact hab
    · exact ltB_trans hab ((List.pairwise_cons.mp ih).1 z hz)
theorem good_up {l : List ByteArray} (h : goodB l = true) : Up l := by
  unfold goodB at h
  rw [Bool.and_eq_true] at h
  exact chain_up l h.2
def codesB (l : List ByteArray) : Bool := decide (1 ≤ (l.length : Int)) && decide ((l.length : Int) ≤ 20) && l.all codeB
theorem good_codes {l : List ByteArray} (h : goodB l = true) : codesB l = true := by
  unfold goodB at h
  rw [Bool.and_eq_true] at h
  exact h.1
theorem codes_perm {a b : List ByteArray} (h : a.Perm b) : codesB a = codesB b := by
  unfold codesB
  rw [h.length_eq, h.all_eq]
/-- the plan of some codes, if they make one -/
def planOf (l : List ByteArray) : List ByteArray × Bool := if codesB l = true ∧ (putAll [] l).length = l.length ∧ goodB (putAll [] l) = true then (putAll [] l, true) else ([], false)
theorem planOf_len (l : List ByteArray) : (planOf l).1.length ≤ 20 := by
  unfold planOf
  split
  · rename_i h
    have := good_codes h.2.2
    unfold codesB at this
    simp only [Bool.and_eq_true, decide_eq_true_eq] at this
    show (putAll [] l).length ≤ 20
    omega
  · simp
section
variable (l : List ByteArray) (hl : l.length ≤ 1048576) (hs : ∀ y ∈ l, y.size ≤ 1048576)
include hl hs
theorem makeS_l0 (hc : codesB l = true) : ∀ (d i : Nat), i + d = l.length → Up (putAll [] (l.take i)) → Ev (fun k => spec_MakePlan.l0 k l (putAll [] (l.take i)) l (l.length : Int) (i : Int)) (planOf l)
  | 0, i, h, hu => by
    have ht : l.take i = l := List.take_of_length_le (by omega)
    rw [ht] at hu ⊢
    obtain ⟨_, h2, h3, _⟩ := putAll_facts l [] List.Pairwise.nil
    refine Ev.step (fun k => by rw [spec_MakePlan.l0]) ?_
    refine Ev.neg (by omega) ?_
    unfold planOf
    by_cases hz : (putAll [] l).length = l.length
    · have hp := h3 (by simpa using hz)
      rw [List.append_nil] at hp
      have hg := plGood_ev (putAll [] l) (by omega) (fun y hy => hs y (hp.mem_iff.mp hy))
      refine Ev.pos (by omega) (Ev.bind hg ?_)
      cases g : goodB (putAll [] l) with
      | true => exact Ev.pos rfl (Ev.val (by rw [if_pos ⟨hc, hz, rfl⟩]))
      | false => exact Ev.neg (by simp) (Ev.val (by simp))
    · exact Ev.neg (by omega) (Ev.val (by rw [if_neg (fun h => hz h.2.1)]))
  | d + 1, i, h, hu => by
    have hi : i < l.length := by omega
    have hlen := (putAll_facts (l.take i) [] List.Pairwise.nil).2.1
    have hlen' : (putAll [] (l.take i)).length ≤ 1048576 := by simp only [List.length_nil, List.length_take] at hlen; omega
    refine Ev.step (fun k => by rw [spec_MakePlan.l0]) ?_
    refine Ev.pos (by omega) (Ev.pos (by omega) (Ev.pos (by omega) ?_))
    rw [rdS_nat hi, wrap_nat (by omega)]
    refine Ev.bind (wdPut_ev _ _ hlen' hu) ?_
    have e : insB l[i] (putAll [] (l.take i)) = putAll [] (l.take (i + 1)) := by
      unfold putAll
      rw [take_succ_get hi, List.foldl_append]; rfl
    rw [e]
    exact makeS_l0 hc d (i + 1) (by omega) (by rw [← e]; exact up_insB hu)
theorem makeS_ev : Ev (fun k => spec_MakePlan.f k l) (planOf l) := by
  unfold spec_MakePlan.f
  refine Ev.bind (plCodes_ev l hl hs) ?_
  show Ev (fun k => if codesB l = true then _ else _) _
  cases hc : codesB l with
  | true => exact Ev.pos rfl (makeS_l0 l hl hs hc l.length 0 (by omega) List.Pairwise.nil)
  | false => exact Ev.neg (by simp) (Ev.val (by unfold planOf; rw [hc, if_neg (by simp)]))
theorem makeI_ev : Ev (fun k => impl_MakePlan.f k l) (planOf l) := by
  unfold impl_MakePlan.f
  by_cases h20 : (l.length : Int) > 20
  · refine Ev.pos h20 (Ev.val ?_)
    have hc : codesB l = false := by
      unfold codesB
      simp [show ¬ (l.length : Int) ≤ 20 by omega]
    unfold planOf
    rw [hc, if_neg (by simp)]
  · have hcl : slices_Clone_string_string.f l = some l := by unfold slices_Clone_string_string.f; rw [if_pos hl]
    have hso : slices_Sort_string_string.f l = some (sortB l) := by unfold slices_Sort_string_string.f; rw [if_pos hl]; rfl
    have hp := sortB_perm l
    have hgood := isCodePlan_ev (sortB l) (by rw [hp.length_eq]; exact hl) (fun y hy => hs y (hp.mem_iff.mp hy))
    refine Ev.neg h20 (Ev.vbind hcl (Ev.vbind hso (Ev.bind (a := planOf l) ?_ (Ev.val rfl))))
    unfold impl_toldCodes.f
    refine Ev.bind hgood ?_
    obtain ⟨u1, u2, u3, u4⟩ := putAll_facts l [] List.Pairwise.nil
    cases g : goodB (sortB l) with
    | true =>
      have hc : codesB l = true := by rw [← codes_perm hp]; exact good_codes g
      have hn : l.Nodup := hp.nodup_iff.mp (up_nodup (good_up g))
      have hz : (putAll [] l).length = l.length := by have := u4 (by rw [List.append_nil]; exact hn); simpa using this
      have hpu := u3 (by simpa using hz)
      rw [List.append_nil] at hpu
      have e := sortB_eq u1 hpu
      rw [e] at g ⊢
      exact Ev.pos rfl (Ev.val (by unfold planOf; rw [if_pos ⟨hc, hz, g⟩]))
    | false =>
      refine Ev.neg (by simp) (Ev.val ?_)
      unfold planOf
      rw [if_neg]
      rintro ⟨hc, hz, gg⟩
      have hpu := u3 (by simpa using hz)
      rw [List.append_nil] at hpu
      rw [sortB_eq u1 hpu, gg] at g
      exact absurd g (by simp)
end
theorem makePlan_key (l : List ByteArray) (hl : l.length ≤ 1048576) (hs : ∀ y ∈ l, y.size ≤ 1048576) : ∃ r : List ByteArray × Bool, Ev (fun k => spec_MakePlan.f k l) r ∧ Ev (fun k => impl_MakePlan.f k l) r ∧ r.1.length ≤ 1048576 :=
  ⟨planOf l, makeS_ev l hl hs, makeI_ev l hl hs, by have := planOf_len l; omega⟩
end Go.Proofs.YtphdlbdmdokfaaaDoor.PA

/-! A code begins a text: what that says of the bytes. No condition. -/
namespace Go.Proofs.YtphdlbdmdokfaaaDoor.PA
open Go.RowKit Go.Proofs.YtphdlbdmdokfaaaDoorW.PrintWords
set_option linter.unusedVariables false

theorem begB_iff {a b : ByteArray} : begB a b = true ↔ ∃ t, b.data.toList = a.data.toList ++ t := by
  unfold begB
  rw [List.isPrefixOf_iff_prefix]
  exact ⟨fun ⟨t, h⟩ => ⟨t, h.symm⟩, fun ⟨t, h⟩ => ⟨t, h.symm⟩⟩
theorem begB_self (a : ByteArray) : begB a a = true := begB_iff.mpr ⟨[], by simp⟩
end Go.Proofs.YtphdlbdmdokfaaaDoor.PA

/-! What a plan is: codes, strictly up, none of which begins another one. No condition. -/
namespace Go.Proofs.YtphdlbdmdokfaaaDoor.PA
open Go.RowKit Go.Proofs.YtphdlbdmdokfaaaDoorW.PrintWords
set_option linter.unusedVariables false

/-- what lies between a text and a longer one that it begins is begun by it too -/
theorem between : ∀ (a b t : List UInt8), a ≤ b → b ≤ a ++ t → a.isPrefixOf b = true
  | [], b, t, _, _ => by simp
  | x :: a, [], t, h, _ => by
    exact absurd h (by simp [← List.not_lt])
  | x :: a, y :: b, t, h1, h2 => by
    rw [List.cons_le_cons_iff] at h1
    rw [List.cons_append, List.cons_le_cons_iff] at h2
    have hxy : x = y := by
      rcases h1 with h1 | ⟨h1, _⟩
      · rcases h2 with h2 | ⟨h2, _⟩
        · exact absurd h1 (by have := UInt8.lt_asymm h2; exact this)
        · exact h2.symm
      · exact h1
    subst hxy
    have g1 : a ≤ b := by
      rcases h1 with h1 | ⟨_, h1⟩
      · exact absurd h1 (UInt8.lt_irrefl x)
      · exact h1
    have g2 : b ≤ a ++ t := by
      rcases h2 with h2 | ⟨_, h2⟩
      · exact absurd h2 (UInt8.lt_irrefl x)
      · exact h2
    rw [List.isPrefixOf_cons_cons, between a b t g1 g2]
    simp
theorem beg_between {a b c : ByteArray} (h1 : ltB a b = true) (h2 : ltB b c = true) (h : begB a c = true) : begB a b = true := by
  obtain ⟨t, ht⟩ := begB_iff.mp h
  have e1 := ltB_iff.mp h1
  have e2 := ltB_iff.mp h2
  rw [toList_data, toList_data] at e1 e2
  rw [ht] at e2
  exact between _ _ t (List.le_of_lt e1) (List.le_of_lt e2)
/-- none of the texts begins another one -/
def Apart (l : List ByteArray) : Prop := ∀ a ∈ l, ∀ b ∈ l, a ≠ b → begB a b = false
theorem beg_not_lt {a b : ByteArray} (h : ltB b a = true) : begB a b = false := by
  cases hb : begB a b with
  | false => rfl
  | true =>
    obtain ⟨t, ht⟩ := begB_iff.mp hb
    have e := ltB_iff.mp h
    rw [toList_data, toList_data, ht] at e
    exact absurd e (List.not_lt.mpr (List.le_append_left (l₁ := a.data.toList)))
theorem chain_apart : ∀ (l : List ByteArray), chainB l = true → l.Pairwise (fun a b => ltB a b = true ∧ begB a b = false)
  | [], _ => List.Pairwise.nil
  | [a], _ => List.pairwise_singleton ..
  | a :: b :: r, h => by
    rw [chainB, Bool.and_eq_true] at h
    have ih := chain_apart (b :: r) h.2
    have hab : ltB a b = true ∧ begB a b = false := by have := h.1; unfold stepB at this; simpa [ltB, lessB] using this
    refine List.pairwise_cons.mpr ⟨fun z hz => ?_, ih⟩
    rcases List.mem_cons.mp hz with rfl | hz
    · exact hab
    · have hbz := (List.pairwise_cons.mp ih).1 z hz
      refine ⟨ltB_trans hab.1 hbz.1, ?_⟩
      cases hh : begB a z with
      | false => rfl
      | true => rw [beg_between hab.1 hbz.1 hh] at hab; exact absurd hab.2 (by simp)
theorem apart_chain : ∀ (l : List ByteArray), Up l → Apart l → chainB l = true
  | [], _, _ => rfl
  | [a], _, _ => rfl
  | a :: b :: r, hu, ha => by
    obtain ⟨h1, h2⟩ := List.pairwise_cons.mp hu
    have hab := h1 b (by simp)
    have hne : a ≠ b := fun e => by rw [e, ltB_irrefl] at hab; exact absurd hab (by simp)
    rw [chainB, Bool.and_eq_true]
    refine ⟨?_, apart_chain (b :: r) h2 (fun x hx y hy => ha x (by simp [hx]) y (by simp [hy]))⟩
    unfold stepB
    rw [Bool.and_eq_true]
    exact ⟨hab, by rw [ha a (by simp) b (by simp) hne]; rfl⟩
theorem good_iff {l : List ByteArray} : goodB l = true ↔ codesB l = true ∧ Up l ∧ Apart l := by
  constructor
  · intro h
    have hp : chainB l = true := by unfold goodB at h; rw [Bool.and_eq_true] at h; exact h.2
    refine ⟨good_codes h, good_up h, ?_⟩
    have hpw := chain_apart l hp
    intro a ha b hb hne
    obtain ⟨i, hi, rfl⟩ := List.mem_iff_getElem.mp ha
    obtain ⟨j, hj, rfl⟩ := List.mem_iff_getElem.mp hb
    rcases Nat.lt_trichotomy i j with h1 | h1 | h1
    · exact (List.pairwise_iff_getElem.mp hpw i j hi hj h1).2
    · subst h1; exact absurd rfl hne
    · exact beg_not_lt (List.pairwise_iff_getElem.mp hpw j i hj hi h1).1
  · rintro ⟨h1, h2, h3⟩
    unfold goodB
    rw [Bool.and_eq_true]
    exact ⟨h1, apart_chain l h2 h3⟩
theorem putAll_up {l : List ByteArray} (h : Up l) : putAll [] l = l := by
  obtain ⟨h1, h2, h3, h4⟩ := putAll_facts l [] List.Pairwise.nil
  have hz := h4 (by rw [List.append_nil]; exact up_nodup h)
  have hp := h3 hz
  rw [List.append_nil] at hp
  exact List.Perm.eq_of_pairwise (le := fun a b => ltB b a = false) (fun a b _ _ e1 e2 => ltB_three e2 e1) (h1.imp (fun {a b} hab => ltB_asymm hab)) (h.imp (fun {a b} hab => ltB_asymm hab)) hp
end Go.Proofs.YtphdlbdmdokfaaaDoor.PA

/-! Is a text among a list's: the reference and the program answer the same. No condition but bounds. -/
namespace Go.Proofs.YtphdlbdmdokfaaaDoor.PA
open Go.RowKit Go.Proofs.YtphdlbdmdokfaaaDoorW.PrintWords
set_option linter.unusedVariables false

def hasB (c : ByteArray) (l : List ByteArray) : Bool := l.any (fun x => decide (c = x))
theorem hasB_iff {c : ByteArray} {l : List ByteArray} : hasB c l = true ↔ c ∈ l := by
  unfold hasB
  rw [List.any_eq_true]
  exact ⟨fun ⟨x, hx, e⟩ => (of_decide_eq_true e) ▸ hx, fun h => ⟨c, h, decide_eq_true rfl⟩⟩
theorem hasB_cons (c x : ByteArray) (r : List ByteArray) : hasB c (x :: r) = (decide (c = x) || hasB c r) := rfl
theorem hasS_l0 (l : List ByteArray) (c : ByteArray) (hl : l.length ≤ 1048576) : ∀ (d i : Nat), i + d = l.length → Ev (fun k => spec_l1HasS.l0 k c l (l.length : Int) (i : Int)) (hasB c (l.drop i))
  | 0, i, h => by
    refine Ev.step (fun k => by rw [spec_l1HasS.l0]) ?_
    refine Ev.neg (by omega) (Ev.val ?_)
    rw [List.drop_of_length_le (by omega)]; rfl
  | d + 1, i, h => by
    have hi : i < l.length := by omega
    refine Ev.step (fun k => by rw [spec_l1HasS.l0]) ?_
    refine Ev.pos (by omega) (Ev.pos (by omega) (Ev.pos (by omega) ?_))
    rw [rdS_nat hi, wrap_nat (by omega), List.drop_eq_getElem_cons hi, hasB_cons]
    refine Ev.ite (fun e => Ev.val ?_) (fun e => ?_)
    · rw [decide_eq_true (toList_inj.mp e).symm, Bool.true_or]
    · have hne : ¬ c = l[i] := fun h => e (by rw [h])
      have ih := hasS_l0 l c hl d (i + 1) (by omega)
      refine Ev.eq ih ?_
      rw [decide_eq_false hne, Bool.false_or]
theorem hasS_ev (l : List ByteArray) (c : ByteArray) (hl : l.length ≤ 1048576) : Ev (fun k => spec_l1HasS.f k l c) (hasB c l) := by
  have := hasS_l0 l c hl l.length 0 (by omega)
  simpa [spec_l1HasS.f] using this
theorem indexS_l0 (l : List ByteArray) (c : ByteArray) (hl : l.length ≤ 1048576) : ∀ (d i : Nat), i + d = l.length → ∃ v, Ev (fun k => slices_Index_string_string.l0 k l c (l.length : Int) (i : Int)) v ∧ decide (v ≥ 0) = hasB c (l.drop i)
  | 0, i, h => by
    refine ⟨-1, ?_, ?_⟩
    · refine Ev.step (fun k => by rw [slices_Index_string_string.l0]) ?_
      exact Ev.neg (by omega) (Ev.val rfl)
    · rw [List.drop_of_length_le (by omega)]; rfl
  | d + 1, i, h => by
    have hi : i < l.length := by omega
    by_cases e : c.toList = l[i].toList
    · refine ⟨(i : Int), ?_, ?_⟩
      · refine Ev.step (fun k => by rw [slices_Index_string_string.l0]) ?_
        refine Ev.pos (by omega) (Ev.pos (by omega) (Ev.pos (by omega) ?_))
        rw [rdS_nat hi]
        exact Ev.pos e (Ev.val rfl)
      · rw [List.drop_eq_getElem_cons hi, hasB_cons, decide_eq_true (toList_inj.mp e), Bool.true_or]; exact decide_eq_true (by omega)
    · have hne : ¬ c = l[i] := fun h => e (by rw [h])
      obtain ⟨v, hv, hd⟩ := indexS_l0 l c hl d (i + 1) (by omega)
      refine ⟨v, ?_, ?_⟩
      · refine Ev.step (fun k => by rw [slices_Index_string_string.l0]) ?_
        refine Ev.pos (by omega) (Ev.pos (by omega) (Ev.pos (by omega) ?_))
        rw [rdS_nat hi, wrap_nat (by omega)]
        exact Ev.neg e hv
      · rw [hd, List.drop_eq_getElem_cons hi, hasB_cons, decide_eq_false hne, Bool.false_or]
theorem containsS_ev (l : List ByteArray) (c : ByteArray) (hl : l.length ≤ 1048576) : Ev (fun k => slices_Contains_string_string.f k l c) (hasB c l) := by
  obtain ⟨v, hv, hd⟩ := indexS_l0 l c hl l.length 0 (by omega)
  unfold slices_Contains_string_string.f slices_Index_string_string.f
  refine Ev.bind hv (Ev.val ?_)
  rw [hd, List.drop_zero]
theorem code_size {s : ByteArray} (h : codeB s = true) : 1 ≤ s.size ∧ s.size ≤ 6 := by
  unfold codeB digitsB at h
  simp at h
  omega
theorem good_code {l : List ByteArray} (h : goodB l = true) {c : ByteArray} (hc : c ∈ l) : codeB c = true := by
  unfold goodB at h
  simp only [Bool.and_eq_true, List.all_eq_true] at h
  exact h.1.2 c hc
theorem good_len {l : List ByteArray} (h : goodB l = true) : 1 ≤ l.length ∧ l.length ≤ 20 := by
  unfold goodB at h
  simp at h
  omega
end Go.Proofs.YtphdlbdmdokfaaaDoor.PA

/-! Does a code fit beside all of a list: the program asks so. No condition but bounds. -/
namespace Go.Proofs.YtphdlbdmdokfaaaDoor.PA
open Go.RowKit Go.Proofs.YtphdlbdmdokfaaaDoorW.PrintWords
set_option linter.unusedVariables false

/-- does a code stand beside all of a list's -/
def fitB (l : List ByteArray) (x : ByteArray) : Bool := !(l.any fun c => begB c x || begB x c)
theorem fits_f (l : List ByteArray) (x : ByteArray) (hl : l.length ≤ 1048576) : impl_fits.f l x = some (fitB l x) := by
  unfold impl_fits.f fitB
  rw [if_pos (by omega)]
  have h := anyO_pure (fun c => begB c x || begB x c) (fun c => (impl_begins.f c x).bind fun b => if b = true then some true else impl_begins.f x c) l (fun c _ => by
    rw [begins_f, begins_f, Option.bind_some]
    cases begB c x <;> simp)
  rw [h]; rfl
theorem fitB_iff {l : List ByteArray} {x : ByteArray} : fitB l x = true ↔ ∀ c ∈ l, begB c x = false ∧ begB x c = false := by
  unfold fitB
  rw [Bool.not_eq_true', List.any_eq_false]
  exact ⟨fun h c hc => by have := h c hc; simpa using this, fun h c hc => by have := h c hc; simp [this]⟩
theorem has_not {x : ByteArray} {l : List ByteArray} : hasB x l = false ↔ x ∉ l := by
  cases h : hasB x l with
  | true => simp [hasB_iff.mp h]
  | false => simp; intro hm; rw [hasB_iff.mpr hm] at h; exact absurd h (by simp)
end Go.Proofs.YtphdlbdmdokfaaaDoor.PA

/-! Adding a code: the key. No condition but bounds. -/
namespace Go.Proofs.YtphdlbdmdokfaaaDoor.PA
open Go.RowKit Go.Proofs.YtphdlbdmdokfaaaDoorW.PrintWords
set_option linter.unusedVariables false

/-- a plan with a code more, if it is one -/
def addB (l : List ByteArray) (x : ByteArray) : List ByteArray × Bool := if hasB x l = false ∧ goodB (insB x l) = true then (insB x l, true) else ([], false)
theorem addCode_key (l : List ByteArray) (x : ByteArray) (h1 : l.length ≤ 1048576) (h2 : ∀ y ∈ l, y.size ≤ 1048576) (hx : x.size ≤ 1048576) :
    ∃ r : List ByteArray × Bool, Ev (fun k => spec_AddCode.f k l x) r ∧ Ev (fun k => impl_AddCode.f k l x) r ∧ r.1.length ≤ 1048576 := by
  have hg := plGood_ev l h1 h2
  have hi := isCodePlan_ev l h1 h2
  have hc1 := plCode_ev x (by omega)
  have hc2 := isCode_f x (by omega)
  have no : ∀ b, b = true → Ev (fun k => impl_AddCode.j0 k l x b) ([], false) := by
    intro b hb
    refine Ev.step (fun k => by rw [impl_AddCode.j0]) ?_
    exact Ev.pos hb (Ev.val rfl)
  unfold spec_AddCode.f impl_AddCode.f
  cases g : goodB l with
  | false =>
    rw [g] at hg hi
    exact ⟨([], false), Ev.bind hg (Ev.neg (by simp) (Ev.val rfl)), Ev.bind hi (Ev.neg (by simp) (no _ rfl)), by simp⟩
  | true =>
    rw [g] at hg hi
    cases hc : codeB x with
    | false =>
      rw [hc] at hc1 hc2
      exact ⟨([], false), Ev.bind hg (Ev.pos rfl (Ev.bind hc1 (Ev.neg (by simp) (Ev.val rfl)))), Ev.bind hi (Ev.pos rfl (Ev.vbind hc2 (Ev.neg (by simp) (no _ rfl)))), by simp⟩
    | true =>
      rw [hc] at hc1 hc2
      obtain ⟨gc, gu, ga⟩ := good_iff.mp g
      have hlen : l.length ≤ 20 := by unfold codesB at gc; simp only [Bool.and_eq_true, decide_eq_true_eq] at gc; omega
      have hput := wdPut_ev l x h1 gu
      have hin : ∀ y ∈ insB x l, y.size ≤ 1048576 := fun y hy => by
        rcases mem_insB.mp hy with rfl | hy
        · exact hx
        · exact h2 y hy
      have sp : Ev (fun k => spec_plAdd.f k l x) (addB l x) := by
        unfold spec_plAdd.f addB
        refine Ev.bind hput ?_
        by_cases hm : x ∈ l
        · rw [insB_in gu hm]
          exact Ev.pos rfl (Ev.val (by rw [if_neg (fun h => has_not.mp h.1 hm)]))
        · have hz := len_insB hm
          refine Ev.neg (by omega) (Ev.bind (plGood_ev (insB x l) (by omega) hin) ?_)
          cases hgi : goodB (insB x l) with
          | true => exact Ev.pos rfl (Ev.val (by rw [if_pos ⟨has_not.mpr hm, rfl⟩]))
          | false => exact Ev.neg (by simp) (Ev.val (by simp))
      have hr : (addB l x).1.length ≤ 1048576 := by
        unfold addB
        split
        · rename_i h
          have hz := len_insB (has_not.mp h.1)
          show (insB x l).length ≤ _
          omega
        · simp
      refine ⟨addB l x, Ev.bind hg (Ev.pos rfl (Ev.bind hc1 (Ev.pos rfl (Ev.bind sp (Ev.val rfl))))), Ev.bind hi (Ev.pos rfl (Ev.vbind hc2 (Ev.pos rfl (Ev.vbind (fits_f l x h1) ?_)))), hr⟩
      cases hf : fitB l x with
      | false =>
        refine Ev.eq (no _ rfl) ?_
        unfold addB
        rw [if_neg]
        rintro ⟨hm0, hgi⟩
        have hm := has_not.mp hm0
        obtain ⟨_, _, hap⟩ := good_iff.mp hgi
        have : fitB l x = true := fitB_iff.mpr fun c hc => by
          have hne : c ≠ x := fun e => hm (e ▸ hc)
          exact ⟨hap c (mem_insB.mpr (.inr hc)) x (mem_insB.mpr (.inl rfl)) hne, hap x (mem_insB.mpr (.inl rfl)) c (mem_insB.mpr (.inr hc)) (Ne.symm hne)⟩
        rw [this] at hf
        exact absurd hf (by simp)
      | true =>
        have hm : x ∉ l := fun h => by have := (fitB_iff.mp hf x h).1; rw [begB_self] at this; exact absurd this (by simp)
        refine Ev.step (fun k => by rw [impl_AddCode.j0]) ?_
        have hcl : slices_Clone_string_string.f l = some l := by unfold slices_Clone_string_string.f; rw [if_pos h1]
        have hmk := makeI_ev (l ++ [x]) (by simp; omega) (fun y hy => by
          rcases List.mem_append.mp hy with hy | hy
          · exact h2 y hy
          · rw [List.mem_singleton.mp hy]; exact hx)
        have e : planOf (l ++ [x]) = addB l x := by
          have ep : putAll [] (l ++ [x]) = insB x l := by
            have := putAll_up gu
            unfold putAll at this ⊢
            rw [List.foldl_append, this]; rfl
          have hz := len_insB hm
          unfold planOf addB
          rw [ep]
          by_cases hgi : goodB (insB x l) = true
          · have hcc : codesB (l ++ [x]) = true := by
              have := good_codes hgi
              rwa [codes_perm ((insB_perm hm).trans (List.perm_append_singleton x l).symm)] at this
            rw [if_pos ⟨hcc, by rw [hz]; simp, hgi⟩, if_pos ⟨has_not.mpr hm, hgi⟩]
          · rw [if_neg (fun h => hgi h.2.2), if_neg (fun h => hgi h.2)]
        rw [e] at hmk
        exact Ev.neg (by simp) (Ev.vbind hcl (Ev.pos (by omega) (Ev.bind hmk (Ev.val rfl))))
end Go.Proofs.YtphdlbdmdokfaaaDoor.PA

/-! The code that begins a number: the reference's and the program's are one. No condition but bounds. -/
namespace Go.Proofs.YtphdlbdmdokfaaaDoor.PA
open Go.RowKit Go.Proofs.YtphdlbdmdokfaaaDoorW.PrintWords
set_option linter.unusedVariables false

theorem area_l0 (l : List ByteArray) (t : ByteArray) (hl : l.length ≤ 1048576) : ∀ (d i : Nat), i + d = l.length →
    ∃ v j, Ev (fun k => spec_plArea.l0 k t l (l.length : Int) (i : Int)) v ∧ idxO (fun c => impl_begins.f c t) (l.drop i) (i : Int) = some j ∧
      ((j < 0 ∧ v = ⟨#[]⟩) ∨ (0 ≤ j ∧ j < (l.length : Int) ∧ v = rdOf ByteArray.empty l j ∧ v ∈ l))
  | 0, i, h => by
    refine ⟨⟨#[]⟩, -1, ?_, ?_, .inl ⟨by decide, rfl⟩⟩
    · refine Ev.step (fun k => by rw [spec_plArea.l0]) ?_
      exact Ev.neg (by omega) (Ev.val rfl)
    · rw [List.drop_of_length_le (by omega)]; rfl
  | d + 1, i, h => by
    have hi : i < l.length := by omega
    obtain ⟨v, j, hv, hj, hh⟩ := area_l0 l t hl d (i + 1) (by omega)
    have hd : l.drop i = l[i] :: l.drop (i + 1) := List.drop_eq_getElem_cons hi
    cases hb : begB l[i] t with
    | true =>
      refine ⟨l[i], (i : Int), ?_, ?_, .inr ⟨by omega, by omega, (rdS_nat hi).symm, List.getElem_mem hi⟩⟩
      · refine Ev.step (fun k => by rw [spec_plArea.l0]) ?_
        refine Ev.pos (by omega) (Ev.pos (by omega) (Ev.pos (by omega) ?_))
        rw [rdS_nat hi]
        exact Ev.vbind (plBegins_f _ _) (Ev.pos hb (Ev.val rfl))
      · rw [hd, idxO, begins_f, Option.bind_some, if_pos hb]
    | false =>
      refine ⟨v, j, ?_, ?_, hh⟩
      · refine Ev.step (fun k => by rw [spec_plArea.l0]) ?_
        refine Ev.pos (by omega) (Ev.pos (by omega) (Ev.pos (by omega) ?_))
        rw [rdS_nat hi, wrap_nat (by omega)]
        exact Ev.vbind (plBegins_f _ _) (Ev.neg (by rw [hb]; simp) hv)
      · rw [hd, idxO, begins_f, Option.bind_some, if_neg (by rw [hb]; simp)]
        simpa using hj
theorem area_any (l : List ByteArray) (t : ByteArray) (hl : l.length ≤ 1048576) (hp : ∀ c ∈ l, c.size ≠ 0) : ∃ v, Ev (fun k => spec_plArea.f k l t) v ∧ (v.toList != ([] : List UInt8)) = (l.any fun c => begB c t) := by
  obtain ⟨v, j, hv, hj, hh⟩ := area_l0 l t hl l.length 0 (by omega)
  have hany : anyO (fun c => impl_begins.f c t) l = some (l.any fun c => begB c t) := anyO_pure _ _ l (fun c _ => begins_f c t)
  refine ⟨v, by unfold spec_plArea.f; exact hv, ?_⟩
  obtain ⟨j', hj', e'⟩ := idxO_any (fun c => impl_begins.f c t) l 0 (by omega) _ hany
  rw [List.drop_zero] at hj
  have ejj : j' = j := Option.some.inj (hj'.symm.trans hj)
  subst ejj
  rw [← e']
  rcases hh with ⟨hneg, rfl⟩ | ⟨hpos, hlt, hrd, hmem⟩
  · rw [decide_eq_false (by omega), toList_data]; rfl
  · rw [decide_eq_true hpos, bne_iff_ne]
    intro e
    rw [toList_data] at e
    exact hp v hmem (by rw [size_data, e]; rfl)
end Go.Proofs.YtphdlbdmdokfaaaDoor.PA

/-! Joining codes: the key. No condition but bounds. -/
namespace Go.Proofs.YtphdlbdmdokfaaaDoor.PA
open Go.RowKit Go.Proofs.YtphdlbdmdokfaaaDoorW.PrintWords
set_option linter.unusedVariables false

def leftB (l : List ByteArray) (x : ByteArray) : List ByteArray := l.filter fun c => !begB x c
theorem mem_leftB {l : List ByteArray} {x c : ByteArray} : c ∈ leftB l x ↔ c ∈ l ∧ begB x c = false := by unfold leftB; rw [List.mem_filter]; simp
theorem left_len (l : List ByteArray) (x : ByteArray) : (leftB l x).length ≤ l.length := List.length_filter_le _ _
theorem joinP_eq (x : ByteArray) : joinP x = fun c => !begB x c := by
  funext c
  unfold joinP
  rw [begins_f]; rfl
theorem left_take {l : List ByteArray} {x : ByteArray} {i : Nat} (h : i < l.length) : leftB (l.take (i + 1)) x = if begB x l[i] = true then leftB (l.take i) x else leftB (l.take i) x ++ [l[i]] := by
  unfold leftB
  rw [take_succ_get h, List.filter_append]
  cases e : begB x l[i] <;> simp [e]
theorem joinS_l0 (l : List ByteArray) (x : ByteArray) (hl : l.length ≤ 1048576) (hu : Up l) : ∀ (d i : Nat), i + d = l.length → Ev (fun k => spec_JoinCodes.l0 k l x (leftB (l.take i) x) l (l.length : Int) (i : Int)) (if (leftB l x).length = l.length then ([], false) else (insB x (leftB l x), true))
  | 0, i, h => by
    refine Ev.step (fun k => by rw [spec_JoinCodes.l0]) ?_
    have hz := left_len l x
    rw [List.take_of_length_le (by omega)]
    refine Ev.neg (by omega) (Ev.ite (fun e => Ev.val ?_) (fun e => Ev.bind (wdPut_ev _ x (by omega) (List.Pairwise.sublist List.filter_sublist hu)) (Ev.val ?_)))
    · rw [if_pos (by omega)]
    · rw [if_neg (by omega)]
  | d + 1, i, h => by
    have hi : i < l.length := by omega
    have ih := joinS_l0 l x hl hu d (i + 1) (by omega)
    rw [left_take hi] at ih
    have hz := left_len (l.take i) x
    rw [List.length_take] at hz
    refine Ev.step (fun k => by rw [spec_JoinCodes.l0]) ?_
    refine Ev.pos (by omega) (Ev.pos (by omega) (Ev.pos (by omega) ?_))
    rw [rdS_nat hi, wrap_nat (by omega)]
    refine Ev.vbind (plBegins_f _ _) ?_
    cases e : begB x l[i] with
    | true =>
      rw [if_pos e] at ih
      exact Ev.pos rfl ih
    | false =>
      rw [if_neg (by rw [e]; simp)] at ih
      exact Ev.neg (by simp) (Ev.pos (by omega) ih)
theorem joinCodes_key (l : List ByteArray) (x : ByteArray) (h1 : l.length ≤ 1048576) (h2 : ∀ y ∈ l, y.size ≤ 1048576) (hx : x.size ≤ 1048576) :
    ∃ r : List ByteArray × Bool, Ev (fun k => spec_JoinCodes.f k l x) r ∧ Ev (fun k => impl_JoinCodes.f k l x) r ∧ r.1.length ≤ 1048576 := by
  have hg := plGood_ev l h1 h2
  have hi := isCodePlan_ev l h1 h2
  have hc1 := plCode_ev x (by omega)
  have hc2 := isCode_f x (by omega)
  have no : ∀ b, b = true → Ev (fun k => spec_JoinCodes.j0 k l x b) ([], false) := by
    intro b hb
    refine Ev.step (fun k => by rw [spec_JoinCodes.j0]) ?_
    exact Ev.pos hb (Ev.val rfl)
  unfold spec_JoinCodes.f impl_JoinCodes.f
  cases g : goodB l with
  | false =>
    rw [g] at hg hi
    exact ⟨([], false), Ev.bind hg (Ev.neg (by simp) (no _ rfl)), Ev.bind hi (Ev.neg (by simp) (Ev.val rfl)), by simp⟩
  | true =>
    rw [g] at hg hi
    obtain ⟨gc, gu, ga⟩ := good_iff.mp g
    have hlen := good_len g
    have hne : l ≠ [] := fun e => by rw [e] at hlen; simp at hlen
    cases hc : codeB x with
    | false =>
      rw [hc] at hc1 hc2
      exact ⟨([], false), Ev.bind hg (Ev.pos rfl (Ev.bind hc1 (Ev.neg (by simp) (no _ rfl)))), Ev.bind hi (Ev.pos rfl (Ev.pos ⟨hne, h1⟩ (Ev.vbind hc2 (Ev.neg (by simp) (Ev.val rfl))))), by simp⟩
    | true =>
      rw [hc] at hc1 hc2
      obtain ⟨v, hvv, hva⟩ := area_any l x h1 (fun c hcl => by have := code_size (good_code g hcl); omega)
      have hany : anyO (fun c => impl_begins.f c x) l = some (l.any fun c => begB c x) := anyO_pure _ _ l (fun c _ => begins_f c x)
      cases ha : (l.any fun c => begB c x) with
      | true =>
        rw [ha] at hany hva
        exact ⟨([], false), Ev.bind hg (Ev.pos rfl (Ev.bind hc1 (Ev.pos rfl (Ev.bind hvv (no _ hva))))), Ev.bind hi (Ev.pos rfl (Ev.pos ⟨hne, h1⟩ (Ev.vbind hc2 (Ev.pos rfl (Ev.vbind hany (Ev.pos rfl (Ev.val rfl))))))), by simp⟩
      | false =>
        rw [ha] at hany hva
        have hl := left_len l x
        have hjp : l.filter (joinP x) = leftB l x := by rw [joinP_eq]; rfl
        have sp : Ev (fun k => spec_JoinCodes.j0 k l x (v.toList != ([] : List UInt8))) (if (leftB l x).length = l.length then ([], false) else (insB x (leftB l x), true)) := by
          rw [hva]
          refine Ev.step (fun k => by rw [spec_JoinCodes.j0]) ?_
          refine Ev.neg (by simp) ?_
          exact joinS_l0 l x h1 gu l.length 0 (by omega)
        refine ⟨_, Ev.bind hg (Ev.pos rfl (Ev.bind hc1 (Ev.pos rfl (Ev.bind hvv sp)))), Ev.bind hi (Ev.pos rfl (Ev.pos ⟨hne, h1⟩ (Ev.vbind hc2 (Ev.pos rfl (Ev.vbind hany (Ev.neg (by simp) ?_)))))), ?_⟩
        · rw [hjp]
          by_cases hz : (leftB l x).length = l.length
          · rw [if_pos hz]
            exact Ev.pos hz (Ev.val rfl)
          · rw [if_neg hz]
            refine Ev.neg hz ?_
            have hxl : x ∉ leftB l x := fun h => by have := (mem_leftB.mp h).2; rw [begB_self] at this; exact absurd this (by simp)
            have hmk := makeI_ev (leftB l x ++ [x]) (by simp; omega) (fun y hy => by
              rcases List.mem_append.mp hy with hy | hy
              · exact h2 y (mem_leftB.mp hy).1
              · rw [List.mem_singleton.mp hy]; exact hx)
            refine Ev.eq hmk ?_
            have lu : Up (leftB l x) := List.Pairwise.sublist List.filter_sublist gu
            have ep : putAll [] (leftB l x ++ [x]) = insB x (leftB l x) := by
              have := putAll_up lu
              unfold putAll at this ⊢
              rw [List.foldl_append, this]; rfl
            have hiz := len_insB hxl
            have hcc : codesB (leftB l x ++ [x]) = true := by
              unfold codesB
              simp only [Bool.and_eq_true, decide_eq_true_eq, List.all_eq_true, List.length_append, List.length_singleton]
              refine ⟨⟨by omega, by omega⟩, fun y hy => ?_⟩
              rcases List.mem_append.mp hy with hy | hy
              · exact good_code g (mem_leftB.mp hy).1
              · rw [List.mem_singleton.mp hy]; exact hc
            have hap : Apart (insB x (leftB l x)) := by
              intro a haa b hbb hab
              rcases mem_insB.mp haa with rfl | haa
              · rcases mem_insB.mp hbb with rfl | hbb
                · exact absurd rfl hab
                · exact (mem_leftB.mp hbb).2
              · rcases mem_insB.mp hbb with rfl | hbb
                · have := List.any_eq_false.mp ha a (mem_leftB.mp haa).1
                  simpa using this
                · exact ga a (mem_leftB.mp haa).1 b (mem_leftB.mp hbb).1 hab
            have hgg : goodB (insB x (leftB l x)) = true := good_iff.mpr ⟨by rw [codes_perm ((insB_perm hxl).trans (List.perm_append_singleton x _).symm)]; exact hcc, up_insB lu, hap⟩
            unfold planOf
            rw [ep, if_pos ⟨hcc, by rw [hiz]; simp, hgg⟩]
        · split
          · simp
          · have hxl : x ∉ leftB l x := fun h => by have := (mem_leftB.mp h).2; rw [begB_self] at this; exact absurd this (by simp)
            have hiz := len_insB hxl
            show (insB x (leftB l x)).length ≤ _
            omega
end Go.Proofs.YtphdlbdmdokfaaaDoor.PA

/-! The laws' marks: marking a row writes texts that the holder then finds. No condition but bounds. -/
namespace Go.Proofs.YtphdlbdmdokfaaaDoor.PA
open Go.RowKit Go.Proofs.YtphdlbdmdokfaaaDoorW.PrintWords
set_option linter.unusedVariables false

theorem num1_size (z : Int) : (strOfNums [z]).size = 1 := rfl
theorem markText_l0 : ∀ (f n : Nat) (x : ByteArray), n ≤ f → x.size + n ≤ 4611686018427387903 → ∃ t, Ev (fun k => laws_markText.l0 k (n : Int) x) t
  | f, 0, x, _, h => by
    refine ⟨(⟨#[109]⟩ : ByteArray) ++ x, ?_⟩
    refine Ev.step (fun k => by rw [laws_markText.l0]) ?_
    exact Ev.neg (by omega) (Ev.pos (by omega) (Ev.val rfl))
  | 0, n + 1, x, hf, _ => by omega
  | f + 1, n + 1, x, hf, h => by
    have hz : (strOfNums [wrap64 (48 + Int.tmod ((n + 1 : Nat) : Int) 10) % 256] ++ x).size = x.size + 1 := by rw [size_append, num1_size]; omega
    have hd : wrap64 (Int.tdiv ((n + 1 : Nat) : Int) 10) = (((n + 1) / 10 : Nat) : Int) := by
      rw [Int.tdiv_eq_ediv_of_nonneg (by omega), wrap_in (by omega) (by omega)]; omega
    obtain ⟨t, ht⟩ := markText_l0 f ((n + 1) / 10) (strOfNums [wrap64 (48 + Int.tmod ((n + 1 : Nat) : Int) 10) % 256] ++ x) (by omega) (by rw [hz]; omega)
    refine ⟨t, ?_⟩
    refine Ev.step (fun k => by rw [laws_markText.l0]) ?_
    refine Ev.pos (by omega) (Ev.vbind rfl (Ev.pos (by rw [num1_size]; omega) ?_))
    rw [hd]
    exact ht
theorem markText_ex (n : Nat) (hn : n ≤ 1099511627776) : ∃ t, Ev (fun k => laws_markText.f k (n : Int)) t := by
  unfold laws_markText.f
  by_cases h : (n : Int) ≤ 0
  · exact ⟨_, Ev.pos h (Ev.val rfl)⟩
  · obtain ⟨t, ht⟩ := markText_l0 n n ⟨#[]⟩ (Nat.le_refl _) (by show 0 + n ≤ _; omega)
    exact ⟨t, Ev.neg h ht⟩
open Classical in
noncomputable def markT (n : Nat) : ByteArray := if h : ∃ t, Ev (fun k => laws_markText.f k (n : Int)) t then h.choose else ⟨#[]⟩
theorem markT_ev (n : Nat) (hn : n ≤ 1099511627776) : Ev (fun k => laws_markText.f k (n : Int)) (markT n) := by
  have h := markText_ex n hn
  unfold markT
  rw [dif_pos h]
  exact h.choose_spec
/-- the marks of so many places -/
noncomputable def marksT (n m : Nat) : List ByteArray := (List.range m).map (fun j => markT (n + j))
theorem marksT_len (n m : Nat) : (marksT n m).length = m := by simp [marksT]
theorem mark_l0 (n m : Nat) (hn : n + m ≤ 1099511627776) : ∀ (d i : Nat) (x : List ByteArray), i + d = m → x.length = m → x.take i = (marksT n m).take i → Ev (fun k => laws_markStringS.l0 k x ((n + i : Nat) : Int) (i : Int)) (((n + m : Nat) : Int), marksT n m)
  | 0, i, x, h, hx, ht => by
    refine Ev.step (fun k => by rw [laws_markStringS.l0]) ?_
    refine Ev.neg (by omega) (Ev.val ?_)
    rw [List.take_of_length_le (by omega), List.take_of_length_le (by rw [marksT_len]; omega)] at ht
    rw [ht, show n + i = n + m by omega]
  | d + 1, i, x, h, hx, ht => by
    refine Ev.step (fun k => by rw [laws_markStringS.l0]) ?_
    refine Ev.pos (by omega) (Ev.bind (markT_ev (n + i) (by omega)) (Ev.pos (by omega) ?_))
    rw [wrap_nat (by omega), wrap_nat (by omega), Int.toNat_natCast]
    refine mark_l0 n m hn d (i + 1) _ (by omega) (by simpa using hx) ?_
    rw [take_succ_get (by simp; omega), take_succ_get (show i < (marksT n m).length by rw [marksT_len]; omega), List.take_set_of_le (Nat.le_refl _), ht]
    simp [marksT]
theorem markStringS_ev (l : List ByteArray) (n : Nat) (hn : n + l.length ≤ 1099511627776) : Ev (fun k => laws_markStringS.f k l (n : Int)) (((n + l.length : Nat) : Int), marksT n l.length) :=
  mark_l0 n l.length hn l.length 0 l (by omega) rfl (by simp)
theorem held_l0 (n m : Nat) (hn : n + m ≤ 1099511627776) : ∀ (d i : Nat), i + d = m → Ev (fun k => laws_heldStringS.l0 k (marksT n m) ((n + i : Nat) : Int) (i : Int)) ((n + m : Nat) : Int)
  | 0, i, h => by
    refine Ev.step (fun k => by rw [laws_heldStringS.l0]) ?_
    refine Ev.neg (by rw [marksT_len]; omega) (Ev.val ?_)
    rw [show n + i = n + m by omega]
  | d + 1, i, h => by
    refine Ev.step (fun k => by rw [laws_heldStringS.l0]) ?_
    refine Ev.pos (by rw [marksT_len]; omega) (Ev.pos (by omega) (Ev.bind (markT_ev (n + i) (by omega)) ?_))
    rw [rdS_nat (by rw [marksT_len]; omega), wrap_nat (by omega), wrap_nat (by omega)]
    refine Ev.pos (by simp [marksT]) ?_
    exact held_l0 n m hn d (i + 1) (by omega)
theorem heldStringS_ev (n m : Nat) (hn : n + m ≤ 1099511627776) : Ev (fun k => laws_heldStringS.f k (marksT n m) (n : Int)) ((n + m : Nat) : Int) :=
  held_l0 n m hn m 0 (by omega)
end Go.Proofs.YtphdlbdmdokfaaaDoor.PA
