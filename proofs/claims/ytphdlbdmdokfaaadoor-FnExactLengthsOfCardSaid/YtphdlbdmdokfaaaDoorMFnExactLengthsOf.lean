/- The plain facts that the law FnExactLengthsOf's proof leans on, in one text: each part has its own sentence. No condition but bounds. -/
import Derived.Test.YtphdlbdmdokfaaaDoorPAx0
import Derived.Test.YtphdlbdmdokfaaaDoorPAx1
import Derived.Test.YtphdlbdmdokfaaaDoorPAx2
import Derived.Test.YtphdlbdmdokfaaaDoorPAx3
import Derived.Test.YtphdlbdmdokfaaaDoorPAx4
import Derived.Test.YtphdlbdmdokfaaaDoorPAx6
import Derived.Test.YtphdlbdmdokfaaaDoorPAx7
import Derived.Test.YtphdlbdmdokfaaaDoorPAx14
import Derived.Lib.Strings
import Derived.Test.YtphdlbdmdokfaaaDoorWWords
import Derived.Test.YtphdlbdmdokfaaaDoorWMore
import Derived.Test.YtphdlbdmdokfaaaDoorXX
/-! Plain facts that the laws' pure proofs share: answers from some number of rounds on, numbers without wrap, strings as lists of bytes. No condition. -/
namespace Go.Proofs.YtphdlbdmdokfaaaDoor.PA
open Go.RowKit Go.Proofs.YtphdlbdmdokfaaaDoorW.PrintWords
set_option linter.unusedVariables false

theorem Ev.pos {α : Type} {c : Prop} [Decidable c] {a b : Nat → Option α} {r : α} (hc : c) (h : Ev a r) : Ev (fun k => if c then a k else b k) r := Ev.congr (fun k => if_pos hc) h
theorem Ev.neg {α : Type} {c : Prop} [Decidable c] {a b : Nat → Option α} {r : α} (hc : ¬ c) (h : Ev b r) : Ev (fun k => if c then a k else b k) r := Ev.congr (fun k => if_neg hc) h
theorem Ev.ite {α : Type} {c : Prop} [Decidable c] {a b : Nat → Option α} {r : α} (h1 : c → Ev a r) (h2 : ¬ c → Ev b r) : Ev (fun k => if c then a k else b k) r := by
  by_cases hc : c
  · exact Ev.pos hc (h1 hc)
  · exact Ev.neg hc (h2 hc)
theorem Ev.val {α : Type} {o : Option α} {r : α} (h : o = some r) : Ev (fun _ => o) r := ⟨0, fun _ _ => h⟩
theorem Ev.vbind {α β : Type} {o : Option α} {f : Nat → α → Option β} {a : α} {r : β} (h : o = some a) (k : Ev (fun n => f n a) r) : Ev (fun n => o.bind (f n)) r := Ev.bind (g := fun _ => o) (Ev.val h) k
theorem Ev.unique {α : Type} {g : Nat → Option α} {a b : α} (h : Ev g a) (k : Ev g b) : a = b := by
  obtain ⟨K, h⟩ := h
  obtain ⟨K', k⟩ := k
  exact Option.some.inj ((h (max K K') (Nat.le_max_left _ _)).symm.trans (k (max K K') (Nat.le_max_right _ _)))
theorem Ev.eq {α : Type} {g : Nat → Option α} {a b : α} (h : Ev g a) (e : a = b) : Ev g b := e ▸ h

theorem wrap_nat {i : Nat} (h : i < 4611686018427387904) : wrap64 ((i : Int) + 1) = ((i + 1 : Nat) : Int) := by unfold wrap64; omega
theorem wrap_in {n : Int} (h : -9223372036854775808 ≤ n) (h2 : n ≤ 9223372036854775807) : wrap64 n = n := by unfold wrap64; omega
theorem rd_nat {l : List Int} {i : Nat} (h : i < l.length) : rd l (i : Int) = l[i] := by simp [rd, h]
theorem rdS_nat {l : List ByteArray} {i : Nat} (h : i < l.length) : rdOf ByteArray.empty l (i : Int) = l[i] := by simp [rdOf, h]
theorem bt_nat {s : ByteArray} {i : Nat} (h : i < s.size) : bt s (i : Int) = ((s.data.toList[i]'(by simpa using h)).toNat : Int) := by
  unfold bt
  rw [dif_pos (by simpa using h)]
  rfl
theorem toList_data (s : ByteArray) : s.toList = s.data.toList := Go.Lib.toList_data s
theorem size_data (s : ByteArray) : s.size = s.data.toList.length := rfl
theorem ba_ext {a b : ByteArray} (h : a.data.toList = b.data.toList) : a = b := by
  cases a with
  | mk a => cases b with
    | mk b => exact congrArg ByteArray.mk (Array.toList_inj.mp h)
theorem toList_inj {a b : ByteArray} : a.toList = b.toList ↔ a = b := ⟨fun h => ba_ext (by rw [← toList_data, ← toList_data, h]), fun h => by rw [h]⟩
theorem toList_mk (l : List UInt8) : (⟨l.toArray⟩ : ByteArray).toList = l := by rw [toList_data]
theorem data_extract (s : ByteArray) (a b : Nat) : (s.extract a b).data.toList = (s.data.toList.take b).drop a := by
  rw [ByteArray.data_extract, Array.toList_extract, List.extract_eq_take_drop, List.drop_take]
theorem data_append (a b : ByteArray) : (a ++ b).data.toList = a.data.toList ++ b.data.toList := by
  rw [ByteArray.data_append, Array.toList_append]
theorem size_append (a b : ByteArray) : (a ++ b).size = a.size + b.size := by rw [size_data, data_append, List.length_append]; rfl
theorem take_succ_get {α : Type} {l : List α} {i : Nat} (h : i < l.length) : l.take (i + 1) = l.take i ++ [l[i]] := by
  rw [List.take_add_one, List.getElem?_eq_getElem h]; rfl

/-- digits alone -/
def digB (c : UInt8) : Bool := decide (48 ≤ c.toNat) && decide (c.toNat ≤ 57)
def digitsB (s : ByteArray) (lo hi : Int) : Bool := decide (lo ≤ (s.size : Int)) && decide ((s.size : Int) ≤ hi) && s.data.toList.all digB
theorem contains_dig (c : UInt8) : ([48, 49, 50, 51, 52, 53, 54, 55, 56, 57] : List UInt8).contains c = digB c := by
  have h : ∀ n : Fin 256, ([48, 49, 50, 51, 52, 53, 54, 55, 56, 57] : List UInt8).contains (UInt8.ofNat n.val) = digB (UInt8.ofNat n.val) := by decide +kernel
  have := h ⟨c.toNat, c.toNat_lt⟩
  simpa using this
end Go.Proofs.YtphdlbdmdokfaaaDoor.PA

/-! Is a number within bounds: the reference's and the program's own. No condition. -/
namespace Go.Proofs.YtphdlbdmdokfaaaDoor.PA
open Go.RowKit Go.Proofs.YtphdlbdmdokfaaaDoorW.PrintWords
set_option linter.unusedVariables false

theorem l1In_f (a b c : Int) : spec_l1In.f a b c = some (decide (b ≤ a) && decide (a ≤ c)) := by
  unfold spec_l1In.f
  by_cases h : a ≥ b
  · rw [if_pos h]; simp [show b ≤ a from h]
  · rw [if_neg h]; simp [show ¬ b ≤ a from h]
theorem in_f (a b c : Int) : impl_in.f a b c = some (decide (b ≤ a) && decide (a ≤ c)) := by
  unfold impl_in.f
  by_cases h : a ≥ b
  · rw [if_pos h]; simp [show b ≤ a from h]
  · rw [if_neg h]; simp [show ¬ b ≤ a from h]
end Go.Proofs.YtphdlbdmdokfaaaDoor.PA

/-! Texts of digits, as the program asks for them. No condition but bounds of size. -/
namespace Go.Proofs.YtphdlbdmdokfaaaDoor.PA
open Go.RowKit Go.Proofs.YtphdlbdmdokfaaaDoorW.PrintWords
set_option linter.unusedVariables false

theorem over_digits (s : ByteArray) (hs : s.size ≤ 140737488355328) : impl_over.f s (⟨#[48, 49, 50, 51, 52, 53, 54, 55, 56, 57]⟩ : ByteArray) = some (s.data.toList.all digB) := by
  unfold impl_over.f
  rw [if_pos ⟨hs, by decide, by decide⟩]
  congr 1
  exact congrArg (fun f => s.data.toList.all f) (funext contains_dig)
theorem isDigits_f (s : ByteArray) (lo hi : Int) (hs : s.size ≤ 140737488355328) : impl_isDigits.f s lo hi = some (digitsB s lo hi) := by
  unfold impl_isDigits.f digitsB
  rw [in_f, Option.bind_some]
  cases decide (lo ≤ (s.size : Int)) && decide ((s.size : Int) ≤ hi) with
  | true => rw [if_pos rfl, over_digits s hs]; simp
  | false => rw [if_neg (by simp)]; simp
end Go.Proofs.YtphdlbdmdokfaaaDoor.PA

/-! Texts of digits, as the reference and the program ask for them: one Bool for both. No condition but bounds of size. -/
namespace Go.Proofs.YtphdlbdmdokfaaaDoor.PA
open Go.RowKit Go.Proofs.YtphdlbdmdokfaaaDoorW.PrintWords
set_option linter.unusedVariables false

theorem piDigits_l0 (s : ByteArray) (hs : s.size ≤ 4611686018427387903) : ∀ (d i : Nat), i + d = s.size → Ev (fun k => spec_piDigits.l0 k s (i : Int)) ((s.data.toList.drop i).all digB)
  | 0, i, h => by
    refine Ev.step (fun k => rfl) (Ev.neg (by omega) (Ev.val ?_))
    rw [List.drop_of_length_le (by rw [← size_data]; omega)]; rfl
  | d + 1, i, h => by
    have hi : i < s.data.toList.length := by rw [← size_data]; omega
    refine Ev.step (fun k => rfl) (Ev.pos (by omega) (Ev.pos (by omega) ?_))
    rw [bt_nat (by omega), List.drop_eq_getElem_cons hi, List.all_cons, wrap_nat (by omega)]
    unfold digB
    refine Ev.ite (fun e => Ev.val ?_) (fun e => Ev.ite (fun e2 => Ev.val ?_) (fun e2 => ?_))
    · simp only [show ¬ 48 ≤ (s.data.toList[i]).toNat by omega, decide_false, Bool.false_and]
    · simp only [show ¬ (s.data.toList[i]).toNat ≤ 57 by omega, decide_false, Bool.and_false, Bool.false_and]
    · simp only [show 48 ≤ (s.data.toList[i]).toNat by omega, show (s.data.toList[i]).toNat ≤ 57 by omega, decide_true, Bool.true_and]
      exact piDigits_l0 s hs d (i + 1) (by omega)
theorem piDigits_ev (s : ByteArray) (lo hi : Int) (hs : s.size ≤ 4611686018427387903) : Ev (fun k => spec_piDigits.f k s lo hi) (digitsB s lo hi) := by
  unfold spec_piDigits.f digitsB
  refine Ev.vbind (l1In_f _ _ _) ?_
  cases decide (lo ≤ (s.size : Int)) && decide ((s.size : Int) ≤ hi) with
  | true => exact Ev.pos rfl (by simpa using piDigits_l0 s hs s.size 0 (by omega))
  | false => exact Ev.neg (by simp) (Ev.val (by simp))
end Go.Proofs.YtphdlbdmdokfaaaDoor.PA

/-! The laws' own helpers over lists of texts: copying keeps them, sizes are counted, equality is equality. No condition but bounds. -/
namespace Go.Proofs.YtphdlbdmdokfaaaDoor.PA
open Go.RowKit Go.Proofs.YtphdlbdmdokfaaaDoorW.PrintWords
set_option linter.unusedVariables false

theorem toStringS_l0 (l : List ByteArray) (hl : l.length ≤ 4611686018427387903) : ∀ (d i : Nat) (x : List ByteArray), i + d = l.length → x.length = l.length → x.take i = l.take i → Ev (fun k => laws_toStringS.l0 k l x (i : Int)) l
  | 0, i, x, h, hx, ht => by
    refine Ev.step (fun k => rfl) ?_
    refine Ev.neg (by omega) (Ev.val ?_)
    rw [List.take_of_length_le (by omega), List.take_of_length_le (by omega)] at ht
    rw [ht]
  | d + 1, i, x, h, hx, ht => by
    refine Ev.step (fun k => rfl) ?_
    refine Ev.pos (by omega) (Ev.pos (by omega) (Ev.pos (by omega) ?_))
    rw [rdS_nat (show i < l.length by omega), wrap_nat (by omega), Int.toNat_natCast]
    refine toStringS_l0 l hl d (i + 1) _ (by omega) (by simpa using hx) ?_
    rw [take_succ_get (by simp; omega), take_succ_get (show i < l.length by omega), List.take_set_of_le (Nat.le_refl _), ht]
    simp
theorem toStringS_ev {l : List ByteArray} (hl : l.length ≤ 17592186044416) : Ev (fun k => laws_toStringS.f k l) l := by
  unfold laws_toStringS.f
  refine Ev.pos (by omega) (Ev.pos (by omega) ?_)
  exact toStringS_l0 l (by omega) l.length 0 _ (by omega) (by simp) (by simp)

theorem eqStringS_l0 (a b : List ByteArray) (hab : a.length = b.length) (hl : a.length ≤ 4611686018427387903) : ∀ (d i : Nat), i + d = a.length → a.take i = b.take i → Ev (fun k => laws_eqStringS.l0 k a b (i : Int)) (decide (a = b))
  | 0, i, h, ht => by
    refine Ev.step (fun k => rfl) ?_
    refine Ev.neg (by omega) (Ev.val ?_)
    rw [List.take_of_length_le (by omega), List.take_of_length_le (by omega)] at ht
    simp [ht]
  | d + 1, i, h, ht => by
    refine Ev.step (fun k => rfl) ?_
    refine Ev.pos (by omega) (Ev.pos (by omega) (Ev.pos (by omega) ?_))
    rw [rdS_nat (show i < a.length by omega), rdS_nat (show i < b.length by omega), wrap_nat (by omega)]
    refine Ev.ite (fun e => ?_) (fun e => Ev.val ?_)
    · refine eqStringS_l0 a b hab hl d (i + 1) (by omega) ?_
      rw [take_succ_get (by omega), take_succ_get (by omega), ht, toList_inj.mp e]
    · have : ¬ a = b := fun e2 => e (by subst e2; rfl)
      simp [this]
theorem eqStringS_ev {a b : List ByteArray} (hl : a.length ≤ 4611686018427387903) : Ev (fun k => laws_eqStringS.f k a b) (decide (a = b)) := by
  unfold laws_eqStringS.f
  refine Ev.ite (fun e => ?_) (fun e => Ev.val ?_)
  · exact eqStringS_l0 a b (by omega) hl a.length 0 (by omega) (by simp)
  · have : ¬ a = b := fun e2 => e (by rw [e2])
    simp [this]

theorem szStringS_l0 (l : List ByteArray) (hl : l.length ≤ 1048576) (hs : ∀ y ∈ l, y.size ≤ maxLen) : ∀ (d i : Nat) (x : Int), i + d = l.length → 0 ≤ x → x ≤ 1048576 → (∀ y ∈ l.take i, y.size ≤ 1048576) →
    ∃ v, Ev (fun k => laws_szStringS.l0 k l x (i : Int)) v ∧ (v < 0 ∨ ∀ y ∈ l, y.size ≤ 1048576)
  | 0, i, x, h, h0, hx, ht => by
    refine ⟨x, Ev.step (fun k => rfl) (Ev.neg (by omega) (Ev.val rfl)), .inr ?_⟩
    rwa [List.take_of_length_le (by omega)] at ht
  | d + 1, i, x, h, h0, hx, ht => by
    have hi : i < l.length := by omega
    have hm := hs l[i] (List.getElem_mem hi)
    unfold maxLen at hm
    by_cases e : wrap64 (x - (l[i].size : Int)) < 0
    · refine ⟨-1, Ev.step (fun k => rfl) (Ev.pos (by omega) (Ev.pos (by omega) ?_)), .inl (by omega)⟩
      rw [rdS_nat hi]
      exact Ev.pos e (Ev.val rfl)
    · have hw : wrap64 (x - (l[i].size : Int)) = x - (l[i].size : Int) := wrap_in (by omega) (by omega)
      obtain ⟨v, hv, hp⟩ := szStringS_l0 l hl hs d (i + 1) (x - (l[i].size : Int)) (by omega) (by omega) (by omega) (by
        rw [take_succ_get hi]
        intro y hy
        rcases List.mem_append.mp hy with hy | hy
        · exact ht y hy
        · rw [List.mem_singleton.mp hy]; omega)
      refine ⟨v, Ev.step (fun k => rfl) (Ev.pos (by omega) (Ev.pos (by omega) ?_)), hp⟩
      rw [rdS_nat hi, wrap_nat (by omega)]
      refine Ev.neg e ?_
      rw [hw]
      exact hv
theorem szStringS_ev {l : List ByteArray} (hl : l.length ≤ maxLen) (hs : ∀ y ∈ l, y.size ≤ maxLen) : ∃ v, Ev (fun k => laws_szStringS.f k l 1048576) v ∧ (v < 0 ∨ (l.length ≤ 1048576 ∧ ∀ y ∈ l, y.size ≤ 1048576)) := by
  unfold maxLen at hl
  by_cases e : wrap64 (1048576 - (l.length : Int)) < 0
  · exact ⟨-1, by unfold laws_szStringS.f; exact Ev.pos e (Ev.val rfl), .inl (by omega)⟩
  · have hw : wrap64 (1048576 - (l.length : Int)) = 1048576 - (l.length : Int) := wrap_in (by omega) (by omega)
    rw [hw] at e
    obtain ⟨v, hv, hp⟩ := szStringS_l0 l (by omega) hs l.length 0 (1048576 - (l.length : Int)) (by omega) (by omega) (by omega) (by simp)
    refine ⟨v, ?_, hp.imp id (fun h => ⟨by omega, h⟩)⟩
    unfold laws_szStringS.f
    rw [hw]
    exact Ev.neg e hv
end Go.Proofs.YtphdlbdmdokfaaaDoor.PA

/-! Plans: the reference and the program ask for the same. No condition but bounds of size. -/
namespace Go.Proofs.YtphdlbdmdokfaaaDoor.PA
open Go.RowKit Go.Proofs.YtphdlbdmdokfaaaDoorW.PrintWords
set_option linter.unusedVariables false

def codeB (s : ByteArray) : Bool := digitsB s 1 6
theorem plCode_ev (s : ByteArray) (hs : s.size ≤ 4611686018427387903) : Ev (fun k => spec_plCode.f k s) (codeB s) := by
  unfold spec_plCode.f
  exact Ev.bind (piDigits_ev s 1 6 hs) (Ev.val rfl)
theorem isCode_f (s : ByteArray) (hs : s.size ≤ 140737488355328) : impl_isCode.f s = some (codeB s) := by
  unfold impl_isCode.f
  rw [isDigits_f s 1 6 hs]; rfl

/-- does a code begin a text -/
def begB (c t : ByteArray) : Bool := c.data.toList.isPrefixOf t.data.toList
theorem prefix_take (c t : List UInt8) : (decide (c.length ≤ t.length) && (t.take c.length == c)) = c.isPrefixOf t := by
  induction c generalizing t with
  | nil => simp
  | cons a c ih =>
    cases t with
    | nil => simp
    | cons b t =>
      simp only [List.length_cons, List.take_succ_cons, List.isPrefixOf_cons_cons, ← ih t]
      have hs : (b == a) = (a == b) := Bool.beq_comm
      by_cases h : c.length ≤ t.length <;> simp [h, hs]
theorem plBegins_f (c t : ByteArray) : spec_plBegins.f c t = some (begB c t) := by
  unfold spec_plBegins.f begB
  rw [← prefix_take]
  by_cases h : (c.size : Int) ≤ (t.size : Int)
  · rw [if_pos h, if_pos (by omega), Int.toNat_natCast, toList_data, toList_data, data_extract, List.drop_zero, ← size_data, ← size_data]
    simp [show c.size ≤ t.size by omega]
  · rw [if_neg h, ← size_data, ← size_data]
    simp [show ¬ c.size ≤ t.size by omega]
theorem hasPrefix_f (t c : ByteArray) : strings_HasPrefix.f t c = some (begB c t) := by
  unfold strings_HasPrefix.f stringslite_HasPrefix.f begB
  rw [← prefix_take]
  by_cases h : (t.size : Int) ≥ (c.size : Int)
  · rw [if_pos h, if_pos (by omega), if_pos (by omega), Int.toNat_natCast, toList_data, toList_data, data_extract, List.drop_zero, ← size_data, ← size_data]
    simp [show c.size ≤ t.size by omega]
  · rw [if_neg h, ← size_data, ← size_data]
    simp [show ¬ c.size ≤ t.size by omega]
theorem begins_f (c t : ByteArray) : impl_begins.f c t = some (begB c t) := by
  unfold impl_begins.f
  rw [hasPrefix_f]; rfl

def lessB (a b : ByteArray) : Bool := Op.bytesLess a.toList b.toList
def stepB (a b : ByteArray) : Bool := lessB a b && !begB a b
def chainB : List ByteArray → Bool
  | a :: b :: r => stepB a b && chainB (b :: r)
  | _ => true
/-- a plan -/
def goodB (l : List ByteArray) : Bool := decide (1 ≤ (l.length : Int)) && decide ((l.length : Int) ≤ 20) && l.all codeB && chainB l

section
variable (l : List ByteArray) (hl : l.length ≤ 1048576) (hs : ∀ y ∈ l, y.size ≤ 1048576)
include hl hs
theorem plCodes_l0 : ∀ (d i : Nat), i + d = l.length → Ev (fun k => spec_plCodes.l0 k l (l.length : Int) (i : Int)) ((l.drop i).all codeB)
  | 0, i, h => by
    refine Ev.step (fun k => rfl) (Ev.neg (by omega) (Ev.val ?_))
    rw [List.drop_of_length_le (by omega)]; rfl
  | d + 1, i, h => by
    have hi : i < l.length := by omega
    have hy := hs l[i] (List.getElem_mem hi)
    refine Ev.step (fun k => rfl) (Ev.pos (by omega) (Ev.pos (by omega) (Ev.pos (by omega) ?_)))
    rw [rdS_nat hi, wrap_nat (by omega), List.drop_eq_getElem_cons hi, List.all_cons]
    refine Ev.bind (plCode_ev _ (by omega)) ?_
    cases codeB l[i] with
    | true => exact Ev.pos rfl (by simpa using plCodes_l0 d (i + 1) (by omega))
    | false => exact Ev.neg (by simp) (Ev.val (by simp))
theorem plCodes_ev : Ev (fun k => spec_plCodes.f k l) (decide (1 ≤ (l.length : Int)) && decide ((l.length : Int) ≤ 20) && l.all codeB) := by
  unfold spec_plCodes.f
  refine Ev.vbind (l1In_f _ _ _) ?_
  cases decide (1 ≤ (l.length : Int)) && decide ((l.length : Int) ≤ 20) with
  | true => exact Ev.pos rfl (by simpa using plCodes_l0 l hl hs l.length 0 (by omega))
  | false => exact Ev.neg (by simp) (Ev.val (by simp))
omit hs in
theorem plGood_l0 : ∀ (d i : Nat), i + d = l.length → 1 ≤ i → Ev (fun k => spec_plGood.l0 k l (i : Int)) (chainB (l.drop (i - 1)))
  | 0, i, h, h1 => by
    refine Ev.step (fun k => rfl) (Ev.neg (by omega) (Ev.val ?_))
    rcases Nat.lt_or_ge (i - 1) l.length with hlt | hge
    · rw [List.drop_eq_getElem_cons hlt, List.drop_of_length_le (by omega)]; rfl
    · rw [List.drop_of_length_le hge]; rfl
  | d + 1, i, h, h1 => by
    have hi : i < l.length := by omega
    have hj : wrap64 ((i : Int) - 1) = ((i - 1 : Nat) : Int) := by rw [wrap_in (by omega) (by omega)]; omega
    refine Ev.step (fun k => rfl) (Ev.pos (by omega) ?_)
    rw [hj]
    refine Ev.pos (by omega) (Ev.pos (by omega) (Ev.pos (by omega) ?_))
    rw [rdS_nat hi, rdS_nat (show i - 1 < l.length by omega), wrap_nat (by omega)]
    rw [List.drop_eq_getElem_cons (show i - 1 < l.length by omega), show i - 1 + 1 = i by omega, List.drop_eq_getElem_cons hi]
    show Ev _ (stepB l[i - 1] l[i] && chainB (l[i] :: l.drop (i + 1)))
    unfold stepB lessB
    refine Ev.ite (fun e => ?_) (fun e => Ev.val ?_)
    · rw [e, Bool.true_and]
      refine Ev.vbind (plBegins_f _ _) ?_
      cases begB l[i - 1] l[i] with
      | true => exact Ev.pos rfl (Ev.val rfl)
      | false =>
        refine Ev.neg (by simp) ?_
        have := plGood_l0 d (i + 1) (by omega) (by omega)
        rw [show i + 1 - 1 = i by omega, List.drop_eq_getElem_cons hi] at this
        simpa using this
    · simp [show Op.bytesLess l[i - 1].toList l[i].toList = false by simpa using e]
theorem plGood_ev : Ev (fun k => spec_plGood.f k l) (goodB l) := by
  unfold spec_plGood.f goodB
  refine Ev.bind (plCodes_ev l hl hs) ?_
  cases hc : decide (1 ≤ (l.length : Int)) && decide ((l.length : Int) ≤ 20) && l.all codeB with
  | true =>
    have h1 : 1 ≤ l.length := by
      cases h : decide (1 ≤ (l.length : Int)) with
      | true => have := of_decide_eq_true h; omega
      | false => rw [h] at hc; simp at hc
    exact Ev.pos rfl (by simpa using plGood_l0 l hl (l.length - 1) 1 (by omega) (by omega))
  | false => exact Ev.neg (by simp) (Ev.val (by simp))
end
section
variable (l : List ByteArray) (hl : l.length ≤ 1048577) (hs : ∀ y ∈ l, y.size ≤ 1048576)
include hl hs
theorem isCodePlan_l0 : ∀ (d i : Nat), i + d = l.length → Ev (fun k => impl_IsCodePlan.l0 k l l (l.length : Int) (i : Int)) ((l.drop i).all codeB && chainB (l.drop (i - 1)) && (decide (1 ≤ (l.length : Int)) && decide ((l.length : Int) ≤ 20)))
  | 0, i, h => by
    refine Ev.step (fun k => rfl) (Ev.neg (by omega) (Ev.val ?_))
    rw [in_f, Option.bind_some, List.drop_of_length_le (l := l) (i := i) (by omega)]
    congr 1
    rcases Nat.lt_or_ge (i - 1) l.length with hlt | hge
    · rw [List.drop_eq_getElem_cons hlt, List.drop_of_length_le (by omega)]; simp [chainB]
    · rw [List.drop_of_length_le hge]; simp [chainB]
  | d + 1, i, h => by
    have hi : i < l.length := by omega
    have hy := hs l[i] (List.getElem_mem hi)
    refine Ev.step (fun k => rfl) (Ev.pos (by omega) (Ev.pos (by omega) (Ev.pos (by omega) ?_)))
    have ih := isCodePlan_l0 d (i + 1) (by omega)
    rw [show i + 1 - 1 = i by omega] at ih
    rw [rdS_nat hi, wrap_nat (by omega)]
    refine Ev.vbind (isCode_f _ (by omega)) ?_
    rw [show (l.drop i).all codeB = (codeB l[i] && (l.drop (i + 1)).all codeB) by rw [List.drop_eq_getElem_cons hi, List.all_cons]]
    cases codeB l[i] with
    | false => exact Ev.neg (by simp) (Ev.val (by simp))
    | true =>
      refine Ev.pos rfl ?_
      rw [Bool.true_and]
      refine Ev.ite (fun e => ?_) (fun e => ?_)
      · have hj : wrap64 ((i : Int) - 1) = ((i - 1 : Nat) : Int) := by rw [wrap_in (by omega) (by omega)]; omega
        rw [hj]
        refine Ev.pos (by omega) (Ev.pos (by omega) ?_)
        rw [rdS_nat (show i - 1 < l.length by omega)]
        rw [show chainB (l.drop (i - 1)) = (stepB l[i - 1] l[i] && chainB (l.drop i)) by
          rw [List.drop_eq_getElem_cons (show i - 1 < l.length by omega), show i - 1 + 1 = i by omega, List.drop_eq_getElem_cons hi]; rfl]
        unfold stepB lessB
        refine Ev.ite (fun e => ?_) (fun e => Ev.val ?_)
        · rw [e, Bool.true_and]
          refine Ev.vbind (begins_f _ _) ?_
          cases begB l[i - 1] l[i] with
          | true => exact Ev.pos rfl (Ev.val (by simp))
          | false => exact Ev.neg (by simp) (by simpa using ih)
        · simp [show Op.bytesLess l[i - 1].toList l[i].toList = false by simpa using e]
      · have : i = 0 := by omega
        subst this
        simpa using ih
theorem isCodePlan_ev2 : Ev (fun k => impl_IsCodePlan.f k l) (goodB l) := by
  unfold impl_IsCodePlan.f
  refine Ev.eq (isCodePlan_l0 l hl hs l.length 0 (by omega)) ?_
  unfold goodB
  simp only [List.drop_zero, Nat.zero_sub]
  cases l.all codeB <;> cases chainB l <;> simp
end
theorem isCodePlan_ev (l : List ByteArray) (hl : l.length ≤ 1048576) (hs : ∀ y ∈ l, y.size ≤ 1048576) : Ev (fun k => impl_IsCodePlan.f k l) (goodB l) := isCodePlan_ev2 l (by omega) hs
end Go.Proofs.YtphdlbdmdokfaaaDoor.PA

/-! Is a text among a list's: the reference and the program answer the same. No condition but bounds. -/
namespace Go.Proofs.YtphdlbdmdokfaaaDoor.PA
open Go.RowKit Go.Proofs.YtphdlbdmdokfaaaDoorW.PrintWords
set_option linter.unusedVariables false

def hasB (c : ByteArray) (l : List ByteArray) : Bool := l.any (fun x => decide (c = x))
theorem hasB_iff {c : ByteArray} {l : List ByteArray} : hasB c l = true ↔ c ∈ l := by
  unfold hasB
  rw [List.any_eq_true]
  exact ⟨fun ⟨x, hx, e⟩ => (of_decide_eq_true e) ▸ hx, fun h => ⟨c, h, decide_eq_true rfl⟩⟩
theorem hasB_cons (c x : ByteArray) (r : List ByteArray) : hasB c (x :: r) = (decide (c = x) || hasB c r) := rfl
theorem hasS_l0 (l : List ByteArray) (c : ByteArray) (hl : l.length ≤ 1048576) : ∀ (d i : Nat), i + d = l.length → Ev (fun k => spec_l1HasS.l0 k c l (l.length : Int) (i : Int)) (hasB c (l.drop i))
  | 0, i, h => by
    refine Ev.step (fun k => by rw [spec_l1HasS.l0]) ?_
    refine Ev.neg (by omega) (Ev.val ?_)
    rw [List.drop_of_length_le (by omega)]; rfl
  | d + 1, i, h => by
    have hi : i < l.length := by omega
    refine Ev.step (fun k => by rw [spec_l1HasS.l0]) ?_
    refine Ev.pos (by omega) (Ev.pos (by omega) (Ev.pos (by omega) ?_))
    rw [rdS_nat hi, wrap_nat (by omega), List.drop_eq_getElem_cons hi, hasB_cons]
    refine Ev.ite (fun e => Ev.val ?_) (fun e => ?_)
    · rw [decide_eq_true (toList_inj.mp e).symm, Bool.true_or]
    · have hne : ¬ c = l[i] := fun h => e (by rw [h])
      have ih := hasS_l0 l c hl d (i + 1) (by omega)
      refine Ev.eq ih ?_
      rw [decide_eq_false hne, Bool.false_or]
theorem hasS_ev (l : List ByteArray) (c : ByteArray) (hl : l.length ≤ 1048576) : Ev (fun k => spec_l1HasS.f k l c) (hasB c l) := by
  have := hasS_l0 l c hl l.length 0 (by omega)
  simpa [spec_l1HasS.f] using this
theorem indexS_l0 (l : List ByteArray) (c : ByteArray) (hl : l.length ≤ 1048576) : ∀ (d i : Nat), i + d = l.length → ∃ v, Ev (fun k => slices_Index_string_string.l0 k l c (l.length : Int) (i : Int)) v ∧ decide (v ≥ 0) = hasB c (l.drop i)
  | 0, i, h => by
    refine ⟨-1, ?_, ?_⟩
    · refine Ev.step (fun k => by rw [slices_Index_string_string.l0]) ?_
      exact Ev.neg (by omega) (Ev.val rfl)
    · rw [List.drop_of_length_le (by omega)]; rfl
  | d + 1, i, h => by
    have hi : i < l.length := by omega
    by_cases e : c.toList = l[i].toList
    · refine ⟨(i : Int), ?_, ?_⟩
      · refine Ev.step (fun k => by rw [slices_Index_string_string.l0]) ?_
        refine Ev.pos (by omega) (Ev.pos (by omega) (Ev.pos (by omega) ?_))
        rw [rdS_nat hi]
        exact Ev.pos e (Ev.val rfl)
      · rw [List.drop_eq_getElem_cons hi, hasB_cons, decide_eq_true (toList_inj.mp e), Bool.true_or]; exact decide_eq_true (by omega)
    · have hne : ¬ c = l[i] := fun h => e (by rw [h])
      obtain ⟨v, hv, hd⟩ := indexS_l0 l c hl d (i + 1) (by omega)
      refine ⟨v, ?_, ?_⟩
      · refine Ev.step (fun k => by rw [slices_Index_string_string.l0]) ?_
        refine Ev.pos (by omega) (Ev.pos (by omega) (Ev.pos (by omega) ?_))
        rw [rdS_nat hi, wrap_nat (by omega)]
        exact Ev.neg e hv
      · rw [hd, List.drop_eq_getElem_cons hi, hasB_cons, decide_eq_false hne, Bool.false_or]
theorem containsS_ev (l : List ByteArray) (c : ByteArray) (hl : l.length ≤ 1048576) : Ev (fun k => slices_Contains_string_string.f k l c) (hasB c l) := by
  obtain ⟨v, hv, hd⟩ := indexS_l0 l c hl l.length 0 (by omega)
  unfold slices_Contains_string_string.f slices_Index_string_string.f
  refine Ev.bind hv (Ev.val ?_)
  rw [hd, List.drop_zero]
theorem code_size {s : ByteArray} (h : codeB s = true) : 1 ≤ s.size ∧ s.size ≤ 6 := by
  unfold codeB digitsB at h
  simp at h
  omega
theorem good_code {l : List ByteArray} (h : goodB l = true) {c : ByteArray} (hc : c ∈ l) : codeB c = true := by
  unfold goodB at h
  simp only [Bool.and_eq_true, List.all_eq_true] at h
  exact h.1.2 c hc
theorem good_len {l : List ByteArray} (h : goodB l = true) : 1 ≤ l.length ∧ l.length ≤ 20 := by
  unfold goodB at h
  simp at h
  omega
end Go.Proofs.YtphdlbdmdokfaaaDoor.PA

/-! The lengths of a plan's codes, in order: the reference counts them up, the program sorts. No condition but bounds. -/
namespace Go.Proofs.YtphdlbdmdokfaaaDoor.PA
open Go.RowKit Go.Proofs.YtphdlbdmdokfaaaDoorW.PrintWords
set_option linter.unusedVariables false

/-- those of a list that are 1, then those that are 2, .. -/
def upTo (l : List Int) : Nat → List Int
  | 0 => []
  | j + 1 => upTo l j ++ l.filter fun n => decide (n = (j + 1 : Int))
theorem mem_upTo {l : List Int} {n : Int} : ∀ {j : Nat}, n ∈ upTo l j ↔ n ∈ l ∧ 1 ≤ n ∧ n ≤ j
  | 0 => by simp [upTo]; omega
  | j + 1 => by
    rw [upTo, List.mem_append, mem_upTo, List.mem_filter, decide_eq_true_iff]
    constructor
    · rintro (⟨h1, h2, h3⟩ | ⟨h1, h2⟩)
      · exact ⟨h1, h2, by omega⟩
      · exact ⟨h1, by omega, by omega⟩
    · rintro ⟨h1, h2, h3⟩
      by_cases e : n = (j + 1 : Int)
      · exact .inr ⟨h1, e⟩
      · exact .inl ⟨h1, h2, by omega⟩
theorem upTo_up (l : List Int) : ∀ j : Nat, (upTo l j).Pairwise (· ≤ ·)
  | 0 => List.Pairwise.nil
  | j + 1 => by
    rw [upTo, List.pairwise_append]
    refine ⟨upTo_up l j, List.pairwise_iff_getElem.mpr (fun a b ha hb _ => ?_), fun a ha b hb => ?_⟩
    · have h1 := of_decide_eq_true (List.mem_filter.mp (List.getElem_mem ha)).2
      have h2 := of_decide_eq_true (List.mem_filter.mp (List.getElem_mem hb)).2
      omega
    · rw [List.mem_filter, decide_eq_true_iff] at hb
      have := (mem_upTo.mp ha).2.2
      omega
theorem upTo_count (l : List Int) (a : Int) : ∀ j : Nat, (upTo l j).count a = if 1 ≤ a ∧ a ≤ j then l.count a else 0
  | 0 => by
    rw [if_neg (by omega)]; rfl
  | j + 1 => by
    rw [upTo, List.count_append, upTo_count l a j]
    by_cases e : a = (j + 1 : Int)
    · rw [List.count_filter (by simpa using e), if_neg (by omega), if_pos (by omega)]; omega
    · rw [List.count_eq_zero_of_not_mem (l := l.filter _) (fun h => e (by rw [List.mem_filter, decide_eq_true_iff] at h; exact h.2))]
      by_cases h : 1 ≤ a ∧ a ≤ j
      · rw [if_pos h, if_pos (by omega)]; rfl
      · rw [if_neg h, if_neg (by omega)]
theorem upTo_perm {l : List Int} {j : Nat} (h : ∀ n ∈ l, 1 ≤ n ∧ n ≤ (j : Int)) : (upTo l j).Perm l := by
  rw [List.perm_iff_count]
  intro a
  rw [upTo_count]
  by_cases ha : a ∈ l
  · rw [if_pos (h a ha)]
  · rw [List.count_eq_zero_of_not_mem ha, ite_self]
theorem upTo_sort {l : List Int} {j : Nat} (h : ∀ n ∈ l, 1 ≤ n ∧ n ≤ (j : Int)) : upTo l j = l.mergeSort fun x y => decide (x ≤ y) := by
  have h1 := List.pairwise_mergeSort (le := fun (x y : Int) => decide (x ≤ y)) (fun a b c h1 h2 => by
      simp only [decide_eq_true_eq] at h1 h2 ⊢; omega) (fun a b => by
      simp only [Bool.or_eq_true, decide_eq_true_eq]; omega) l
  refine List.Perm.eq_of_pairwise (le := fun a b => a ≤ b) (fun a b _ _ e1 e2 => by omega) (upTo_up l j) (h1.imp (fun hab => of_decide_eq_true hab)) ?_
  exact (upTo_perm h).trans (List.mergeSort_perm l _).symm
theorem upTo_len (l : List Int) : ∀ j : Nat, (upTo l j).length ≤ j * l.length
  | 0 => Nat.zero_le _
  | j + 1 => by
    have := upTo_len l j
    have h2 := List.length_filter_le (fun n => decide (n = (j + 1 : Int))) l
    rw [upTo, List.length_append, Nat.add_mul]; omega
mutual
theorem sorted_l0 (l : List Int) (hl : l.length ≤ 1048576) : ∀ (m j : Nat), j + m = 6 → Ev (fun k => spec_plSorted.l0 k l (upTo l j) ((j + 1 : Nat) : Int)) (upTo l 6)
  | 0, j, h => by
    refine Ev.step (fun k => by rw [spec_plSorted.l0]) ?_
    refine Ev.neg (by omega) (Ev.val ?_)
    rw [show j = 6 by omega]
  | m + 1, j, h => by
    refine Ev.step (fun k => by rw [spec_plSorted.l0]) ?_
    refine Ev.pos (by omega) ?_
    have := sorted_l1 l hl m j h l.length 0 (by omega)
    simpa using this
theorem sorted_l1 (l : List Int) (hl : l.length ≤ 1048576) : ∀ (m j : Nat), j + (m + 1) = 6 → ∀ (d i : Nat), i + d = l.length → Ev (fun k => spec_plSorted.l1 k l (upTo l j ++ (l.take i).filter fun n => decide (n = (j + 1 : Int))) ((j + 1 : Nat) : Int) l (l.length : Int) (i : Int)) (upTo l 6)
  | m, j, h, 0, i, hi => by
    refine Ev.step (fun k => by rw [spec_plSorted.l1]) ?_
    refine Ev.neg (by omega) ?_
    rw [List.take_of_length_le (by omega), wrap_nat (by omega)]
    exact sorted_l0 l hl m (j + 1) (by omega)
  | m, j, h, d + 1, i, hi => by
    have hlt : i < l.length := by omega
    have ih := sorted_l1 l hl m j h d (i + 1) (by omega)
    rw [take_succ_get hlt, List.filter_append] at ih
    have z1 := upTo_len l j
    have z2 := List.length_filter_le (fun n => decide (n = (j + 1 : Int))) (l.take i)
    rw [List.length_take] at z2
    have z3 : j * l.length ≤ 6 * l.length := Nat.mul_le_mul_right _ (by omega)
    refine Ev.step (fun k => by rw [spec_plSorted.l1]) ?_
    refine Ev.pos (by omega) (Ev.pos (by omega) (Ev.pos (by omega) ?_))
    rw [rd_nat hlt, wrap_nat (by omega)]
    by_cases e : l[i] = ((j + 1 : Nat) : Int)
    · refine Ev.pos e (Ev.pos (by rw [List.length_append]; omega) ?_)
      have e2 : decide (l[i] = (j + 1 : Int)) = true := decide_eq_true (by omega)
      simp only [List.filter_cons, e2, List.filter_nil, if_true] at ih
      rw [List.append_assoc]
      exact ih
    · refine Ev.neg e ?_
      have e2 : decide (l[i] = (j + 1 : Int)) = false := decide_eq_false (by omega)
      simp only [List.filter_cons, e2, List.filter_nil, Bool.false_eq_true, if_false, List.append_nil] at ih
      exact ih
end
theorem plSorted_ev (l : List Int) (hl : l.length ≤ 1048576) : Ev (fun k => spec_plSorted.f k l) (upTo l 6) := sorted_l0 l hl 6 0 (by omega)
theorem lensS_l0 (l : List ByteArray) (hl : l.length ≤ 1048576) : ∀ (d i : Nat), i + d = l.length → Ev (fun k => spec_LengthsOf.l0 k (lensT (l.take i)) l (l.length : Int) (i : Int)) (upTo (lensT l) 6, true)
  | 0, i, h => by
    refine Ev.step (fun k => by rw [spec_LengthsOf.l0]) ?_
    refine Ev.neg (by omega) ?_
    rw [List.take_of_length_le (by omega)]
    exact Ev.bind (plSorted_ev (lensT l) (by unfold lensT; rw [List.length_map]; exact hl)) (Ev.val rfl)
  | d + 1, i, h => by
    have hi : i < l.length := by omega
    have ih := lensS_l0 l hl d (i + 1) (by omega)
    have e : lensT (l.take (i + 1)) = lensT (l.take i) ++ [(l[i].size : Int)] := by
      unfold lensT
      rw [take_succ_get hi, List.map_append]; rfl
    rw [e] at ih
    refine Ev.step (fun k => by rw [spec_LengthsOf.l0]) ?_
    refine Ev.pos (by omega) (Ev.pos (by omega) (Ev.pos (by omega) (Ev.pos (by unfold lensT; rw [List.length_map, List.length_take]; omega) ?_)))
    rw [rdS_nat hi, wrap_nat (by omega)]
    exact ih
theorem lengthsOf_key (l : List ByteArray) (h1 : l.length ≤ 1048576) (h2 : ∀ y ∈ l, y.size ≤ 1048576) :
    ∃ r : List Int × Bool, Ev (fun k => spec_LengthsOf.f k l) r ∧ Ev (fun k => impl_LengthsOf.f k l) r ∧ r.1.length ≤ 1048576 := by
  have hg := plGood_ev l h1 h2
  have hi := isCodePlan_ev l h1 h2
  unfold spec_LengthsOf.f impl_LengthsOf.f
  cases g : goodB l with
  | false =>
    rw [g] at hg hi
    exact ⟨([], false), Ev.bind hg (Ev.neg (by simp) (Ev.val rfl)), Ev.bind hi (Ev.neg (by simp) (Ev.val rfl)), by simp⟩
  | true =>
    rw [g] at hg hi
    have hlens : ∀ n ∈ lensT l, 1 ≤ n ∧ n ≤ ((6 : Nat) : Int) := by
      intro n hn
      unfold lensT at hn
      obtain ⟨c, hc, rfl⟩ := List.mem_map.mp hn
      have := code_size (good_code g hc)
      omega
    have hs := upTo_sort hlens
    refine ⟨(upTo (lensT l) 6, true), Ev.bind hg (Ev.pos rfl ?_), Ev.bind hi (Ev.pos rfl (Ev.pos h1 (Ev.val ?_))), ?_⟩
    · have := lensS_l0 l h1 l.length 0 (by omega)
      exact this
    · rw [← hs]
    · show (upTo (lensT l) 6).length ≤ _
      rw [hs, List.length_mergeSort]
      unfold lensT
      rw [List.length_map]
      exact h1
end Go.Proofs.YtphdlbdmdokfaaaDoor.PA

/-! The laws' marks: marking a row writes texts that the holder then finds. No condition but bounds. -/
namespace Go.Proofs.YtphdlbdmdokfaaaDoor.PA
open Go.RowKit Go.Proofs.YtphdlbdmdokfaaaDoorW.PrintWords
set_option linter.unusedVariables false

theorem num1_size (z : Int) : (strOfNums [z]).size = 1 := rfl
theorem markText_l0 : ∀ (f n : Nat) (x : ByteArray), n ≤ f → x.size + n ≤ 4611686018427387903 → ∃ t, Ev (fun k => laws_markText.l0 k (n : Int) x) t
  | f, 0, x, _, h => by
    refine ⟨(⟨#[109]⟩ : ByteArray) ++ x, ?_⟩
    refine Ev.step (fun k => by rw [laws_markText.l0]) ?_
    exact Ev.neg (by omega) (Ev.pos (by omega) (Ev.val rfl))
  | 0, n + 1, x, hf, _ => by omega
  | f + 1, n + 1, x, hf, h => by
    have hz : (strOfNums [wrap64 (48 + Int.tmod ((n + 1 : Nat) : Int) 10) % 256] ++ x).size = x.size + 1 := by rw [size_append, num1_size]; omega
    have hd : wrap64 (Int.tdiv ((n + 1 : Nat) : Int) 10) = (((n + 1) / 10 : Nat) : Int) := by
      rw [Int.tdiv_eq_ediv_of_nonneg (by omega), wrap_in (by omega) (by omega)]; omega
    obtain ⟨t, ht⟩ := markText_l0 f ((n + 1) / 10) (strOfNums [wrap64 (48 + Int.tmod ((n + 1 : Nat) : Int) 10) % 256] ++ x) (by omega) (by rw [hz]; omega)
    refine ⟨t, ?_⟩
    refine Ev.step (fun k => by rw [laws_markText.l0]) ?_
    refine Ev.pos (by omega) (Ev.vbind rfl (Ev.pos (by rw [num1_size]; omega) ?_))
    rw [hd]
    exact ht
theorem markText_ex (n : Nat) (hn : n ≤ 1099511627776) : ∃ t, Ev (fun k => laws_markText.f k (n : Int)) t := by
  unfold laws_markText.f
  by_cases h : (n : Int) ≤ 0
  · exact ⟨_, Ev.pos h (Ev.val rfl)⟩
  · obtain ⟨t, ht⟩ := markText_l0 n n ⟨#[]⟩ (Nat.le_refl _) (by show 0 + n ≤ _; omega)
    exact ⟨t, Ev.neg h ht⟩
open Classical in
noncomputable def markT (n : Nat) : ByteArray := if h : ∃ t, Ev (fun k => laws_markText.f k (n : Int)) t then h.choose else ⟨#[]⟩
theorem markT_ev (n : Nat) (hn : n ≤ 1099511627776) : Ev (fun k => laws_markText.f k (n : Int)) (markT n) := by
  have h := markText_ex n hn
  unfold markT
  rw [dif_pos h]
  exact h.choose_spec
/-- the marks of so many places -/
noncomputable def marksT (n m : Nat) : List ByteArray := (List.range m).map (fun j => markT (n + j))
theorem marksT_len (n m : Nat) : (marksT n m).length = m := by simp [marksT]
theorem mark_l0 (n m : Nat) (hn : n + m ≤ 1099511627776) : ∀ (d i : Nat) (x : List ByteArray), i + d = m → x.length = m → x.take i = (marksT n m).take i → Ev (fun k => laws_markStringS.l0 k x ((n + i : Nat) : Int) (i : Int)) (((n + m : Nat) : Int), marksT n m)
  | 0, i, x, h, hx, ht => by
    refine Ev.step (fun k => by rw [laws_markStringS.l0]) ?_
    refine Ev.neg (by omega) (Ev.val ?_)
    rw [List.take_of_length_le (by omega), List.take_of_length_le (by rw [marksT_len]; omega)] at ht
    rw [ht, show n + i = n + m by omega]
  | d + 1, i, x, h, hx, ht => by
    refine Ev.step (fun k => by rw [laws_markStringS.l0]) ?_
    refine Ev.pos (by omega) (Ev.bind (markT_ev (n + i) (by omega)) (Ev.pos (by omega) ?_))
    rw [wrap_nat (by omega), wrap_nat (by omega), Int.toNat_natCast]
    refine mark_l0 n m hn d (i + 1) _ (by omega) (by simpa using hx) ?_
    rw [take_succ_get (by simp; omega), take_succ_get (show i < (marksT n m).length by rw [marksT_len]; omega), List.take_set_of_le (Nat.le_refl _), ht]
    simp [marksT]
theorem markStringS_ev (l : List ByteArray) (n : Nat) (hn : n + l.length ≤ 1099511627776) : Ev (fun k => laws_markStringS.f k l (n : Int)) (((n + l.length : Nat) : Int), marksT n l.length) :=
  mark_l0 n l.length hn l.length 0 l (by omega) rfl (by simp)
theorem held_l0 (n m : Nat) (hn : n + m ≤ 1099511627776) : ∀ (d i : Nat), i + d = m → Ev (fun k => laws_heldStringS.l0 k (marksT n m) ((n + i : Nat) : Int) (i : Int)) ((n + m : Nat) : Int)
  | 0, i, h => by
    refine Ev.step (fun k => by rw [laws_heldStringS.l0]) ?_
    refine Ev.neg (by rw [marksT_len]; omega) (Ev.val ?_)
    rw [show n + i = n + m by omega]
  | d + 1, i, h => by
    refine Ev.step (fun k => by rw [laws_heldStringS.l0]) ?_
    refine Ev.pos (by rw [marksT_len]; omega) (Ev.pos (by omega) (Ev.bind (markT_ev (n + i) (by omega)) ?_))
    rw [rdS_nat (by rw [marksT_len]; omega), wrap_nat (by omega), wrap_nat (by omega)]
    refine Ev.pos (by simp [marksT]) ?_
    exact held_l0 n m hn d (i + 1) (by omega)
theorem heldStringS_ev (n m : Nat) (hn : n + m ≤ 1099511627776) : Ev (fun k => laws_heldStringS.f k (marksT n m) (n : Int)) ((n + m : Nat) : Int) :=
  held_l0 n m hn m 0 (by omega)
end Go.Proofs.YtphdlbdmdokfaaaDoor.PA

/-! The laws' marks on rows of numbers: marking a row writes numbers that the holder then finds. No condition but bounds. -/
namespace Go.Proofs.YtphdlbdmdokfaaaDoor.PA
open Go.RowKit Go.Proofs.YtphdlbdmdokfaaaDoorW.PrintWords
set_option linter.unusedVariables false

def marksI (n m : Nat) : List Int := (List.range m).map (fun j => ((n + j : Nat) : Int))
theorem marksI_len (n m : Nat) : (marksI n m).length = m := by simp [marksI]
theorem markI_l0 (n m : Nat) (hn : n + m ≤ 1099511627776) : ∀ (d i : Nat) (x : List Int), i + d = m → x.length = m → x.take i = (marksI n m).take i → Ev (fun k => laws_markIntS.l0 k x ((n + i : Nat) : Int) (i : Int)) (((n + m : Nat) : Int), marksI n m)
  | 0, i, x, h, hx, ht => by
    refine Ev.step (fun k => by rw [laws_markIntS.l0]) ?_
    refine Ev.neg (by omega) (Ev.val ?_)
    rw [List.take_of_length_le (by omega), List.take_of_length_le (by rw [marksI_len]; omega)] at ht
    rw [ht, show n + i = n + m by omega]
  | d + 1, i, x, h, hx, ht => by
    refine Ev.step (fun k => by rw [laws_markIntS.l0]) ?_
    refine Ev.pos (by omega) (Ev.pos (by omega) ?_)
    rw [wrap_nat (by omega), wrap_nat (by omega), Int.toNat_natCast]
    refine markI_l0 n m hn d (i + 1) _ (by omega) (by simpa using hx) ?_
    rw [take_succ_get (by simp; omega), take_succ_get (show i < (marksI n m).length by rw [marksI_len]; omega), List.take_set_of_le (Nat.le_refl _), ht]
    simp [marksI]
theorem markIntS_ev (l : List Int) (n : Nat) (hn : n + l.length ≤ 1099511627776) : Ev (fun k => laws_markIntS.f k l (n : Int)) (((n + l.length : Nat) : Int), marksI n l.length) :=
  markI_l0 n l.length hn l.length 0 l (by omega) rfl (by simp)
theorem heldI_l0 (n m : Nat) (hn : n + m ≤ 1099511627776) : ∀ (d i : Nat), i + d = m → Ev (fun k => laws_heldIntS.l0 k (marksI n m) ((n + i : Nat) : Int) (i : Int)) ((n + m : Nat) : Int)
  | 0, i, h => by
    refine Ev.step (fun k => by rw [laws_heldIntS.l0]) ?_
    refine Ev.neg (by rw [marksI_len]; omega) (Ev.val ?_)
    rw [show n + i = n + m by omega]
  | d + 1, i, h => by
    refine Ev.step (fun k => by rw [laws_heldIntS.l0]) ?_
    refine Ev.pos (by rw [marksI_len]; omega) (Ev.pos (by omega) ?_)
    rw [rd_nat (by rw [marksI_len]; omega), wrap_nat (by omega), wrap_nat (by omega)]
    refine Ev.pos (by simp [marksI]) ?_
    exact heldI_l0 n m hn d (i + 1) (by omega)
theorem heldIntS_ev (n m : Nat) (hn : n + m ≤ 1099511627776) : Ev (fun k => laws_heldIntS.f k (marksI n m) (n : Int)) ((n + m : Nat) : Int) :=
  heldI_l0 n m hn m 0 (by omega)
end Go.Proofs.YtphdlbdmdokfaaaDoor.PA

/-! The laws' equality over lists of whole numbers is equality. No condition but bounds. -/
namespace Go.Proofs.YtphdlbdmdokfaaaDoor.PA
open Go.RowKit Go.Proofs.YtphdlbdmdokfaaaDoorW.PrintWords
set_option linter.unusedVariables false

theorem eqIntS_l0 (a b : List Int) (hab : a.length = b.length) (hl : a.length ≤ 4611686018427387903) : ∀ (d i : Nat), i + d = a.length → a.take i = b.take i → Ev (fun k => laws_eqIntS.l0 k a b (i : Int)) (decide (a = b))
  | 0, i, h, ht => by
    refine Ev.step (fun k => by rw [laws_eqIntS.l0]) ?_
    refine Ev.neg (by omega) (Ev.val ?_)
    rw [List.take_of_length_le (by omega), List.take_of_length_le (by omega)] at ht
    simp [ht]
  | d + 1, i, h, ht => by
    refine Ev.step (fun k => by rw [laws_eqIntS.l0]) ?_
    refine Ev.pos (by omega) (Ev.pos (by omega) (Ev.pos (by omega) ?_))
    rw [rd_nat (show i < a.length by omega), rd_nat (show i < b.length by omega), wrap_nat (by omega)]
    refine Ev.ite (fun e => ?_) (fun e => Ev.val ?_)
    · refine eqIntS_l0 a b hab hl d (i + 1) (by omega) ?_
      rw [take_succ_get (by omega), take_succ_get (by omega), ht, e]
    · have : ¬ a = b := fun e2 => e (by subst e2; rfl)
      simp [this]
theorem eqIntS_ev {a b : List Int} (hl : a.length ≤ 4611686018427387903) : Ev (fun k => laws_eqIntS.f k a b) (decide (a = b)) := by
  unfold laws_eqIntS.f
  refine Ev.ite (fun e => ?_) (fun e => Ev.val ?_)
  · exact eqIntS_l0 a b (by omega) hl a.length 0 (by omega) (by simp)
  · have : ¬ a = b := fun e2 => e (by rw [e2])
    simp [this]
end Go.Proofs.YtphdlbdmdokfaaaDoor.PA
