/- The plain facts that the law FnExactConflictsOf's proof leans on, in one text: each part has its own sentence. No condition but bounds. -/
import Derived.Test.YtphdlbdmdokfaaaDoorPAx0
import Derived.Test.YtphdlbdmdokfaaaDoorPAx1
import Derived.Test.YtphdlbdmdokfaaaDoorPAx2
import Derived.Test.YtphdlbdmdokfaaaDoorPAx3
import Derived.Lib.Strings
import Derived.Test.YtphdlbdmdokfaaaDoorWWords
import Derived.Test.YtphdlbdmdokfaaaDoorWMore
import Derived.Test.YtphdlbdmdokfaaaDoorXX
/-! Plain facts that the laws' pure proofs share: answers from some number of rounds on, numbers without wrap, strings as lists of bytes. No condition. -/
namespace Go.Proofs.YtphdlbdmdokfaaaDoor.PA
open Go.RowKit Go.Proofs.YtphdlbdmdokfaaaDoorW.PrintWords
set_option linter.unusedVariables false

theorem Ev.pos {α : Type} {c : Prop} [Decidable c] {a b : Nat → Option α} {r : α} (hc : c) (h : Ev a r) : Ev (fun k => if c then a k else b k) r := Ev.congr (fun k => if_pos hc) h
theorem Ev.neg {α : Type} {c : Prop} [Decidable c] {a b : Nat → Option α} {r : α} (hc : ¬ c) (h : Ev b r) : Ev (fun k => if c then a k else b k) r := Ev.congr (fun k => if_neg hc) h
theorem Ev.ite {α : Type} {c : Prop} [Decidable c] {a b : Nat → Option α} {r : α} (h1 : c → Ev a r) (h2 : ¬ c → Ev b r) : Ev (fun k => if c then a k else b k) r := by
  by_cases hc : c
  · exact Ev.pos hc (h1 hc)
  · exact Ev.neg hc (h2 hc)
theorem Ev.val {α : Type} {o : Option α} {r : α} (h : o = some r) : Ev (fun _ => o) r := ⟨0, fun _ _ => h⟩
theorem Ev.vbind {α β : Type} {o : Option α} {f : Nat → α → Option β} {a : α} {r : β} (h : o = some a) (k : Ev (fun n => f n a) r) : Ev (fun n => o.bind (f n)) r := Ev.bind (g := fun _ => o) (Ev.val h) k
theorem Ev.unique {α : Type} {g : Nat → Option α} {a b : α} (h : Ev g a) (k : Ev g b) : a = b := by
  obtain ⟨K, h⟩ := h
  obtain ⟨K', k⟩ := k
  exact Option.some.inj ((h (max K K') (Nat.le_max_left _ _)).symm.trans (k (max K K') (Nat.le_max_right _ _)))
theorem Ev.eq {α : Type} {g : Nat → Option α} {a b : α} (h : Ev g a) (e : a = b) : Ev g b := e ▸ h

theorem wrap_nat {i : Nat} (h : i < 4611686018427387904) : wrap64 ((i : Int) + 1) = ((i + 1 : Nat) : Int) := by unfold wrap64; omega
theorem wrap_in {n : Int} (h : -9223372036854775808 ≤ n) (h2 : n ≤ 9223372036854775807) : wrap64 n = n := by unfold wrap64; omega
theorem rd_nat {l : List Int} {i : Nat} (h : i < l.length) : rd l (i : Int) = l[i] := by simp [rd, h]
theorem rdS_nat {l : List ByteArray} {i : Nat} (h : i < l.length) : rdOf ByteArray.empty l (i : Int) = l[i] := by simp [rdOf, h]
theorem bt_nat {s : ByteArray} {i : Nat} (h : i < s.size) : bt s (i : Int) = ((s.data.toList[i]'(by simpa using h)).toNat : Int) := by
  unfold bt
  rw [dif_pos (by simpa using h)]
  rfl
theorem toList_data (s : ByteArray) : s.toList = s.data.toList := Go.Lib.toList_data s
theorem size_data (s : ByteArray) : s.size = s.data.toList.length := rfl
theorem ba_ext {a b : ByteArray} (h : a.data.toList = b.data.toList) : a = b := by
  cases a with
  | mk a => cases b with
    | mk b => exact congrArg ByteArray.mk (Array.toList_inj.mp h)
theorem toList_inj {a b : ByteArray} : a.toList = b.toList ↔ a = b := ⟨fun h => ba_ext (by rw [← toList_data, ← toList_data, h]), fun h => by rw [h]⟩
theorem toList_mk (l : List UInt8) : (⟨l.toArray⟩ : ByteArray).toList = l := by rw [toList_data]
theorem data_extract (s : ByteArray) (a b : Nat) : (s.extract a b).data.toList = (s.data.toList.take b).drop a := by
  rw [ByteArray.data_extract, Array.toList_extract, List.extract_eq_take_drop, List.drop_take]
theorem data_append (a b : ByteArray) : (a ++ b).data.toList = a.data.toList ++ b.data.toList := by
  rw [ByteArray.data_append, Array.toList_append]
theorem size_append (a b : ByteArray) : (a ++ b).size = a.size + b.size := by rw [size_data, data_append, List.length_append]; rfl
theorem take_succ_get {α : Type} {l : List α} {i : Nat} (h : i < l.length) : l.take (i + 1) = l.take i ++ [l[i]] := by
  rw [List.take_add_one, List.getElem?_eq_getElem h]; rfl

/-- digits alone -/
def digB (c : UInt8) : Bool := decide (48 ≤ c.toNat) && decide (c.toNat ≤ 57)
def digitsB (s : ByteArray) (lo hi : Int) : Bool := decide (lo ≤ (s.size : Int)) && decide ((s.size : Int) ≤ hi) && s.data.toList.all digB
theorem contains_dig (c : UInt8) : ([48, 49, 50, 51, 52, 53, 54, 55, 56, 57] : List UInt8).contains c = digB c := by
  have h : ∀ n : Fin 256, ([48, 49, 50, 51, 52, 53, 54, 55, 56, 57] : List UInt8).contains (UInt8.ofNat n.val) = digB (UInt8.ofNat n.val) := by decide +kernel
  have := h ⟨c.toNat, c.toNat_lt⟩
  simpa using this
end Go.Proofs.YtphdlbdmdokfaaaDoor.PA

/-! The laws' equality over lists of whole numbers is equality. No condition but bounds. -/
namespace Go.Proofs.YtphdlbdmdokfaaaDoor.PA
open Go.RowKit Go.Proofs.YtphdlbdmdokfaaaDoorW.PrintWords
set_option linter.unusedVariables false

theorem eqIntS_l0 (a b : List Int) (hab : a.length = b.length) (hl : a.length ≤ 4611686018427387903) : ∀ (d i : Nat), i + d = a.length → a.take i = b.take i → Ev (fun k => laws_eqIntS.l0 k a b (i : Int)) (decide (a = b))
  | 0, i, h, ht => by
    refine Ev.step (fun k => by rw [laws_eqIntS.l0]) ?_
    refine Ev.neg (by omega) (Ev.val ?_)
    rw [List.take_of_length_le (by omega), List.take_of_length_le (by omega)] at ht
    simp [ht]
  | d + 1, i, h, ht => by
    refine Ev.step (fun k => by rw [laws_eqIntS.l0]) ?_
    refine Ev.pos (by omega) (Ev.pos (by omega) (Ev.pos (by omega) ?_))
    rw [rd_nat (show i < a.length by omega), rd_nat (show i < b.length by omega), wrap_nat (by omega)]
    refine Ev.ite (fun e => ?_) (fun e => Ev.val ?_)
    · refine eqIntS_l0 a b hab hl d (i + 1) (by omega) ?_
      rw [take_succ_get (by omega), take_succ_get (by omega), ht, e]
    · have : ¬ a = b := fun e2 => e (by subst e2; rfl)
      simp [this]
theorem eqIntS_ev {a b : List Int} (hl : a.length ≤ 4611686018427387903) : Ev (fun k => laws_eqIntS.f k a b) (decide (a = b)) := by
  unfold laws_eqIntS.f
  refine Ev.ite (fun e => ?_) (fun e => Ev.val ?_)
  · exact eqIntS_l0 a b (by omega) hl a.length 0 (by omega) (by simp)
  · have : ¬ a = b := fun e2 => e (by rw [e2])
    simp [this]
end Go.Proofs.YtphdlbdmdokfaaaDoor.PA

/-! The laws' marks on rows of numbers: marking a row writes numbers that the holder then finds. No condition but bounds. -/
namespace Go.Proofs.YtphdlbdmdokfaaaDoor.PA
open Go.RowKit Go.Proofs.YtphdlbdmdokfaaaDoorW.PrintWords
set_option linter.unusedVariables false

def marksI (n m : Nat) : List Int := (List.range m).map (fun j => ((n + j : Nat) : Int))
theorem marksI_len (n m : Nat) : (marksI n m).length = m := by simp [marksI]
theorem markI_l0 (n m : Nat) (hn : n + m ≤ 1099511627776) : ∀ (d i : Nat) (x : List Int), i + d = m → x.length = m → x.take i = (marksI n m).take i → Ev (fun k => laws_markIntS.l0 k x ((n + i : Nat) : Int) (i : Int)) (((n + m : Nat) : Int), marksI n m)
  | 0, i, x, h, hx, ht => by
    refine Ev.step (fun k => by rw [laws_markIntS.l0]) ?_
    refine Ev.neg (by omega) (Ev.val ?_)
    rw [List.take_of_length_le (by omega), List.take_of_length_le (by rw [marksI_len]; omega)] at ht
    rw [ht, show n + i = n + m by omega]
  | d + 1, i, x, h, hx, ht => by
    refine Ev.step (fun k => by rw [laws_markIntS.l0]) ?_
    refine Ev.pos (by omega) (Ev.pos (by omega) ?_)
    rw [wrap_nat (by omega), wrap_nat (by omega), Int.toNat_natCast]
    refine markI_l0 n m hn d (i + 1) _ (by omega) (by simpa using hx) ?_
    rw [take_succ_get (by simp; omega), take_succ_get (show i < (marksI n m).length by rw [marksI_len]; omega), List.take_set_of_le (Nat.le_refl _), ht]
    simp [marksI]
theorem markIntS_ev (l : List Int) (n : Nat) (hn : n + l.length ≤ 1099511627776) : Ev (fun k => laws_markIntS.f k l (n : Int)) (((n + l.length : Nat) : Int), marksI n l.length) :=
  markI_l0 n l.length hn l.length 0 l (by omega) rfl (by simp)
end Go.Proofs.YtphdlbdmdokfaaaDoor.PA

/-! The laws' marks on rows of numbers: the holder finds them. No condition but bounds. -/
namespace Go.Proofs.YtphdlbdmdokfaaaDoor.PA
open Go.RowKit Go.Proofs.YtphdlbdmdokfaaaDoorW.PrintWords
set_option linter.unusedVariables false

theorem heldI_l0 (n m : Nat) (hn : n + m ≤ 1099511627776) : ∀ (d i : Nat), i + d = m → Ev (fun k => laws_heldIntS.l0 k (marksI n m) ((n + i : Nat) : Int) (i : Int)) ((n + m : Nat) : Int)
  | 0, i, h => by
    refine Ev.step (fun k => by rw [laws_heldIntS.l0]) ?_
    refine Ev.neg (by rw [marksI_len]; omega) (Ev.val ?_)
    rw [show n + i = n + m by omega]
  | d + 1, i, h => by
    refine Ev.step (fun k => by rw [laws_heldIntS.l0]) ?_
    refine Ev.pos (by rw [marksI_len]; omega) (Ev.pos (by omega) ?_)
    rw [rd_nat (by rw [marksI_len]; omega), wrap_nat (by omega), wrap_nat (by omega)]
    refine Ev.pos (by simp [marksI]) ?_
    exact heldI_l0 n m hn d (i + 1) (by omega)
theorem heldIntS_ev (n m : Nat) (hn : n + m ≤ 1099511627776) : Ev (fun k => laws_heldIntS.f k (marksI n m) (n : Int)) ((n + m : Nat) : Int) :=
  heldI_l0 n m hn m 0 (by omega)
end Go.Proofs.YtphdlbdmdokfaaaDoor.PA

/-! The laws' equality over rows of rows of numbers says yes of a list and itself; marks on such rows are found again. No condition but bounds. -/
namespace Go.Proofs.YtphdlbdmdokfaaaDoor.PA
open Go.RowKit Go.Proofs.YtphdlbdmdokfaaaDoorW.PrintWords
set_option linter.unusedVariables false

theorem rdL_nat {l : List (List Int)} {i : Nat} (h : i < l.length) : rd_L2 l (i : Int) = l[i] := by simp [rd_L2, h]
theorem eqIntSS_l0 (a : List (List Int)) (hl : a.length ≤ 4611686018427387903) (hr : ∀ x ∈ a, x.length ≤ 4611686018427387903) : ∀ (d i : Nat), i + d = a.length → Ev (fun k => laws_eqIntSS.l0 k a a (i : Int)) true
  | 0, i, h => by
    refine Ev.step (fun k => by rw [laws_eqIntSS.l0]) ?_
    exact Ev.neg (by omega) (Ev.val rfl)
  | d + 1, i, h => by
    refine Ev.step (fun k => by rw [laws_eqIntSS.l0]) ?_
    refine Ev.pos (by omega) (Ev.pos (by omega) (Ev.pos (by omega) ?_))
    rw [rdL_nat (show i < a.length by omega), wrap_nat (by omega)]
    refine Ev.bind (Ev.eq (eqIntS_ev (hr _ (List.getElem_mem _))) (by simp)) (Ev.pos rfl ?_)
    exact eqIntSS_l0 a hl hr d (i + 1) (by omega)
theorem eqIntSS_ev {a : List (List Int)} (hl : a.length ≤ 4611686018427387903) (hr : ∀ x ∈ a, x.length ≤ 4611686018427387903) : Ev (fun k => laws_eqIntSS.f k a a) true := by
  unfold laws_eqIntSS.f
  exact Ev.pos rfl (eqIntSS_l0 a hl hr a.length 0 (by omega))
/-- how many numbers stand in rows -/
def totSS : List (List Int) → Nat
  | [] => 0
  | x :: xs => x.length + totSS xs
def marksSS : Nat → List (List Int) → List (List Int)
  | _, [] => []
  | n, x :: xs => marksI n x.length :: marksSS (n + x.length) xs
theorem marksSS_ev : ∀ (l : List (List Int)) (n : Nat), n + totSS l ≤ 1099511627776 → Ev (fun k => markSS k l (n : Int)) (((n + totSS l : Nat) : Int), marksSS n l)
  | [], n, _ => Ev.val rfl
  | x :: xs, n, h => by
    have h' : n + x.length + totSS xs ≤ 1099511627776 := by simp only [totSS] at h; omega
    unfold markSS
    refine Ev.bind (markIntS_ev x n (by omega)) ?_
    refine Ev.bind (marksSS_ev xs (n + x.length) h') (Ev.val ?_)
    rw [show n + x.length + totSS xs = n + totSS (x :: xs) by simp only [totSS]; omega]
    rfl
theorem markIntSS_ev (l : List (List Int)) (n : Nat) (hl : l.length ≤ 1048576) (h : n + totSS l ≤ 1099511627776) : Ev (fun k => laws_markIntSS.f k l (n : Int)) (((n + totSS l : Nat) : Int), marksSS n l) := by
  unfold laws_markIntSS.f
  exact Ev.pos hl (marksSS_ev l n h)
theorem marksSS_len : ∀ (l : List (List Int)) (n : Nat), (marksSS n l).length = l.length
  | [], _ => rfl
  | x :: xs, n => by simp only [marksSS, List.length_cons, marksSS_len xs]
theorem heldSS_l0 (L : List (List Int)) (hL : L.length ≤ 1048576) : ∀ (l : List (List Int)) (n i : Nat), n + totSS l ≤ 1099511627776 → L.drop i = marksSS n l → Ev (fun k => laws_heldIntSS.l0 k L (n : Int) (i : Int)) ((n + totSS l : Nat) : Int)
  | [], n, i, h, hd => by
    have hi : L.length ≤ i := by simpa [marksSS] using hd
    refine Ev.step (fun k => by rw [laws_heldIntSS.l0]) ?_
    exact Ev.neg (by omega) (Ev.val rfl)
  | x :: xs, n, i, h, hd => by
    have hi : i < L.length := by
      by_cases e : i < L.length
      · exact e
      · rw [List.drop_of_length_le (by omega)] at hd; simp [marksSS] at hd
    have h' : n + x.length + totSS xs ≤ 1099511627776 := by simp only [totSS] at h; omega
    rw [List.drop_eq_getElem_cons hi, marksSS] at hd
    injection hd with h1 h2
    refine Ev.step (fun k => by rw [laws_heldIntSS.l0]) ?_
    refine Ev.pos (by omega) (Ev.pos (by omega) ?_)
    rw [rdL_nat hi, h1, wrap_nat (by omega)]
    refine Ev.bind (heldIntS_ev n x.length (by omega)) (Ev.neg (by omega) ?_)
    rw [show n + totSS (x :: xs) = n + x.length + totSS xs by simp only [totSS]; omega]
    exact heldSS_l0 L hL xs (n + x.length) (i + 1) h' h2
theorem heldIntSS_ev (l : List (List Int)) (n : Nat) (hl : l.length ≤ 1048576) (h : n + totSS l ≤ 1099511627776) : Ev (fun k => laws_heldIntSS.f k (marksSS n l) (n : Int)) ((n + totSS l : Nat) : Int) :=
  heldSS_l0 (marksSS n l) (by rw [marksSS_len]; exact hl) l n 0 h rfl
end Go.Proofs.YtphdlbdmdokfaaaDoor.PA

/-! Is a number within bounds: the reference's and the program's own. No condition. -/
namespace Go.Proofs.YtphdlbdmdokfaaaDoor.PA
open Go.RowKit Go.Proofs.YtphdlbdmdokfaaaDoorW.PrintWords
set_option linter.unusedVariables false

theorem l1In_f (a b c : Int) : spec_l1In.f a b c = some (decide (b ≤ a) && decide (a ≤ c)) := by
  unfold spec_l1In.f
  by_cases h : a ≥ b
  · rw [if_pos h]; simp [show b ≤ a from h]
  · rw [if_neg h]; simp [show ¬ b ≤ a from h]
theorem in_f (a b c : Int) : impl_in.f a b c = some (decide (b ≤ a) && decide (a ≤ c)) := by
  unfold impl_in.f
  by_cases h : a ≥ b
  · rw [if_pos h]; simp [show b ≤ a from h]
  · rw [if_neg h]; simp [show ¬ b ≤ a from h]
end Go.Proofs.YtphdlbdmdokfaaaDoor.PA

/-! Digits alone, as the program asks for them. No condition but bounds of size. -/
namespace Go.Proofs.YtphdlbdmdokfaaaDoor.PA
open Go.RowKit Go.Proofs.YtphdlbdmdokfaaaDoorW.PrintWords
set_option linter.unusedVariables false

theorem over_digits (s : ByteArray) (hs : s.size ≤ 140737488355328) : impl_over.f s (⟨#[48, 49, 50, 51, 52, 53, 54, 55, 56, 57]⟩ : ByteArray) = some (s.data.toList.all digB) := by
  unfold impl_over.f
  rw [if_pos ⟨hs, by decide, by decide⟩]
  congr 1
  exact congrArg (fun f => s.data.toList.all f) (funext contains_dig)
end Go.Proofs.YtphdlbdmdokfaaaDoor.PA

/-! Texts of digits, as the program asks for them. No condition but bounds of size. -/
namespace Go.Proofs.YtphdlbdmdokfaaaDoor.PA
open Go.RowKit Go.Proofs.YtphdlbdmdokfaaaDoorW.PrintWords
set_option linter.unusedVariables false

theorem isDigits_f (s : ByteArray) (lo hi : Int) (hs : s.size ≤ 140737488355328) : impl_isDigits.f s lo hi = some (digitsB s lo hi) := by
  unfold impl_isDigits.f digitsB
  rw [in_f, Option.bind_some]
  cases decide (lo ≤ (s.size : Int)) && decide ((s.size : Int) ≤ hi) with
  | true => rw [if_pos rfl, over_digits s hs]; simp
  | false => rw [if_neg (by simp)]; simp
end Go.Proofs.YtphdlbdmdokfaaaDoor.PA

/-! Texts of digits, as the reference and the program ask for them: one Bool for both. No condition but bounds of size. -/
namespace Go.Proofs.YtphdlbdmdokfaaaDoor.PA
open Go.RowKit Go.Proofs.YtphdlbdmdokfaaaDoorW.PrintWords
set_option linter.unusedVariables false

theorem piDigits_l0 (s : ByteArray) (hs : s.size ≤ 4611686018427387903) : ∀ (d i : Nat), i + d = s.size → Ev (fun k => spec_piDigits.l0 k s (i : Int)) ((s.data.toList.drop i).all digB)
  | 0, i, h => by
    refine Ev.step (fun k => rfl) (Ev.neg (by omega) (Ev.val ?_))
    rw [List.drop_of_length_le (by rw [← size_data]; omega)]; rfl
  | d + 1, i, h => by
    have hi : i < s.data.toList.length := by rw [← size_data]; omega
    refine Ev.step (fun k => rfl) (Ev.pos (by omega) (Ev.pos (by omega) ?_))
    rw [bt_nat (by omega), List.drop_eq_getElem_cons hi, List.all_cons, wrap_nat (by omega)]
    unfold digB
    refine Ev.ite (fun e => Ev.val ?_) (fun e => Ev.ite (fun e2 => Ev.val ?_) (fun e2 => ?_))
    · simp only [show ¬ 48 ≤ (s.data.toList[i]).toNat by omega, decide_false, Bool.false_and]
    · simp only [show ¬ (s.data.toList[i]).toNat ≤ 57 by omega, decide_false, Bool.and_false, Bool.false_and]
    · simp only [show 48 ≤ (s.data.toList[i]).toNat by omega, show (s.data.toList[i]).toNat ≤ 57 by omega, decide_true, Bool.true_and]
      exact piDigits_l0 s hs d (i + 1) (by omega)
theorem piDigits_ev (s : ByteArray) (lo hi : Int) (hs : s.size ≤ 4611686018427387903) : Ev (fun k => spec_piDigits.f k s lo hi) (digitsB s lo hi) := by
  unfold spec_piDigits.f digitsB
  refine Ev.vbind (l1In_f _ _ _) ?_
  cases decide (lo ≤ (s.size : Int)) && decide ((s.size : Int) ≤ hi) with
  | true => exact Ev.pos rfl (by simpa using piDigits_l0 s hs s.size 0 (by omega))
  | false => exact Ev.neg (by simp) (Ev.val (by simp))
end Go.Proofs.YtphdlbdmdokfaaaDoor.PA

/-! The laws' equality over lists of texts is equality. No condition but bounds. -/
namespace Go.Proofs.YtphdlbdmdokfaaaDoor.PA
open Go.RowKit Go.Proofs.YtphdlbdmdokfaaaDoorW.PrintWords
set_option linter.unusedVariables false

theorem eqStringS_l0 (a b : List ByteArray) (hab : a.length = b.length) (hl : a.length ≤ 4611686018427387903) : ∀ (d i : Nat), i + d = a.length → a.take i = b.take i → Ev (fun k => laws_eqStringS.l0 k a b (i : Int)) (decide (a = b))
  | 0, i, h, ht => by
    refine Ev.step (fun k => rfl) ?_
    refine Ev.neg (by omega) (Ev.val ?_)
    rw [List.take_of_length_le (by omega), List.take_of_length_le (by omega)] at ht
    simp [ht]
  | d + 1, i, h, ht => by
    refine Ev.step (fun k => rfl) ?_
    refine Ev.pos (by omega) (Ev.pos (by omega) (Ev.pos (by omega) ?_))
    rw [rdS_nat (show i < a.length by omega), rdS_nat (show i < b.length by omega), wrap_nat (by omega)]
    refine Ev.ite (fun e => ?_) (fun e => Ev.val ?_)
    · refine eqStringS_l0 a b hab hl d (i + 1) (by omega) ?_
      rw [take_succ_get (by omega), take_succ_get (by omega), ht, toList_inj.mp e]
    · have : ¬ a = b := fun e2 => e (by subst e2; rfl)
      simp [this]
theorem eqStringS_ev {a b : List ByteArray} (hl : a.length ≤ 4611686018427387903) : Ev (fun k => laws_eqStringS.f k a b) (decide (a = b)) := by
  unfold laws_eqStringS.f
  refine Ev.ite (fun e => ?_) (fun e => Ev.val ?_)
  · exact eqStringS_l0 a b (by omega) hl a.length 0 (by omega) (by simp)
  · have : ¬ a = b := fun e2 => e (by rw [e2])
    simp [this]

end Go.Proofs.YtphdlbdmdokfaaaDoor.PA

/-! The laws' own helpers over lists of texts: copying keeps them, sizes are counted, equality is equality. No condition but bounds. -/
namespace Go.Proofs.YtphdlbdmdokfaaaDoor.PA
open Go.RowKit Go.Proofs.YtphdlbdmdokfaaaDoorW.PrintWords
set_option linter.unusedVariables false

theorem toStringS_l0 (l : List ByteArray) (hl : l.length ≤ 4611686018427387903) : ∀ (d i : Nat) (x : List ByteArray), i + d = l.length → x.length = l.length → x.take i = l.take i → Ev (fun k => laws_toStringS.l0 k l x (i : Int)) l
  | 0, i, x, h, hx, ht => by
    refine Ev.step (fun k => rfl) ?_
    refine Ev.neg (by omega) (Ev.val ?_)
    rw [List.take_of_length_le (by omega), List.take_of_length_le (by omega)] at ht
    rw [ht]
  | d + 1, i, x, h, hx, ht => by
    refine Ev.step (fun k => rfl) ?_
    refine Ev.pos (by omega) (Ev.pos (by omega) (Ev.pos (by omega) ?_))
    rw [rdS_nat (show i < l.length by omega), wrap_nat (by omega), Int.toNat_natCast]
    refine toStringS_l0 l hl d (i + 1) _ (by omega) (by simpa using hx) ?_
    rw [take_succ_get (by simp; omega), take_succ_get (show i < l.length by omega), List.take_set_of_le (Nat.le_refl _), ht]
    simp
theorem toStringS_ev {l : List ByteArray} (hl : l.length ≤ 17592186044416) : Ev (fun k => laws_toStringS.f k l) l := by
  unfold laws_toStringS.f
  refine Ev.pos (by omega) (Ev.pos (by omega) ?_)
  exact toStringS_l0 l (by omega) l.length 0 _ (by omega) (by simp) (by simp)

theorem szStringS_l0 (l : List ByteArray) (hl : l.length ≤ 1048576) (hs : ∀ y ∈ l, y.size ≤ maxLen) : ∀ (d i : Nat) (x : Int), i + d = l.length → 0 ≤ x → x ≤ 1048576 → (∀ y ∈ l.take i, y.size ≤ 1048576) →
    ∃ v, Ev (fun k => laws_szStringS.l0 k l x (i : Int)) v ∧ (v < 0 ∨ ∀ y ∈ l, y.size ≤ 1048576)
  | 0, i, x, h, h0, hx, ht => by
    refine ⟨x, Ev.step (fun k => rfl) (Ev.neg (by omega) (Ev.val rfl)), .inr ?_⟩
    rwa [List.take_of_length_le (by omega)] at ht
  | d + 1, i, x, h, h0, hx, ht => by
    have hi : i < l.length := by omega
    have hm := hs l[i] (List.getElem_mem hi)
    unfold maxLen at hm
    by_cases e : wrap64 (x - (l[i].size : Int)) < 0
    · refine ⟨-1, Ev.step (fun k => rfl) (Ev.pos (by omega) (Ev.pos (by omega) ?_)), .inl (by omega)⟩
      rw [rdS_nat hi]
      exact Ev.pos e (Ev.val rfl)
    · have hw : wrap64 (x - (l[i].size : Int)) = x - (l[i].size : Int) := wrap_in (by omega) (by omega)
      obtain ⟨v, hv, hp⟩ := szStringS_l0 l hl hs d (i + 1) (x - (l[i].size : Int)) (by omega) (by omega) (by omega) (by
        rw [take_succ_get hi]
        intro y hy
        rcases List.mem_append.mp hy with hy | hy
        · exact ht y hy
        · rw [List.mem_singleton.mp hy]; omega)
      refine ⟨v, Ev.step (fun k => rfl) (Ev.pos (by omega) (Ev.pos (by omega) ?_)), hp⟩
      rw [rdS_nat hi, wrap_nat (by omega)]
      refine Ev.neg e ?_
      rw [hw]
      exact hv
theorem szStringS_ev {l : List ByteArray} (hl : l.length ≤ maxLen) (hs : ∀ y ∈ l, y.size ≤ maxLen) : ∃ v, Ev (fun k => laws_szStringS.f k l 1048576) v ∧ (v < 0 ∨ (l.length ≤ 1048576 ∧ ∀ y ∈ l, y.size ≤ 1048576)) := by
  unfold maxLen at hl
  by_cases e : wrap64 (1048576 - (l.length : Int)) < 0
  · exact ⟨-1, by unfold laws_szStringS.f; exact Ev.pos e (Ev.val rfl), .inl (by omega)⟩
  · have hw : wrap64 (1048576 - (l.length : Int)) = 1048576 - (l.length : Int) := wrap_in (by omega) (by omega)
    rw [hw] at e
    obtain ⟨v, hv, hp⟩ := szStringS_l0 l (by omega) hs l.length 0 (1048576 - (l.length : Int)) (by omega) (by omega) (by omega) (by simp)
    refine ⟨v, ?_, hp.imp id (fun h => ⟨by omega, h⟩)⟩
    unfold laws_szStringS.f
    rw [hw]
    exact Ev.neg e hv
end Go.Proofs.YtphdlbdmdokfaaaDoor.PA

/-! Plans: the reference and the program ask for the same. No condition but bounds of size. -/
namespace Go.Proofs.YtphdlbdmdokfaaaDoor.PA
open Go.RowKit Go.Proofs.YtphdlbdmdokfaaaDoorW.PrintWords
set_option linter.unusedVariables false

def codeB (s : ByteArray) : Bool := digitsB s 1 6
theorem plCode_ev (s : ByteArray) (hs : s.size ≤ 4611686018427387903) : Ev (fun k => spec_plCode.f k s) (codeB s) := by
  unfold spec_plCode.f
  exact Ev.bind (piDigits_ev s 1 6 hs) (Ev.val rfl)
theorem isCode_f (s : ByteArray) (hs : s.size ≤ 140737488355328) : impl_isCode.f s = some (codeB s) := by
  unfold impl_isCode.f
  rw [isDigits_f s 1 6 hs]; rfl

/-- does a code begin a text -/
def begB (c t : ByteArray) : Bool := c.data.toList.isPrefixOf t.data.toList
theorem prefix_take (c t : List UInt8) : (decide (c.length ≤ t.length) && (t.take c.length == c)) = c.isPrefixOf t := by
  induction c generalizing t with
  | nil => simp
  | cons a c ih =>
    cases t with
    | nil => simp
    | cons b t =>
      simp only [List.length_cons, List.take_succ_cons, List.isPrefixOf_cons_cons, ← ih t]
      have hs : (b == a) = (a == b) := Bool.beq_comm
      by_cases h : c.length ≤ t.length <;> simp [h, hs]
theorem plBegins_f (c t : ByteArray) : spec_plBegins.f c t = some (begB c t) := by
  unfold spec_plBegins.f begB
  rw [← prefix_take]
  by_cases h : (c.size : Int) ≤ (t.size : Int)
  · rw [if_pos h, if_pos (by omega), Int.toNat_natCast, toList_data, toList_data, data_extract, List.drop_zero, ← size_data, ← size_data]
    simp [show c.size ≤ t.size by omega]
  · rw [if_neg h, ← size_data, ← size_data]
    simp [show ¬ c.size ≤ t.size by omega]
theorem hasPrefix_f (t c : ByteArray) : strings_HasPrefix.f t c = some (begB c t) := by
  unfold strings_HasPrefix.f stringslite_HasPrefix.f begB
  rw [← prefix_take]
  by_cases h : (t.size : Int) ≥ (c.size : Int)
  · rw [if_pos h, if_pos (by omega), if_pos (by omega), Int.toNat_natCast, toList_data, toList_data, data_extract, List.drop_zero, ← size_data, ← size_data]
    simp [show c.size ≤ t.size by omega]
  · rw [if_neg h, ← size_data, ← size_data]
    simp [show ¬ c.size ≤ t.size by omega]
theorem begins_f (c t : ByteArray) : impl_begins.f c t = some (begB c t) := by
  unfold impl_begins.f
  rw [hasPrefix_f]; rfl

def lessB (a b : ByteArray) : Bool := Op.bytesLess a.toList b.toList
def stepB (a b : ByteArray) : Bool := lessB a b && !begB a b
def chainB : List ByteArray → Bool
  | a :: b :: r => stepB a b && chainB (b :: r)
  | _ => true
/-- a plan -/
def goodB (l : List ByteArray) : Bool := decide (1 ≤ (l.length : Int)) && decide ((l.length : Int) ≤ 20) && l.all codeB && chainB l

section
variable (l : List ByteArray) (hl : l.length ≤ 1048576) (hs : ∀ y ∈ l, y.size ≤ 1048576)
include hl hs
theorem plCodes_l0 : ∀ (d i : Nat), i + d = l.length → Ev (fun k => spec_plCodes.l0 k l (l.length : Int) (i : Int)) ((l.drop i).all codeB)
  | 0, i, h => by
    refine Ev.step (fun k => rfl) (Ev.neg (by omega) (Ev.val ?_))
    rw [List.drop_of_length_le (by omega)]; rfl
  | d + 1, i, h => by
    have hi : i < l.length := by omega
    have hy := hs l[i] (List.getElem_mem hi)
    refine Ev.step (fun k => rfl) (Ev.pos (by omega) (Ev.pos (by omega) (Ev.pos (by omega) ?_)))
    rw [rdS_nat hi, wrap_nat (by omega), List.drop_eq_getElem_cons hi, List.all_cons]
    refine Ev.bind (plCode_ev _ (by omega)) ?_
    cases codeB l[i] with
    | true => exact Ev.pos rfl (by simpa using plCodes_l0 d (i + 1) (by omega))
    | false => exact Ev.neg (by simp) (Ev.val (by simp))
theorem plCodes_ev : Ev (fun k => spec_plCodes.f k l) (decide (1 ≤ (l.length : Int)) && decide ((l.length : Int) ≤ 20) && l.all codeB) := by
  unfold spec_plCodes.f
  refine Ev.vbind (l1In_f _ _ _) ?_
  cases decide (1 ≤ (l.length : Int)) && decide ((l.length : Int) ≤ 20) with
  | true => exact Ev.pos rfl (by simpa using plCodes_l0 l hl hs l.length 0 (by omega))
  | false => exact Ev.neg (by simp) (Ev.val (by simp))
omit hs in
end
section
variable (l : List ByteArray) (hl : l.length ≤ 1048577) (hs : ∀ y ∈ l, y.size ≤ 1048576)
include hl hs
end
end Go.Proofs.YtphdlbdmdokfaaaDoor.PA

/-! The conflicts of codes: the reference and the program list the same. No condition but bounds. -/
namespace Go.Proofs.YtphdlbdmdokfaaaDoor.PA
open Go.RowKit Go.Proofs.YtphdlbdmdokfaaaDoorW.PrintWords Go.Proofs.YtphdlbdmdokfaaaDoorW.PrintLast Go.Proofs.YtphdlbdmdokfaaaDoorW.PrintMore
set_option linter.unusedVariables false

/-- the pairs of one code, from a place on -/
def rowC (l : List ByteArray) (i : Nat) (a : ByteArray) : Nat → Nat → List (List Int)
  | 0, _ => []
  | q + 1, k => (if (i : Int) = (k : Int) then [] else if begB a (l.getD k ByteArray.empty) = true then [[(i : Int), (k : Int)]] else []) ++ rowC l i a q (k + 1)
def confC (l : List ByteArray) : Nat → Nat → List (List Int)
  | 0, _ => []
  | q + 1, i => rowC l i (l.getD i ByteArray.empty) l.length 0 ++ confC l q (i + 1)

theorem spec_c1 (l : List ByteArray) (hl : l.length ≤ 20) (i : Nat) (a : ByteArray) (hi : i < l.length) (P : ∀ (out : List (List Int)), out.length ≤ 100 * (i + 1) → Ev (fun k => spec_ConflictsOf.l0 k l out l (l.length : Int) ((i + 1 : Nat) : Int)) (out ++ confC l (l.length - (i + 1)) (i + 1), true)) (q : Nat) :
    ∀ (b : Nat) (out : List (List Int)), b + q = l.length → out.length + q ≤ 100 * (i + 1) → Ev (fun k => spec_ConflictsOf.l1 k l out (i : Int) a l (l.length : Int) (i : Int) l (l.length : Int) (b : Int)) (out ++ (rowC l i a q b ++ confC l (l.length - (i + 1)) (i + 1)), true) := by
  induction q with
  | zero =>
    intro b out hb ho
    refine Ev.step (fun k => by rw [spec_ConflictsOf.l1]) ?_
    refine Ev.neg (by omega) ?_
    rw [wrap_nat (by omega)]
    simpa [rowC] using P out (by omega)
  | succ q ih =>
    intro b out hb ho
    have hbl : b < l.length := by omega
    have hg : l.getD b ByteArray.empty = l[b] := by simp [hbl]
    refine Ev.step (fun k => by rw [spec_ConflictsOf.l1]) ?_
    refine Ev.pos (by omega) (Ev.pos (by omega) (Ev.pos (by omega) ?_))
    rw [rdS_nat hbl, wrap_nat (by omega)]
    refine Ev.ite (fun h => ?_) (fun h => ?_)
    · refine Ev.eq (ih (b + 1) out (by omega) (by omega)) ?_
      rw [rowC, if_pos h, List.nil_append]
    · refine Ev.vbind (plBegins_f _ _) (Ev.ite (fun hh => ?_) (fun hh => ?_))
      · refine Ev.pos (by omega) (Ev.eq (ih (b + 1) (out ++ [[(i : Int), (b : Int)]]) (by omega) (by simp; omega)) ?_)
        rw [rowC, if_neg h, hg, if_pos hh]
        simp
      · refine Ev.eq (ih (b + 1) out (by omega) (by omega)) ?_
        rw [rowC, if_neg h, hg, if_neg hh, List.nil_append]
theorem spec_c0 (l : List ByteArray) (hl : l.length ≤ 20) (q : Nat) : ∀ (i : Nat) (out : List (List Int)), i + q = l.length → out.length ≤ 100 * i → Ev (fun k => spec_ConflictsOf.l0 k l out l (l.length : Int) (i : Int)) (out ++ confC l q i, true) := by
  induction q with
  | zero =>
    intro i out h ho
    refine Ev.step (fun k => by rw [spec_ConflictsOf.l0]) ?_
    exact Ev.neg (by omega) (Ev.val (by simp [confC]))
  | succ q ih =>
    intro i out h ho
    have hi : i < l.length := by omega
    have hg : l.getD i ByteArray.empty = l[i] := by simp [hi]
    refine Ev.step (fun k => by rw [spec_ConflictsOf.l0]) ?_
    refine Ev.pos (by omega) (Ev.pos (by omega) (Ev.pos (by omega) ?_))
    rw [rdS_nat hi]
    have e : l.length - (i + 1) = q := by omega
    have := spec_c1 l hl i l[i] hi (fun o ho => by rw [e]; exact ih (i + 1) o (by omega) ho) l.length 0 out (by omega) (by omega)
    rw [e] at this
    rw [confC, hg]
    exact this

theorem impl_c1 (l : List ByteArray) (hl : l.length ≤ 20) (i : Nat) (a : ByteArray) (hi : i < l.length) (P : ∀ (out : List (List Int)), out.length ≤ 100 * (i + 1) → Ev (fun k => impl_ConflictsOf.l0 k l out l (l.length : Int) ((i + 1 : Nat) : Int)) (out ++ confC l (l.length - (i + 1)) (i + 1), true)) (q : Nat) :
    ∀ (b : Nat) (out : List (List Int)), b + q = l.length → out.length + q ≤ 100 * (i + 1) → Ev (fun k => impl_ConflictsOf.l1 k l out (i : Int) a l (l.length : Int) (i : Int) l (l.length : Int) (b : Int)) (out ++ (rowC l i a q b ++ confC l (l.length - (i + 1)) (i + 1)), true) := by
  induction q with
  | zero =>
    intro b out hb ho
    refine Ev.step (fun k => by rw [impl_ConflictsOf.l1]) ?_
    refine Ev.neg (by omega) ?_
    rw [wrap_nat (by omega)]
    simpa [rowC] using P out (by omega)
  | succ q ih =>
    intro b out hb ho
    have hbl : b < l.length := by omega
    have hg : l.getD b ByteArray.empty = l[b] := by simp [hbl]
    refine Ev.step (fun k => by rw [impl_ConflictsOf.l1]) ?_
    refine Ev.pos (by omega) (Ev.pos (by omega) (Ev.pos (by omega) ?_))
    rw [rdS_nat hbl, wrap_nat (by omega)]
    refine Ev.ite (fun h => ?_) (fun h => ?_)
    · refine Ev.eq (ih (b + 1) out (by omega) (by omega)) ?_
      rw [rowC, if_pos h, List.nil_append]
    · refine Ev.vbind (begins_f _ _) (Ev.ite (fun hh => ?_) (fun hh => ?_))
      · refine Ev.pos (by omega) (Ev.eq (ih (b + 1) (out ++ [[(i : Int), (b : Int)]]) (by omega) (by simp; omega)) ?_)
        rw [rowC, if_neg h, hg, if_pos hh]
        simp
      · refine Ev.eq (ih (b + 1) out (by omega) (by omega)) ?_
        rw [rowC, if_neg h, hg, if_neg hh, List.nil_append]
theorem impl_c0 (l : List ByteArray) (hl : l.length ≤ 20) (q : Nat) : ∀ (i : Nat) (out : List (List Int)), i + q = l.length → out.length ≤ 100 * i → Ev (fun k => impl_ConflictsOf.l0 k l out l (l.length : Int) (i : Int)) (out ++ confC l q i, true) := by
  induction q with
  | zero =>
    intro i out h ho
    refine Ev.step (fun k => by rw [impl_ConflictsOf.l0]) ?_
    exact Ev.neg (by omega) (Ev.val (by simp [confC]))
  | succ q ih =>
    intro i out h ho
    have hi : i < l.length := by omega
    have hg : l.getD i ByteArray.empty = l[i] := by simp [hi]
    refine Ev.step (fun k => by rw [impl_ConflictsOf.l0]) ?_
    refine Ev.pos (by omega) (Ev.pos (by omega) (Ev.pos (by omega) ?_))
    rw [rdS_nat hi]
    have e : l.length - (i + 1) = q := by omega
    have := impl_c1 l hl i l[i] hi (fun o ho => by rw [e]; exact ih (i + 1) o (by omega) ho) l.length 0 out (by omega) (by omega)
    rw [e] at this
    rw [confC, hg]
    exact this
end Go.Proofs.YtphdlbdmdokfaaaDoor.PA

/-! The laws' marks: marking a row writes texts that the holder then finds. No condition but bounds. -/
namespace Go.Proofs.YtphdlbdmdokfaaaDoor.PA
open Go.RowKit Go.Proofs.YtphdlbdmdokfaaaDoorW.PrintWords
set_option linter.unusedVariables false

theorem num1_size (z : Int) : (strOfNums [z]).size = 1 := rfl
theorem markText_l0 : ∀ (f n : Nat) (x : ByteArray), n ≤ f → x.size + n ≤ 4611686018427387903 → ∃ t, Ev (fun k => laws_markText.l0 k (n : Int) x) t
  | f, 0, x, _, h => by
    refine ⟨(⟨#[109]⟩ : ByteArray) ++ x, ?_⟩
    refine Ev.step (fun k => by rw [laws_markText.l0]) ?_
    exact Ev.neg (by omega) (Ev.pos (by omega) (Ev.val rfl))
  | 0, n + 1, x, hf, _ => by omega
  | f + 1, n + 1, x, hf, h => by
    have hz : (strOfNums [wrap64 (48 + Int.tmod ((n + 1 : Nat) : Int) 10) % 256] ++ x).size = x.size + 1 := by rw [size_append, num1_size]; omega
    have hd : wrap64 (Int.tdiv ((n + 1 : Nat) : Int) 10) = (((n + 1) / 10 : Nat) : Int) := by
      rw [Int.tdiv_eq_ediv_of_nonneg (by omega), wrap_in (by omega) (by omega)]; omega
    obtain ⟨t, ht⟩ := markText_l0 f ((n + 1) / 10) (strOfNums [wrap64 (48 + Int.tmod ((n + 1 : Nat) : Int) 10) % 256] ++ x) (by omega) (by rw [hz]; omega)
    refine ⟨t, ?_⟩
    refine Ev.step (fun k => by rw [laws_markText.l0]) ?_
    refine Ev.pos (by omega) (Ev.vbind rfl (Ev.pos (by rw [num1_size]; omega) ?_))
    rw [hd]
    exact ht
theorem markText_ex (n : Nat) (hn : n ≤ 1099511627776) : ∃ t, Ev (fun k => laws_markText.f k (n : Int)) t := by
  unfold laws_markText.f
  by_cases h : (n : Int) ≤ 0
  · exact ⟨_, Ev.pos h (Ev.val rfl)⟩
  · obtain ⟨t, ht⟩ := markText_l0 n n ⟨#[]⟩ (Nat.le_refl _) (by show 0 + n ≤ _; omega)
    exact ⟨t, Ev.neg h ht⟩
open Classical in
noncomputable def markT (n : Nat) : ByteArray := if h : ∃ t, Ev (fun k => laws_markText.f k (n : Int)) t then h.choose else ⟨#[]⟩
theorem markT_ev (n : Nat) (hn : n ≤ 1099511627776) : Ev (fun k => laws_markText.f k (n : Int)) (markT n) := by
  have h := markText_ex n hn
  unfold markT
  rw [dif_pos h]
  exact h.choose_spec
/-- the marks of so many places -/
noncomputable def marksT (n m : Nat) : List ByteArray := (List.range m).map (fun j => markT (n + j))
theorem marksT_len (n m : Nat) : (marksT n m).length = m := by simp [marksT]
theorem mark_l0 (n m : Nat) (hn : n + m ≤ 1099511627776) : ∀ (d i : Nat) (x : List ByteArray), i + d = m → x.length = m → x.take i = (marksT n m).take i → Ev (fun k => laws_markStringS.l0 k x ((n + i : Nat) : Int) (i : Int)) (((n + m : Nat) : Int), marksT n m)
  | 0, i, x, h, hx, ht => by
    refine Ev.step (fun k => by rw [laws_markStringS.l0]) ?_
    refine Ev.neg (by omega) (Ev.val ?_)
    rw [List.take_of_length_le (by omega), List.take_of_length_le (by rw [marksT_len]; omega)] at ht
    rw [ht, show n + i = n + m by omega]
  | d + 1, i, x, h, hx, ht => by
    refine Ev.step (fun k => by rw [laws_markStringS.l0]) ?_
    refine Ev.pos (by omega) (Ev.bind (markT_ev (n + i) (by omega)) (Ev.pos (by omega) ?_))
    rw [wrap_nat (by omega), wrap_nat (by omega), Int.toNat_natCast]
    refine mark_l0 n m hn d (i + 1) _ (by omega) (by simpa using hx) ?_
    rw [take_succ_get (by simp; omega), take_succ_get (show i < (marksT n m).length by rw [marksT_len]; omega), List.take_set_of_le (Nat.le_refl _), ht]
    simp [marksT]
theorem markStringS_ev (l : List ByteArray) (n : Nat) (hn : n + l.length ≤ 1099511627776) : Ev (fun k => laws_markStringS.f k l (n : Int)) (((n + l.length : Nat) : Int), marksT n l.length) :=
  mark_l0 n l.length hn l.length 0 l (by omega) rfl (by simp)
end Go.Proofs.YtphdlbdmdokfaaaDoor.PA
