/- The plain facts that the law FnExactMissedSwaps's proof leans on, in one text: each part has its own sentence. No condition but bounds. -/
import Derived.Test.YtepkhpnoibillaaPAx0
import Derived.Test.YtepkhpnoibillaaPAx1
import Derived.Test.YtepkhpnoibillaaPAx2
import Derived.Lib.Strings
import Derived.Test.YtepkhpnoibillaaWWords
import Derived.Test.YtepkhpnoibillaaWMore
import Derived.Test.YtepkhpnoibillaaXX
/-! Plain facts that the laws' pure proofs share: answers from some number of rounds on, numbers without wrap, strings as lists of bytes. No condition. -/
namespace Go.Proofs.Ytepkhpnoibillaa.PA
open Go.RowKit Go.Proofs.YtepkhpnoibillaaW.PrintWords
set_option linter.unusedVariables false

theorem Ev.pos {α : Type} {c : Prop} [Decidable c] {a b : Nat → Option α} {r : α} (hc : c) (h : Ev a r) : Ev (fun k => if c then a k else b k) r := Ev.congr (fun k => if_pos hc) h
theorem Ev.neg {α : Type} {c : Prop} [Decidable c] {a b : Nat → Option α} {r : α} (hc : ¬ c) (h : Ev b r) : Ev (fun k => if c then a k else b k) r := Ev.congr (fun k => if_neg hc) h
theorem Ev.ite {α : Type} {c : Prop} [Decidable c] {a b : Nat → Option α} {r : α} (h1 : c → Ev a r) (h2 : ¬ c → Ev b r) : Ev (fun k => if c then a k else b k) r := by
  by_cases hc : c
  · exact Ev.pos hc (h1 hc)
  · exact Ev.neg hc (h2 hc)
theorem Ev.val {α : Type} {o : Option α} {r : α} (h : o = some r) : Ev (fun _ => o) r := ⟨0, fun _ _ => h⟩
theorem Ev.vbind {α β : Type} {o : Option α} {f : Nat → α → Option β} {a : α} {r : β} (h : o = some a) (k : Ev (fun n => f n a) r) : Ev (fun n => o.bind (f n)) r := Ev.bind (g := fun _ => o) (Ev.val h) k
theorem Ev.unique {α : Type} {g : Nat → Option α} {a b : α} (h : Ev g a) (k : Ev g b) : a = b := by
  obtain ⟨K, h⟩ := h
  obtain ⟨K', k⟩ := k
  exact Option.some.inj ((h (max K K') (Nat.le_max_left _ _)).symm.trans (k (max K K') (Nat.le_max_right _ _)))
theorem Ev.eq {α : Type} {g : Nat → Option α} {a b : α} (h : Ev g a) (e : a = b) : Ev g b := e ▸ h

theorem wrap_nat {i : Nat} (h : i < 4611686018427387904) : wrap64 ((i : Int) + 1) = ((i + 1 : Nat) : Int) := by unfold wrap64; omega
theorem wrap_in {n : Int} (h : -9223372036854775808 ≤ n) (h2 : n ≤ 9223372036854775807) : wrap64 n = n := by unfold wrap64; omega
theorem rd_nat {l : List Int} {i : Nat} (h : i < l.length) : rd l (i : Int) = l[i] := by simp [rd, h]
theorem rdS_nat {l : List ByteArray} {i : Nat} (h : i < l.length) : rdOf ByteArray.empty l (i : Int) = l[i] := by simp [rdOf, h]
theorem bt_nat {s : ByteArray} {i : Nat} (h : i < s.size) : bt s (i : Int) = ((s.data.toList[i]'(by simpa using h)).toNat : Int) := by
  unfold bt
  rw [dif_pos (by simpa using h)]
  rfl
theorem toList_data (s : ByteArray) : s.toList = s.data.toList := Go.Lib.toList_data s
theorem size_data (s : ByteArray) : s.size = s.data.toList.length := rfl
theorem ba_ext {a b : ByteArray} (h : a.data.toList = b.data.toList) : a = b := by
  cases a with
  | mk a => cases b with
    | mk b => exact congrArg ByteArray.mk (Array.toList_inj.mp h)
theorem toList_inj {a b : ByteArray} : a.toList = b.toList ↔ a = b := ⟨fun h => ba_ext (by rw [← toList_data, ← toList_data, h]), fun h => by rw [h]⟩
theorem toList_mk (l : List UInt8) : (⟨l.toArray⟩ : ByteArray).toList = l := by rw [toList_data]
theorem data_extract (s : ByteArray) (a b : Nat) : (s.extract a b).data.toList = (s.data.toList.take b).drop a := by
  rw [ByteArray.data_extract, Array.toList_extract, List.extract_eq_take_drop, List.drop_take]
theorem data_append (a b : ByteArray) : (a ++ b).data.toList = a.data.toList ++ b.data.toList := by
  rw [ByteArray.data_append, Array.toList_append]
theorem size_append (a b : ByteArray) : (a ++ b).size = a.size + b.size := by rw [size_data, data_append, List.length_append]; rfl
theorem take_succ_get {α : Type} {l : List α} {i : Nat} (h : i < l.length) : l.take (i + 1) = l.take i ++ [l[i]] := by
  rw [List.take_add_one, List.getElem?_eq_getElem h]; rfl

/-- digits alone -/
def digB (c : UInt8) : Bool := decide (48 ≤ c.toNat) && decide (c.toNat ≤ 57)
def digitsB (s : ByteArray) (lo hi : Int) : Bool := decide (lo ≤ (s.size : Int)) && decide ((s.size : Int) ≤ hi) && s.data.toList.all digB
theorem contains_dig (c : UInt8) : ([48, 49, 50, 51, 52, 53, 54, 55, 56, 57] : List UInt8).contains c = digB c := by
  have h : ∀ n : Fin 256, ([48, 49, 50, 51, 52, 53, 54, 55, 56, 57] : List UInt8).contains (UInt8.ofNat n.val) = digB (UInt8.ofNat n.val) := by decide +kernel
  have := h ⟨c.toNat, c.toNat_lt⟩
  simpa using this
end Go.Proofs.Ytepkhpnoibillaa.PA

/-! The laws' equality over lists of whole numbers is equality. No condition but bounds. -/
namespace Go.Proofs.Ytepkhpnoibillaa.PA
open Go.RowKit Go.Proofs.YtepkhpnoibillaaW.PrintWords
set_option linter.unusedVariables false

theorem eqIntS_l0 (a b : List Int) (hab : a.length = b.length) (hl : a.length ≤ 4611686018427387903) : ∀ (d i : Nat), i + d = a.length → a.take i = b.take i → Ev (fun k => laws_eqIntS.l0 k a b (i : Int)) (decide (a = b))
  | 0, i, h, ht => by
    refine Ev.step (fun k => by rw [laws_eqIntS.l0]) ?_
    refine Ev.neg (by omega) (Ev.val ?_)
    rw [List.take_of_length_le (by omega), List.take_of_length_le (by omega)] at ht
    simp [ht]
  | d + 1, i, h, ht => by
    refine Ev.step (fun k => by rw [laws_eqIntS.l0]) ?_
    refine Ev.pos (by omega) (Ev.pos (by omega) (Ev.pos (by omega) ?_))
    rw [rd_nat (show i < a.length by omega), rd_nat (show i < b.length by omega), wrap_nat (by omega)]
    refine Ev.ite (fun e => ?_) (fun e => Ev.val ?_)
    · refine eqIntS_l0 a b hab hl d (i + 1) (by omega) ?_
      rw [take_succ_get (by omega), take_succ_get (by omega), ht, e]
    · have : ¬ a = b := fun e2 => e (by subst e2; rfl)
      simp [this]
theorem eqIntS_ev {a b : List Int} (hl : a.length ≤ 4611686018427387903) : Ev (fun k => laws_eqIntS.f k a b) (decide (a = b)) := by
  unfold laws_eqIntS.f
  refine Ev.ite (fun e => ?_) (fun e => Ev.val ?_)
  · exact eqIntS_l0 a b (by omega) hl a.length 0 (by omega) (by simp)
  · have : ¬ a = b := fun e2 => e (by rw [e2])
    simp [this]
end Go.Proofs.Ytepkhpnoibillaa.PA

/-! The laws' marks on rows of numbers: marking a row writes numbers that the holder then finds. No condition but bounds. -/
namespace Go.Proofs.Ytepkhpnoibillaa.PA
open Go.RowKit Go.Proofs.YtepkhpnoibillaaW.PrintWords
set_option linter.unusedVariables false

def marksI (n m : Nat) : List Int := (List.range m).map (fun j => ((n + j : Nat) : Int))
theorem marksI_len (n m : Nat) : (marksI n m).length = m := by simp [marksI]
theorem markI_l0 (n m : Nat) (hn : n + m ≤ 1099511627776) : ∀ (d i : Nat) (x : List Int), i + d = m → x.length = m → x.take i = (marksI n m).take i → Ev (fun k => laws_markIntS.l0 k x ((n + i : Nat) : Int) (i : Int)) (((n + m : Nat) : Int), marksI n m)
  | 0, i, x, h, hx, ht => by
    refine Ev.step (fun k => by rw [laws_markIntS.l0]) ?_
    refine Ev.neg (by omega) (Ev.val ?_)
    rw [List.take_of_length_le (by omega), List.take_of_length_le (by rw [marksI_len]; omega)] at ht
    rw [ht, show n + i = n + m by omega]
  | d + 1, i, x, h, hx, ht => by
    refine Ev.step (fun k => by rw [laws_markIntS.l0]) ?_
    refine Ev.pos (by omega) (Ev.pos (by omega) ?_)
    rw [wrap_nat (by omega), wrap_nat (by omega), Int.toNat_natCast]
    refine markI_l0 n m hn d (i + 1) _ (by omega) (by simpa using hx) ?_
    rw [take_succ_get (by simp; omega), take_succ_get (show i < (marksI n m).length by rw [marksI_len]; omega), List.take_set_of_le (Nat.le_refl _), ht]
    simp [marksI]
theorem markIntS_ev (l : List Int) (n : Nat) (hn : n + l.length ≤ 1099511627776) : Ev (fun k => laws_markIntS.f k l (n : Int)) (((n + l.length : Nat) : Int), marksI n l.length) :=
  markI_l0 n l.length hn l.length 0 l (by omega) rfl (by simp)
end Go.Proofs.Ytepkhpnoibillaa.PA

/-! The laws' marks on rows of numbers: the holder finds them. No condition but bounds. -/
namespace Go.Proofs.Ytepkhpnoibillaa.PA
open Go.RowKit Go.Proofs.YtepkhpnoibillaaW.PrintWords
set_option linter.unusedVariables false

theorem heldI_l0 (n m : Nat) (hn : n + m ≤ 1099511627776) : ∀ (d i : Nat), i + d = m → Ev (fun k => laws_heldIntS.l0 k (marksI n m) ((n + i : Nat) : Int) (i : Int)) ((n + m : Nat) : Int)
  | 0, i, h => by
    refine Ev.step (fun k => by rw [laws_heldIntS.l0]) ?_
    refine Ev.neg (by rw [marksI_len]; omega) (Ev.val ?_)
    rw [show n + i = n + m by omega]
  | d + 1, i, h => by
    refine Ev.step (fun k => by rw [laws_heldIntS.l0]) ?_
    refine Ev.pos (by rw [marksI_len]; omega) (Ev.pos (by omega) ?_)
    rw [rd_nat (by rw [marksI_len]; omega), wrap_nat (by omega), wrap_nat (by omega)]
    refine Ev.pos (by simp [marksI]) ?_
    exact heldI_l0 n m hn d (i + 1) (by omega)
theorem heldIntS_ev (n m : Nat) (hn : n + m ≤ 1099511627776) : Ev (fun k => laws_heldIntS.f k (marksI n m) (n : Int)) ((n + m : Nat) : Int) :=
  heldI_l0 n m hn m 0 (by omega)
end Go.Proofs.Ytepkhpnoibillaa.PA

/-! The laws' equality over rows of rows of numbers says yes of a list and itself; marks on such rows are found again. No condition but bounds. -/
namespace Go.Proofs.Ytepkhpnoibillaa.PA
open Go.RowKit Go.Proofs.YtepkhpnoibillaaW.PrintWords
set_option linter.unusedVariables false

theorem rdL_nat {l : List (List Int)} {i : Nat} (h : i < l.length) : rd_L1 l (i : Int) = l[i] := by simp [rd_L1, h]
theorem eqIntSS_l0 (a : List (List Int)) (hl : a.length ≤ 4611686018427387903) (hr : ∀ x ∈ a, x.length ≤ 4611686018427387903) : ∀ (d i : Nat), i + d = a.length → Ev (fun k => laws_eqIntSS.l0 k a a (i : Int)) true
  | 0, i, h => by
    refine Ev.step (fun k => by rw [laws_eqIntSS.l0]) ?_
    exact Ev.neg (by omega) (Ev.val rfl)
  | d + 1, i, h => by
    refine Ev.step (fun k => by rw [laws_eqIntSS.l0]) ?_
    refine Ev.pos (by omega) (Ev.pos (by omega) (Ev.pos (by omega) ?_))
    rw [rdL_nat (show i < a.length by omega), wrap_nat (by omega)]
    refine Ev.bind (Ev.eq (eqIntS_ev (hr _ (List.getElem_mem _))) (by simp)) (Ev.pos rfl ?_)
    exact eqIntSS_l0 a hl hr d (i + 1) (by omega)
theorem eqIntSS_ev {a : List (List Int)} (hl : a.length ≤ 4611686018427387903) (hr : ∀ x ∈ a, x.length ≤ 4611686018427387903) : Ev (fun k => laws_eqIntSS.f k a a) true := by
  unfold laws_eqIntSS.f
  exact Ev.pos rfl (eqIntSS_l0 a hl hr a.length 0 (by omega))
/-- how many numbers stand in rows -/
def totSS : List (List Int) → Nat
  | [] => 0
  | x :: xs => x.length + totSS xs
def marksSS : Nat → List (List Int) → List (List Int)
  | _, [] => []
  | n, x :: xs => marksI n x.length :: marksSS (n + x.length) xs
theorem marksSS_ev : ∀ (l : List (List Int)) (n : Nat), n + totSS l ≤ 1099511627776 → Ev (fun k => markSS k l (n : Int)) (((n + totSS l : Nat) : Int), marksSS n l)
  | [], n, _ => Ev.val rfl
  | x :: xs, n, h => by
    have h' : n + x.length + totSS xs ≤ 1099511627776 := by simp only [totSS] at h; omega
    unfold markSS
    refine Ev.bind (markIntS_ev x n (by omega)) ?_
    refine Ev.bind (marksSS_ev xs (n + x.length) h') (Ev.val ?_)
    rw [show n + x.length + totSS xs = n + totSS (x :: xs) by simp only [totSS]; omega]
    rfl
theorem markIntSS_ev (l : List (List Int)) (n : Nat) (hl : l.length ≤ 1048576) (h : n + totSS l ≤ 1099511627776) : Ev (fun k => laws_markIntSS.f k l (n : Int)) (((n + totSS l : Nat) : Int), marksSS n l) := by
  unfold laws_markIntSS.f
  exact Ev.pos hl (marksSS_ev l n h)
theorem marksSS_len : ∀ (l : List (List Int)) (n : Nat), (marksSS n l).length = l.length
  | [], _ => rfl
  | x :: xs, n => by simp only [marksSS, List.length_cons, marksSS_len xs]
theorem heldSS_l0 (L : List (List Int)) (hL : L.length ≤ 1048576) : ∀ (l : List (List Int)) (n i : Nat), n + totSS l ≤ 1099511627776 → L.drop i = marksSS n l → Ev (fun k => laws_heldIntSS.l0 k L (n : Int) (i : Int)) ((n + totSS l : Nat) : Int)
  | [], n, i, h, hd => by
    have hi : L.length ≤ i := by simpa [marksSS] using hd
    refine Ev.step (fun k => by rw [laws_heldIntSS.l0]) ?_
    exact Ev.neg (by omega) (Ev.val rfl)
  | x :: xs, n, i, h, hd => by
    have hi : i < L.length := by
      by_cases e : i < L.length
      · exact e
      · rw [List.drop_of_length_le (by omega)] at hd; simp [marksSS] at hd
    have h' : n + x.length + totSS xs ≤ 1099511627776 := by simp only [totSS] at h; omega
    rw [List.drop_eq_getElem_cons hi, marksSS] at hd
    injection hd with h1 h2
    refine Ev.step (fun k => by rw [laws_heldIntSS.l0]) ?_
    refine Ev.pos (by omega) (Ev.pos (by omega) ?_)
    rw [rdL_nat hi, h1, wrap_nat (by omega)]
    refine Ev.bind (heldIntS_ev n x.length (by omega)) (Ev.neg (by omega) ?_)
    rw [show n + totSS (x :: xs) = n + x.length + totSS xs by simp only [totSS]; omega]
    exact heldSS_l0 L hL xs (n + x.length) (i + 1) h' h2
theorem heldIntSS_ev (l : List (List Int)) (n : Nat) (hl : l.length ≤ 1048576) (h : n + totSS l ≤ 1099511627776) : Ev (fun k => laws_heldIntSS.f k (marksSS n l) (n : Int)) ((n + totSS l : Nat) : Int) :=
  heldSS_l0 (marksSS n l) (by rw [marksSS_len]; exact hl) l n 0 h rfl
end Go.Proofs.Ytepkhpnoibillaa.PA

/-! Is a number within bounds: the reference's and the program's own. No condition. -/
namespace Go.Proofs.Ytepkhpnoibillaa.PA
open Go.RowKit Go.Proofs.YtepkhpnoibillaaW.PrintWords
set_option linter.unusedVariables false

theorem l1In_f (a b c : Int) : spec_l1In.f a b c = some (decide (b ≤ a) && decide (a ≤ c)) := by
  unfold spec_l1In.f
  by_cases h : a ≥ b
  · rw [if_pos h]; simp [show b ≤ a from h]
  · rw [if_neg h]; simp [show ¬ b ≤ a from h]
theorem in_f (a b c : Int) : impl_in.f a b c = some (decide (b ≤ a) && decide (a ≤ c)) := by
  unfold impl_in.f
  by_cases h : a ≥ b
  · rw [if_pos h]; simp [show b ≤ a from h]
  · rw [if_neg h]; simp [show ¬ b ≤ a from h]
end Go.Proofs.Ytepkhpnoibillaa.PA

/-! The laws' own helpers over lists of whole numbers: copying keeps them. No condition but bounds. -/
namespace Go.Proofs.Ytepkhpnoibillaa.PA
open Go.RowKit Go.Proofs.YtepkhpnoibillaaW.PrintWords
set_option linter.unusedVariables false

theorem toIntS_l0 (l : List Int) (hl : l.length ≤ 4611686018427387903) : ∀ (d i : Nat) (x : List Int), i + d = l.length → x.length = l.length → x.take i = l.take i → Ev (fun k => laws_toIntS.l0 k l x (i : Int)) l
  | 0, i, x, h, hx, ht => by
    refine Ev.step (fun k => by rw [laws_toIntS.l0]) ?_
    refine Ev.neg (by omega) (Ev.val ?_)
    rw [List.take_of_length_le (by omega), List.take_of_length_le (by omega)] at ht
    rw [ht]
  | d + 1, i, x, h, hx, ht => by
    refine Ev.step (fun k => by rw [laws_toIntS.l0]) ?_
    refine Ev.pos (by omega) (Ev.pos (by omega) (Ev.pos (by omega) ?_))
    rw [rd_nat (show i < l.length by omega), wrap_nat (by omega), Int.toNat_natCast]
    refine toIntS_l0 l hl d (i + 1) _ (by omega) (by simpa using hx) ?_
    rw [take_succ_get (by simp; omega), take_succ_get (show i < l.length by omega), List.take_set_of_le (Nat.le_refl _), ht]
    simp
theorem toIntS_ev {l : List Int} (hl : l.length ≤ 17592186044416) : Ev (fun k => laws_toIntS.f k l) l := by
  unfold laws_toIntS.f
  refine Ev.pos (by omega) (Ev.pos (by omega) ?_)
  exact toIntS_l0 l (by omega) l.length 0 _ (by omega) (by simp) (by simp)
end Go.Proofs.Ytepkhpnoibillaa.PA

/-! Schemes, sums and checks: the reference's and the program's are one. No condition but bounds. -/
namespace Go.Proofs.Ytepkhpnoibillaa.PA
open Go.RowKit Go.Proofs.YtepkhpnoibillaaW.PrintWords
set_option linter.unusedVariables false

def wB (m w : Int) : Bool := decide (0 ≤ w) && decide (w ≤ wrap64 (m - 1))
def schB (m : Int) (l : List Int) : Bool := decide (2 ≤ m) && decide (m ≤ 13) && (decide (1 ≤ (l.length : Int)) && decide ((l.length : Int) ≤ 12)) && l.all (wB m)
theorem sch_l0 (m : Int) (l : List Int) (hl : l.length ≤ 1048576) : ∀ (d i : Nat), i + d = l.length → Ev (fun k => spec_l1All.l0 k 0 (wrap64 (m - 1)) l (l.length : Int) (i : Int)) ((l.drop i).all (wB m))
  | 0, i, h => by
    refine Ev.step (fun k => by rw [spec_l1All.l0]) ?_
    refine Ev.neg (by omega) (Ev.val ?_)
    rw [List.drop_of_length_le (by omega)]; rfl
  | d + 1, i, h => by
    have hi : i < l.length := by omega
    refine Ev.step (fun k => by rw [spec_l1All.l0]) ?_
    refine Ev.pos (by omega) (Ev.pos (by omega) (Ev.pos (by omega) ?_))
    rw [rd_nat hi, wrap_nat (by omega), List.drop_eq_getElem_cons hi, List.all_cons]
    refine Ev.vbind (l1In_f _ _ _) ?_
    have ih := sch_l0 m l hl d (i + 1) (by omega)
    show Ev (fun k => if wB m l[i] = true then _ else _) _
    cases wB m l[i] with
    | true => exact Ev.pos rfl (by rw [Bool.true_and]; exact ih)
    | false => exact Ev.neg (by simp) (Ev.val rfl)
theorem ckGood_ev (m : Int) (l : List Int) (hl : l.length ≤ 1048576) : Ev (fun k => spec_ckGood.f k m l) (schB m l) := by
  unfold spec_ckGood.f schB
  refine Ev.vbind (l1In_f _ _ _) ?_
  cases decide (2 ≤ m) && decide (m ≤ 13) with
  | false => exact Ev.neg (by simp) (Ev.val rfl)
  | true =>
    refine Ev.pos rfl (Ev.vbind (l1In_f _ _ _) ?_)
    cases decide (1 ≤ (l.length : Int)) && decide ((l.length : Int) ≤ 12) with
    | false => exact Ev.neg (by simp) (Ev.val rfl)
    | true =>
      have h := sch_l0 m l hl l.length 0 (by omega)
      rw [List.drop_zero] at h
      exact Ev.pos rfl (Ev.bind (g := fun k => spec_l1All.f k l 0 (wrap64 (m - 1))) h (Ev.val rfl))
theorem isScheme_f (m : Int) (l : List Int) (hl : l.length ≤ 1048576) : impl_IsScheme.f m l = some (schB m l) := by
  unfold impl_IsScheme.f schB
  have hany : anyO (fun x => (impl_in.f x 0 (wrap64 (m - 1))).map (!·)) l = some (l.any (fun x => !wB m x)) := by
    refine anyO_pure _ _ l (fun x _ => ?_)
    rw [in_f]; rfl
  rw [hany, Option.bind_some, if_pos (by omega)]
  have e : l.any (fun x => !wB m x) = !l.all (wB m) := by
    clear hany hl
    induction l with
    | nil => rfl
    | cons a l ih => rw [List.any_cons, List.all_cons, ih, Bool.not_and]
  rw [e, Bool.not_not]
theorem sch_facts {m : Int} {l : List Int} (h : schB m l = true) : 2 ≤ m ∧ m ≤ 13 ∧ 1 ≤ l.length ∧ l.length ≤ 12 ∧ ∀ w ∈ l, 0 ≤ w ∧ w ≤ 12 := by
  unfold schB at h
  simp only [Bool.and_eq_true, List.all_eq_true, decide_eq_true_eq] at h
  have hw : wrap64 (m - 1) = m - 1 := wrap_in (by omega) (by omega)
  refine ⟨by omega, by omega, by omega, by omega, fun w hw2 => ?_⟩
  have := h.2 w hw2
  unfold wB at this
  simp only [Bool.and_eq_true, decide_eq_true_eq, hw] at this
  omega
/-- the laws' own helpers -/
theorem szScheme_f {m : Int} {l : List Int} (hl : l.length ≤ maxLen) : ∃ v, laws_szScheme.f m l 1048576 = some v ∧ (v < 0 ∨ l.length ≤ 1048576) := by
  unfold maxLen at hl
  unfold laws_szScheme.f laws_szIntS.f
  have hw : wrap64 (1048576 - (l.length : Int)) = 1048576 - (l.length : Int) := wrap_in (by omega) (by omega)
  rw [hw]
  by_cases e : 1048576 - (l.length : Int) < 0
  · rw [if_pos e, Option.bind_some, if_pos (by omega)]; exact ⟨-1, rfl, .inl (by omega)⟩
  · rw [if_neg e, Option.bind_some, if_neg e]; exact ⟨_, rfl, .inr (by omega)⟩
theorem toScheme_ev {m : Int} {l : List Int} (hl : l.length ≤ 1048576) : Ev (fun k => laws_toScheme.f k m l) (m, l) := by
  unfold laws_toScheme.f
  exact Ev.bind (toIntS_ev (by omega)) (Ev.val rfl)
theorem eqScheme_ev {m : Int} {l : List Int} (hl : l.length ≤ 1048576) : Ev (fun k => laws_eqScheme.f k m l m l) true := by
  unfold laws_eqScheme.f
  exact Ev.pos rfl (Ev.bind (eqIntS_ev (by omega)) (Ev.pos (by simp) (Ev.val rfl)))
end Go.Proofs.Ytepkhpnoibillaa.PA

/-! The two digits that a weight misses: the reference and the program list the same. No condition but bounds. -/
namespace Go.Proofs.Ytepkhpnoibillaa.PA
open Go.RowKit Go.Proofs.YtepkhpnoibillaaW.PrintWords Go.Proofs.YtepkhpnoibillaaW.PrintLast Go.Proofs.YtepkhpnoibillaaW.PrintMore
set_option linter.unusedVariables false

theorem rowP_facts (p : Nat → Nat → Bool) (a : Nat) : ∀ (q b : Nat), (rowP p a q b).length ≤ q ∧ totSS (rowP p a q b) = 2 * (rowP p a q b).length ∧ ∀ x ∈ rowP p a q b, x.length = 2
  | 0, _ => by simp [rowP, totSS]
  | q + 1, b => by
    obtain ⟨h1, h2, h3⟩ := rowP_facts p a q (b + 1)
    unfold rowP
    split
    · refine ⟨by simp; omega, by simp [totSS, h2]; omega, ?_⟩
      intro x hx
      rcases List.mem_append.mp hx with h | h
      · simp at h; subst h; rfl
      · exact h3 x h
    · exact ⟨by simp; omega, by simpa using h2, by simpa using h3⟩
theorem totSS_append : ∀ (a b : List (List Int)), totSS (a ++ b) = totSS a + totSS b
  | [], b => by simp [totSS]
  | x :: xs, b => by simp only [List.cons_append, totSS, totSS_append xs b]; omega
theorem pairsP_facts (p : Nat → Nat → Bool) : ∀ (q a : Nat), (pairsP p q a).length ≤ 9 * q ∧ totSS (pairsP p q a) = 2 * (pairsP p q a).length ∧ ∀ x ∈ pairsP p q a, x.length = 2
  | 0, _ => by simp [pairsP, totSS]
  | q + 1, a => by
    obtain ⟨h1, h2, h3⟩ := pairsP_facts p q (a + 1)
    obtain ⟨g1, g2, g3⟩ := rowP_facts p a (9 - a) (a + 1)
    unfold pairsP
    refine ⟨by rw [List.length_append]; omega, by rw [totSS_append, h2, g2, List.length_append]; omega, ?_⟩
    intro x hx
    rcases List.mem_append.mp hx with h | h
    · exact g3 x h
    · exact h3 x h
section
variable {x m t : Int} (hm : m ≠ 0) (ht : spec_l1Abs.f x = some t)
include hm ht
theorem missed_l1 (a : Nat) (P : ∀ (out : List (List Int)), out.length ≤ 100 * (a + 1) → Ev (fun k => spec_ckMissed.l0 k x m out ((a + 1 : Nat) : Int)) (out ++ pairsP (missP m t) (10 - (a + 1)) (a + 1))) (ha : a < 10) :
    ∀ (q b : Nat) (out : List (List Int)), b + q = 10 → out.length + q ≤ 100 * (a + 1) → Ev (fun k => spec_ckMissed.l1 k x m out (a : Int) (b : Int)) (out ++ (rowP (missP m t) a q b ++ pairsP (missP m t) (10 - (a + 1)) (a + 1)))
  | 0, b, out, hb, ho => by
    refine Ev.step (fun k => by rw [spec_ckMissed.l1]) ?_
    refine Ev.neg (by omega) ?_
    rw [wrap_nat (by omega)]
    simpa [rowP] using P out (by omega)
  | q + 1, b, out, hb, ho => by
    refine Ev.step (fun k => by rw [spec_ckMissed.l1]) ?_
    refine Ev.pos (by omega) (Ev.vbind ht (Ev.neg hm ?_))
    rw [wrap_nat (by omega)]
    refine Ev.ite (fun h => ?_) (fun h => ?_)
    · refine Ev.pos (by omega) ?_
      have := missed_l1 a P ha q (b + 1) (out ++ [[(a : Int), (b : Int)]]) (by omega) (by simp; omega)
      refine Ev.eq this ?_
      rw [rowP, if_pos (show missP m t a b = true by unfold missP; simpa using h)]
      simp
    · have := missed_l1 a P ha q (b + 1) out (by omega) (by omega)
      refine Ev.eq this ?_
      rw [rowP, if_neg (show ¬ missP m t a b = true by unfold missP; simpa using h)]
      simp
theorem missed_l0 : ∀ (q a : Nat) (out : List (List Int)), a + q = 10 → out.length ≤ 100 * a → Ev (fun k => spec_ckMissed.l0 k x m out (a : Int)) (out ++ pairsP (missP m t) q a)
  | 0, a, out, h, ho => by
    refine Ev.step (fun k => by rw [spec_ckMissed.l0]) ?_
    exact Ev.neg (by omega) (Ev.val (by simp [pairsP]))
  | q + 1, a, out, h, ho => by
    refine Ev.step (fun k => by rw [spec_ckMissed.l0]) ?_
    refine Ev.pos (by omega) ?_
    rw [wrap_nat (by omega)]
    have e : 10 - (a + 1) = q := by omega
    have := missed_l1 hm ht a (fun o ho => by rw [e]; exact missed_l0 q (a + 1) o (by omega) ho) (by omega) (9 - a) (a + 1) out (by omega) (by omega)
    rw [e] at this
    exact this
theorem ckMissed_ev : Ev (fun k => spec_ckMissed.f k x m) (pairsP (missP m t) 10 0) := by
  unfold spec_ckMissed.f
  simpa using missed_l0 hm ht 10 0 [] (by omega) (by simp)
end
theorem abs_ex (x : Int) : ∃ t, spec_l1Abs.f x = some t ∧ impl_size.f x = some t := by
  refine ⟨mx x (wrap64 (-x)), ?_, rfl⟩
  unfold spec_l1Abs.f spec_l1Most.f mx
  by_cases h : x > wrap64 (-x)
  · rw [if_pos h, if_neg (by omega)]; rfl
  · by_cases h2 : x < wrap64 (-x)
    · rw [if_neg h, if_pos h2]; rfl
    · have : x = wrap64 (-x) := by omega
      rw [if_neg h, if_neg h2]; simp; omega
end Go.Proofs.Ytepkhpnoibillaa.PA
