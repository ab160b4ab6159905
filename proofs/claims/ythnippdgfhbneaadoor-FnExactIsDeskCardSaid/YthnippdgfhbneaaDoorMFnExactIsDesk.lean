/- The plain facts that the law FnExactIsDesk's proof leans on, in one text: each part has its own sentence. No condition but bounds. -/
import Derived.Test.YthnippdgfhbneaaDoorPAx0
import Derived.Test.YthnippdgfhbneaaDoorPAx1
import Derived.Test.YthnippdgfhbneaaDoorPAx4
import Derived.Test.YthnippdgfhbneaaDoorPAx8
import Derived.Lib.Strings
import Derived.Test.YthnippdgfhbneaaDoorWWords
import Derived.Test.YthnippdgfhbneaaDoorWMore
import Derived.Test.YthnippdgfhbneaaDoorXX
import Derived.Lib.Bytealg
/-! Plain facts that the laws' pure proofs share: answers from some number of rounds on, numbers without wrap, strings as lists of bytes. No condition. -/
namespace Go.Proofs.YthnippdgfhbneaaDoor.PA
open Go.RowKit Go.Proofs.YthnippdgfhbneaaDoorW.PrintWords
set_option linter.unusedVariables false

theorem Ev.pos {α : Type} {c : Prop} [Decidable c] {a b : Nat → Option α} {r : α} (hc : c) (h : Ev a r) : Ev (fun k => if c then a k else b k) r := Ev.congr (fun k => if_pos hc) h
theorem Ev.neg {α : Type} {c : Prop} [Decidable c] {a b : Nat → Option α} {r : α} (hc : ¬ c) (h : Ev b r) : Ev (fun k => if c then a k else b k) r := Ev.congr (fun k => if_neg hc) h
theorem Ev.ite {α : Type} {c : Prop} [Decidable c] {a b : Nat → Option α} {r : α} (h1 : c → Ev a r) (h2 : ¬ c → Ev b r) : Ev (fun k => if c then a k else b k) r := by
  by_cases hc : c
  · exact Ev.pos hc (h1 hc)
  · exact Ev.neg hc (h2 hc)
theorem Ev.val {α : Type} {o : Option α} {r : α} (h : o = some r) : Ev (fun _ => o) r := ⟨0, fun _ _ => h⟩
theorem Ev.vbind {α β : Type} {o : Option α} {f : Nat → α → Option β} {a : α} {r : β} (h : o = some a) (k : Ev (fun n => f n a) r) : Ev (fun n => o.bind (f n)) r := Ev.bind (g := fun _ => o) (Ev.val h) k
theorem Ev.unique {α : Type} {g : Nat → Option α} {a b : α} (h : Ev g a) (k : Ev g b) : a = b := by
  obtain ⟨K, h⟩ := h
  obtain ⟨K', k⟩ := k
  exact Option.some.inj ((h (max K K') (Nat.le_max_left _ _)).symm.trans (k (max K K') (Nat.le_max_right _ _)))
theorem Ev.eq {α : Type} {g : Nat → Option α} {a b : α} (h : Ev g a) (e : a = b) : Ev g b := e ▸ h

theorem wrap_nat {i : Nat} (h : i < 4611686018427387904) : wrap64 ((i : Int) + 1) = ((i + 1 : Nat) : Int) := by unfold wrap64; omega
theorem wrap_in {n : Int} (h : -9223372036854775808 ≤ n) (h2 : n ≤ 9223372036854775807) : wrap64 n = n := by unfold wrap64; omega
theorem rd_nat {l : List Int} {i : Nat} (h : i < l.length) : rd l (i : Int) = l[i] := by simp [rd, h]
theorem rdS_nat {l : List ByteArray} {i : Nat} (h : i < l.length) : rdOf ByteArray.empty l (i : Int) = l[i] := by simp [rdOf, h]
theorem bt_nat {s : ByteArray} {i : Nat} (h : i < s.size) : bt s (i : Int) = ((s.data.toList[i]'(by simpa using h)).toNat : Int) := by
  unfold bt
  rw [dif_pos (by simpa using h)]
  rfl
theorem toList_data (s : ByteArray) : s.toList = s.data.toList := Go.Lib.toList_data s
theorem size_data (s : ByteArray) : s.size = s.data.toList.length := rfl
theorem ba_ext {a b : ByteArray} (h : a.data.toList = b.data.toList) : a = b := by
  cases a with
  | mk a => cases b with
    | mk b => exact congrArg ByteArray.mk (Array.toList_inj.mp h)
theorem toList_inj {a b : ByteArray} : a.toList = b.toList ↔ a = b := ⟨fun h => ba_ext (by rw [← toList_data, ← toList_data, h]), fun h => by rw [h]⟩
theorem toList_mk (l : List UInt8) : (⟨l.toArray⟩ : ByteArray).toList = l := by rw [toList_data]
theorem data_extract (s : ByteArray) (a b : Nat) : (s.extract a b).data.toList = (s.data.toList.take b).drop a := by
  rw [ByteArray.data_extract, Array.toList_extract, List.extract_eq_take_drop, List.drop_take]
theorem data_append (a b : ByteArray) : (a ++ b).data.toList = a.data.toList ++ b.data.toList := by
  rw [ByteArray.data_append, Array.toList_append]
theorem size_append (a b : ByteArray) : (a ++ b).size = a.size + b.size := by rw [size_data, data_append, List.length_append]; rfl
theorem take_succ_get {α : Type} {l : List α} {i : Nat} (h : i < l.length) : l.take (i + 1) = l.take i ++ [l[i]] := by
  rw [List.take_add_one, List.getElem?_eq_getElem h]; rfl

/-- digits alone -/
def digB (c : UInt8) : Bool := decide (48 ≤ c.toNat) && decide (c.toNat ≤ 57)
def digitsB (s : ByteArray) (lo hi : Int) : Bool := decide (lo ≤ (s.size : Int)) && decide ((s.size : Int) ≤ hi) && s.data.toList.all digB
theorem contains_dig (c : UInt8) : ([48, 49, 50, 51, 52, 53, 54, 55, 56, 57] : List UInt8).contains c = digB c := by
  have h : ∀ n : Fin 256, ([48, 49, 50, 51, 52, 53, 54, 55, 56, 57] : List UInt8).contains (UInt8.ofNat n.val) = digB (UInt8.ofNat n.val) := by decide +kernel
  have := h ⟨c.toNat, c.toNat_lt⟩
  simpa using this
end Go.Proofs.YthnippdgfhbneaaDoor.PA

/-! Is a number within bounds: the reference's and the program's own. No condition. -/
namespace Go.Proofs.YthnippdgfhbneaaDoor.PA
open Go.RowKit Go.Proofs.YthnippdgfhbneaaDoorW.PrintWords
set_option linter.unusedVariables false

theorem l1In_f (a b c : Int) : spec_l1In.f a b c = some (decide (b ≤ a) && decide (a ≤ c)) := by
  unfold spec_l1In.f
  by_cases h : a ≥ b
  · rw [if_pos h]; simp [show b ≤ a from h]
  · rw [if_neg h]; simp [show ¬ b ≤ a from h]
theorem in_f (a b c : Int) : impl_in.f a b c = some (decide (b ≤ a) && decide (a ≤ c)) := by
  unfold impl_in.f
  by_cases h : a ≥ b
  · rw [if_pos h]; simp [show b ≤ a from h]
  · rw [if_neg h]; simp [show ¬ b ≤ a from h]
end Go.Proofs.YthnippdgfhbneaaDoor.PA

/-! Facts about every byte, checked byte by byte. No condition. -/
namespace Go.Proofs.YthnippdgfhbneaaDoor.PA
open Go.RowKit Go.Proofs.YthnippdgfhbneaaDoorW.PrintWords
set_option linter.unusedVariables false

theorem byte_all {p : UInt8 → Prop} (h : ∀ n : Fin 256, p (UInt8.ofNat n.val)) (c : UInt8) : p c := by
  have := h ⟨c.toNat, c.toNat_lt⟩
  simpa using this
theorem byte_nat {p : Nat → UInt8 → Prop} (h : ∀ n : Fin 256, p n.val (UInt8.ofNat n.val)) (c : UInt8) : p c.toNat c := by
  have := h ⟨c.toNat, c.toNat_lt⟩
  simpa using this
/-- more rounds tell the same -/
theorem Ev.at {α : Type} {g : Nat → Option α} (m : ∀ k, LeO (g k) (g (k + 1))) {n : Nat} {r : α} (h : g n = some r) : Ev g r := by
  refine ⟨n, fun k hk => ?_⟩
  have := leO_add m h (k - n)
  rwa [show n + (k - n) = k by omega] at this
end Go.Proofs.YthnippdgfhbneaaDoor.PA

/-! Dialled keys: the reference and the program ask for the same. No condition but bounds. -/
namespace Go.Proofs.YthnippdgfhbneaaDoor.PA
open Go.RowKit Go.Proofs.YthnippdgfhbneaaDoorW.PrintWords
set_option linter.unusedVariables false

/-- the pad's keys in their order -/
def padL : List UInt8 := [49, 50, 51, 52, 53, 54, 55, 56, 57, 42, 48, 35]
def placeI (c : UInt8) : Int := Lib.indexByte padL c
def keyB (c : UInt8) : Bool := padL.contains c
def dialB (s : ByteArray) : Bool := decide ((s.size : Int) ≤ 30) && s.data.toList.all keyB
theorem place_256 : ∀ n : Fin 256, spec_thPlace.f 13 (n.val : Int) = some (placeI (UInt8.ofNat n.val)) := by decide +kernel
theorem thPlace_ev (c : UInt8) : Ev (fun k => spec_thPlace.f k (c.toNat : Int)) (placeI c) :=
  Ev.at (fun k => spec_thPlace.mono _ k) (byte_nat (p := fun n c => spec_thPlace.f 13 (n : Int) = some (placeI c)) place_256 c)
theorem key_256 : ∀ n : Fin 256, keyB (UInt8.ofNat n.val) = !decide (placeI (UInt8.ofNat n.val) < 0) := by decide +kernel
theorem key_place (c : UInt8) : keyB c = !decide (placeI c < 0) := byte_all (p := fun c => keyB c = !decide (placeI c < 0)) key_256 c
theorem thGood_l0 (s : ByteArray) (hs : s.size ≤ 4611686018427387903) : ∀ (d i : Nat), i + d = s.size → Ev (fun k => spec_thGood.l0 k s (i : Int)) ((s.data.toList.drop i).all keyB)
  | 0, i, h => by
    refine Ev.step (fun k => by rw [spec_thGood.l0]) (Ev.neg (by omega) (Ev.val ?_))
    rw [List.drop_of_length_le (by rw [← size_data]; omega)]; rfl
  | d + 1, i, h => by
    have hi : i < s.data.toList.length := by rw [← size_data]; omega
    have ih := thGood_l0 s hs d (i + 1) (by omega)
    refine Ev.step (fun k => by rw [spec_thGood.l0]) (Ev.pos (by omega) (Ev.pos (by omega) ?_))
    rw [bt_nat (by omega), List.drop_eq_getElem_cons hi, List.all_cons, wrap_nat (by omega), key_place]
    refine Ev.bind (thPlace_ev _) (Ev.ite (fun e => Ev.val ?_) (fun e => ?_))
    · rw [decide_eq_true e]; rfl
    · rw [decide_eq_false e]; exact ih
theorem thGood_ev (s : ByteArray) (hs : s.size ≤ 4611686018427387903) : Ev (fun k => spec_thGood.f k s) (dialB s) := by
  unfold spec_thGood.f dialB
  refine Ev.ite (fun e => Ev.val ?_) (fun e => ?_)
  · rw [decide_eq_false (by omega)]; rfl
  · rw [decide_eq_true (by omega), Bool.true_and]
    have := thGood_l0 s hs s.size 0 (by omega)
    rwa [List.drop_zero] at this
theorem isDialed_f (s : ByteArray) : impl_IsDialed.f s = some (dialB s) := by
  unfold impl_IsDialed.f dialB
  by_cases e : (s.size : Int) ≤ 30
  · rw [if_pos e, decide_eq_true e, Bool.true_and]
    unfold impl_over.f
    rw [if_pos ⟨by omega, by decide, by decide⟩, Option.bind_some]
    rfl
  · rw [if_neg e, decide_eq_false e]; rfl
end Go.Proofs.YthnippdgfhbneaaDoor.PA

/-! Words of small letters: the reference and the program ask for the same. No condition but bounds. -/
namespace Go.Proofs.YthnippdgfhbneaaDoor.PA
open Go.RowKit Go.Proofs.YthnippdgfhbneaaDoorW.PrintWords
set_option linter.unusedVariables false

def letB (c : UInt8) : Bool := decide (97 ≤ c.toNat) && decide (c.toNat ≤ 122)
def wordB (s : ByteArray) : Bool := decide (1 ≤ (s.size : Int)) && decide ((s.size : Int) ≤ 40) && s.data.toList.all letB
theorem let_256 : ∀ n : Fin 256, ([97, 98, 99, 100, 101, 102, 103, 104, 105, 106, 107, 108, 109, 110, 111, 112, 113, 114, 115, 116, 117, 118, 119, 120, 121, 122] : List UInt8).contains (UInt8.ofNat n.val) = letB (UInt8.ofNat n.val) := by decide +kernel
theorem contains_let (c : UInt8) : ([97, 98, 99, 100, 101, 102, 103, 104, 105, 106, 107, 108, 109, 110, 111, 112, 113, 114, 115, 116, 117, 118, 119, 120, 121, 122] : List UInt8).contains c = letB c := byte_all (p := fun c => ([97, 98, 99, 100, 101, 102, 103, 104, 105, 106, 107, 108, 109, 110, 111, 112, 113, 114, 115, 116, 117, 118, 119, 120, 121, 122] : List UInt8).contains c = letB c) let_256 c
theorem prWord_l0 (s : ByteArray) (hs : s.size ≤ 4611686018427387903) : ∀ (d i : Nat), i + d = s.size → Ev (fun k => spec_prWord.l0 k s (i : Int)) ((s.data.toList.drop i).all letB)
  | 0, i, h => by
    refine Ev.step (fun k => by rw [spec_prWord.l0]) (Ev.neg (by omega) (Ev.val ?_))
    rw [List.drop_of_length_le (by rw [← size_data]; omega)]; rfl
  | d + 1, i, h => by
    have hi : i < s.data.toList.length := by rw [← size_data]; omega
    have ih := prWord_l0 s hs d (i + 1) (by omega)
    refine Ev.step (fun k => by rw [spec_prWord.l0]) (Ev.pos (by omega) (Ev.pos (by omega) ?_))
    rw [bt_nat (by omega), List.drop_eq_getElem_cons hi, List.all_cons, wrap_nat (by omega)]
    unfold letB
    refine Ev.ite (fun e => Ev.val ?_) (fun e => Ev.ite (fun e2 => Ev.val ?_) (fun e2 => ?_))
    · simp only [show ¬ 97 ≤ (s.data.toList[i]).toNat by omega, decide_false, Bool.false_and]
    · simp only [show ¬ (s.data.toList[i]).toNat ≤ 122 by omega, decide_false, Bool.and_false, Bool.false_and]
    · simp only [show 97 ≤ (s.data.toList[i]).toNat by omega, show (s.data.toList[i]).toNat ≤ 122 by omega, decide_true, Bool.true_and]
      exact ih
theorem prWord_ev (s : ByteArray) (hs : s.size ≤ 4611686018427387903) : Ev (fun k => spec_prWord.f k s) (wordB s) := by
  unfold spec_prWord.f wordB
  rw [l1In_f]
  cases decide (1 ≤ (s.size : Int)) && decide ((s.size : Int) ≤ 40) with
  | false => exact Ev.vbind rfl (Ev.neg (by simp) (Ev.val rfl))
  | true =>
    have := prWord_l0 s hs s.size 0 (by omega)
    rw [List.drop_zero] at this
    exact Ev.vbind rfl (Ev.pos rfl (by rw [Bool.true_and]; exact this))
theorem isWord_f (s : ByteArray) : impl_IsWord.f s = some (wordB s) := by
  unfold impl_IsWord.f wordB
  rw [in_f, Option.bind_some]
  cases e : decide (1 ≤ (s.size : Int)) && decide ((s.size : Int) ≤ 40) with
  | false => rw [if_neg (by simp)]; rfl
  | true =>
    simp only [Bool.and_eq_true, decide_eq_true_eq] at e
    unfold impl_over.f
    rw [if_pos rfl, if_pos ⟨by omega, by decide, by decide⟩, Option.bind_some, Bool.true_and]
    exact congrArg (fun f => some (s.data.toList.all f)) (funext contains_let)
end Go.Proofs.YthnippdgfhbneaaDoor.PA

/-! Pieces: the reference and the program ask for the same. No condition. -/
namespace Go.Proofs.YthnippdgfhbneaaDoor.PA
open Go.RowKit Go.Proofs.YthnippdgfhbneaaDoorW.PrintWords
set_option linter.unusedVariables false

def pieceB (s : ByteArray) : Bool := s.toList == ([110] : List UInt8) || s.toList == ([107] : List UInt8) || s.toList == ([114] : List UInt8) || s.toList == ([98] : List UInt8)
theorem wkPiece_f (s : ByteArray) : spec_wkPiece.f s = some (pieceB s) := by
  unfold spec_wkPiece.f pieceB
  by_cases a : s.toList = ([110] : List UInt8)
  · rw [if_pos a, a]; rfl
  · rw [if_neg a, beq_eq_false_iff_ne.mpr a]
    by_cases b : s.toList = ([107] : List UInt8)
    · rw [if_pos b, b]; rfl
    · rw [if_neg b, beq_eq_false_iff_ne.mpr b]
      by_cases c : s.toList = ([114] : List UInt8)
      · rw [if_pos c, c]; rfl
      · rw [if_neg c, beq_eq_false_iff_ne.mpr c]; rfl
theorem piece_256 : ∀ n : Fin 256, decide (Lib.indexByte ([110, 107, 114, 98] : List UInt8) (UInt8.ofNat n.val) ≥ 0) = (([UInt8.ofNat n.val] : List UInt8) == [110] || ([UInt8.ofNat n.val] : List UInt8) == [107] || ([UInt8.ofNat n.val] : List UInt8) == [114] || ([UInt8.ofNat n.val] : List UInt8) == [98]) := by decide +kernel
theorem isPiece_f (s : ByteArray) : impl_isPiece.f s = some (pieceB s) := by
  unfold impl_isPiece.f
  by_cases e : (s.size : Int) = 1
  · rw [if_pos e]
    unfold strings_Contains.f strings_Index.f stringslite_Index.f pieceB
    rw [if_pos (by omega), Option.bind_some, Option.bind_some, Option.bind_some, toList_data]
    have hl : s.data.toList.length = 1 := by rw [← size_data]; omega
    generalize s.data.toList = l at hl ⊢
    match l, hl with
    | [c], _ =>
      congr 1
      exact byte_all (p := fun c => decide (Lib.indexByte ([110, 107, 114, 98] : List UInt8) c ≥ 0) = (([c] : List UInt8) == [110] || ([c] : List UInt8) == [107] || ([c] : List UInt8) == [114] || ([c] : List UInt8) == [98])) piece_256 c
  · rw [if_neg e]
    unfold pieceB
    congr 1
    have hl : s.toList.length ≠ 1 := by rw [toList_data, ← size_data]; omega
    have h : ∀ c : UInt8, (s.toList == [c]) = false := fun c => beq_eq_false_iff_ne.mpr (fun h => hl (by rw [h]; rfl))
    rw [h, h, h, h]; rfl
end Go.Proofs.YthnippdgfhbneaaDoor.PA
