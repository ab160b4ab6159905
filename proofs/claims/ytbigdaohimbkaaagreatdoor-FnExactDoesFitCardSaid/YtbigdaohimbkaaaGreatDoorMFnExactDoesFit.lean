/- The plain facts that the law FnExactDoesFit's proof leans on, in one text: each part has its own sentence. No condition but bounds. -/
import Derived.Test.YtbigdaohimbkaaaGreatDoorPAx0
import Derived.Test.YtbigdaohimbkaaaGreatDoorPAx1
import Derived.Test.YtbigdaohimbkaaaGreatDoorPAx2
import Derived.Test.YtbigdaohimbkaaaGreatDoorPAx3
import Derived.Test.YtbigdaohimbkaaaGreatDoorPAx4
import Derived.Test.YtbigdaohimbkaaaGreatDoorPAx5
import Derived.Lib.Strings
import Derived.Test.YtbigdaohimbkaaaGreatDoorWWords
import Derived.Test.YtbigdaohimbkaaaGreatDoorWMore
import Derived.Test.YtbigdaohimbkaaaGreatDoorXX
/-! Plain facts that the laws' pure proofs share: answers from some number of rounds on, numbers without wrap, strings as lists of bytes. No condition. -/
namespace Go.Proofs.YtbigdaohimbkaaaGreatDoor.PA
open Go.RowKit Go.Proofs.YtbigdaohimbkaaaGreatDoorW.PrintWords
set_option linter.unusedVariables false

theorem Ev.pos {α : Type} {c : Prop} [Decidable c] {a b : Nat → Option α} {r : α} (hc : c) (h : Ev a r) : Ev (fun k => if c then a k else b k) r := Ev.congr (fun k => if_pos hc) h
theorem Ev.neg {α : Type} {c : Prop} [Decidable c] {a b : Nat → Option α} {r : α} (hc : ¬ c) (h : Ev b r) : Ev (fun k => if c then a k else b k) r := Ev.congr (fun k => if_neg hc) h
theorem Ev.ite {α : Type} {c : Prop} [Decidable c] {a b : Nat → Option α} {r : α} (h1 : c → Ev a r) (h2 : ¬ c → Ev b r) : Ev (fun k => if c then a k else b k) r := by
  by_cases hc : c
  · exact Ev.pos hc (h1 hc)
  · exact Ev.neg hc (h2 hc)
theorem Ev.val {α : Type} {o : Option α} {r : α} (h : o = some r) : Ev (fun _ => o) r := ⟨0, fun _ _ => h⟩
theorem Ev.vbind {α β : Type} {o : Option α} {f : Nat → α → Option β} {a : α} {r : β} (h : o = some a) (k : Ev (fun n => f n a) r) : Ev (fun n => o.bind (f n)) r := Ev.bind (g := fun _ => o) (Ev.val h) k
theorem Ev.unique {α : Type} {g : Nat → Option α} {a b : α} (h : Ev g a) (k : Ev g b) : a = b := by
  obtain ⟨K, h⟩ := h
  obtain ⟨K', k⟩ := k
  exact Option.some.inj ((h (max K K') (Nat.le_max_left _ _)).symm.trans (k (max K K') (Nat.le_max_right _ _)))
theorem Ev.eq {α : Type} {g : Nat → Option α} {a b : α} (h : Ev g a) (e : a = b) : Ev g b := e ▸ h

theorem wrap_nat {i : Nat} (h : i < 4611686018427387904) : wrap64 ((i : Int) + 1) = ((i + 1 : Nat) : Int) := by unfold wrap64; omega
theorem wrap_in {n : Int} (h : -9223372036854775808 ≤ n) (h2 : n ≤ 9223372036854775807) : wrap64 n = n := by unfold wrap64; omega
theorem rd_nat {l : List Int} {i : Nat} (h : i < l.length) : rd l (i : Int) = l[i] := by simp [rd, h]
theorem rdS_nat {l : List ByteArray} {i : Nat} (h : i < l.length) : rdOf ByteArray.empty l (i : Int) = l[i] := by simp [rdOf, h]
theorem bt_nat {s : ByteArray} {i : Nat} (h : i < s.size) : bt s (i : Int) = ((s.data.toList[i]'(by simpa using h)).toNat : Int) := by
  unfold bt
  rw [dif_pos (by simpa using h)]
  rfl
theorem toList_data (s : ByteArray) : s.toList = s.data.toList := Go.Lib.toList_data s
theorem size_data (s : ByteArray) : s.size = s.data.toList.length := rfl
theorem ba_ext {a b : ByteArray} (h : a.data.toList = b.data.toList) : a = b := by
  cases a with
  | mk a => cases b with
    | mk b => exact congrArg ByteArray.mk (Array.toList_inj.mp h)
theorem toList_inj {a b : ByteArray} : a.toList = b.toList ↔ a = b := ⟨fun h => ba_ext (by rw [← toList_data, ← toList_data, h]), fun h => by rw [h]⟩
theorem toList_mk (l : List UInt8) : (⟨l.toArray⟩ : ByteArray).toList = l := by rw [toList_data]
theorem data_extract (s : ByteArray) (a b : Nat) : (s.extract a b).data.toList = (s.data.toList.take b).drop a := by
  rw [ByteArray.data_extract, Array.toList_extract, List.extract_eq_take_drop, List.drop_take]
theorem data_append (a b : ByteArray) : (a ++ b).data.toList = a.data.toList ++ b.data.toList := by
  rw [ByteArray.data_append, Array.toList_append]
theorem size_append (a b : ByteArray) : (a ++ b).size = a.size + b.size := by rw [size_data, data_append, List.length_append]; rfl
theorem take_succ_get {α : Type} {l : List α} {i : Nat} (h : i < l.length) : l.take (i + 1) = l.take i ++ [l[i]] := by
  rw [List.take_add_one, List.getElem?_eq_getElem h]; rfl

/-- digits alone -/
def digB (c : UInt8) : Bool := decide (48 ≤ c.toNat) && decide (c.toNat ≤ 57)
def digitsB (s : ByteArray) (lo hi : Int) : Bool := decide (lo ≤ (s.size : Int)) && decide ((s.size : Int) ≤ hi) && s.data.toList.all digB
theorem contains_dig (c : UInt8) : ([48, 49, 50, 51, 52, 53, 54, 55, 56, 57] : List UInt8).contains c = digB c := by
  have h : ∀ n : Fin 256, ([48, 49, 50, 51, 52, 53, 54, 55, 56, 57] : List UInt8).contains (UInt8.ofNat n.val) = digB (UInt8.ofNat n.val) := by decide +kernel
  have := h ⟨c.toNat, c.toNat_lt⟩
  simpa using this
end Go.Proofs.YtbigdaohimbkaaaGreatDoor.PA

/-! Is a number within bounds: the reference's and the program's own. No condition. -/
namespace Go.Proofs.YtbigdaohimbkaaaGreatDoor.PA
open Go.RowKit Go.Proofs.YtbigdaohimbkaaaGreatDoorW.PrintWords
set_option linter.unusedVariables false

theorem l1In_f (a b c : Int) : spec_l1In.f a b c = some (decide (b ≤ a) && decide (a ≤ c)) := by
  unfold spec_l1In.f
  by_cases h : a ≥ b
  · rw [if_pos h]; simp [show b ≤ a from h]
  · rw [if_neg h]; simp [show ¬ b ≤ a from h]
theorem in_f (a b c : Int) : impl_in.f a b c = some (decide (b ≤ a) && decide (a ≤ c)) := by
  unfold impl_in.f
  by_cases h : a ≥ b
  · rw [if_pos h]; simp [show b ≤ a from h]
  · rw [if_neg h]; simp [show ¬ b ≤ a from h]
end Go.Proofs.YtbigdaohimbkaaaGreatDoor.PA

/-! Facts about every byte, checked byte by byte. No condition. -/
namespace Go.Proofs.YtbigdaohimbkaaaGreatDoor.PA
open Go.RowKit Go.Proofs.YtbigdaohimbkaaaGreatDoorW.PrintWords
set_option linter.unusedVariables false

theorem byte_all {p : UInt8 → Prop} (h : ∀ n : Fin 256, p (UInt8.ofNat n.val)) (c : UInt8) : p c := by
  have := h ⟨c.toNat, c.toNat_lt⟩
  simpa using this
theorem byte_nat {p : Nat → UInt8 → Prop} (h : ∀ n : Fin 256, p n.val (UInt8.ofNat n.val)) (c : UInt8) : p c.toNat c := by
  have := h ⟨c.toNat, c.toNat_lt⟩
  simpa using this
/-- more rounds tell the same -/
theorem Ev.at {α : Type} {g : Nat → Option α} (m : ∀ k, LeO (g k) (g (k + 1))) {n : Nat} {r : α} (h : g n = some r) : Ev g r := by
  refine ⟨n, fun k hk => ?_⟩
  have := leO_add m h (k - n)
  rwa [show n + (k - n) = k by omega] at this
end Go.Proofs.YtbigdaohimbkaaaGreatDoor.PA

/-! What a clue tells of a hidden number: the reference and the program reckon the same, at every number of two or three digits. All eleven hundred numbers are gone through. -/
namespace Go.Proofs.YtbigdaohimbkaaaGreatDoor.PA
open Go.RowKit Go.Proofs.YtbigdaohimbkaaaGreatDoorW.PrintWords
set_option linter.unusedVariables false

def t2 (n : Nat) : ByteArray := ⟨#[UInt8.ofNat (48 + n / 10), UInt8.ofNat (48 + n % 10)]⟩
def t3 (n : Nat) : ByteArray := ⟨#[UInt8.ofNat (48 + n / 100), UInt8.ofNat (48 + n / 10 % 10), UInt8.ofNat (48 + n % 10)]⟩
/-- the knight's ways from every digit -/
def mvT : List (List Int) := [[4, 6], [6, 8], [7, 9], [4, 8], [0, 3, 9], [], [0, 1, 7], [2, 6], [1, 3], [2, 4]]
set_option maxRecDepth 100000 in
theorem mv : impl_moves.f 60 ⟨#[110]⟩ = some mvT := by
  have h : impl_moves.f 60 ⟨#[110]⟩ = some [([6, 4] : List Int).mergeSort (fun x y => decide (x ≤ y)), ([8, 6] : List Int).mergeSort (fun x y => decide (x ≤ y)), ([9, 7] : List Int).mergeSort (fun x y => decide (x ≤ y)), ([8, 4] : List Int).mergeSort (fun x y => decide (x ≤ y)), ([0, 9, 3] : List Int).mergeSort (fun x y => decide (x ≤ y)), ([] : List Int).mergeSort (fun x y => decide (x ≤ y)), ([0, 7, 1] : List Int).mergeSort (fun x y => decide (x ≤ y)), ([2, 6] : List Int).mergeSort (fun x y => decide (x ≤ y)), ([3, 1] : List Int).mergeSort (fun x y => decide (x ≤ y)), ([2, 4] : List Int).mergeSort (fun x y => decide (x ≤ y))] := by kernel_rfl
  rw [h]
  unfold mvT
  simp [List.mergeSort, List.MergeSort.Internal.splitInTwo]
/-- the knight's walk, over the table -/
def wlk (x : ByteArray) : Option Bool := (impl_isDigits.f x 1 40).bind fun t => if t = true then impl_isWalk.l0 60 x mvT 1 else some false
theorem wlk_eq (x : ByteArray) : impl_isWalk.f 60 ⟨#[110]⟩ x = wlk x := by
  unfold impl_isWalk.f wlk
  rw [mv]
  rfl
def okV (kind a : Int) (x : ByteArray) : Bool := match spec_pzValue.f 60 kind a x, impl_truth.f 60 kind a x with
  | some p, some q => decide (p = q)
  | _, _ => false
def okW (x : ByteArray) : Bool := match spec_pzValue.f 60 3 0 x, (wlk x).bind fun t => (impl_flag.f t).bind fun u => some u with
  | some p, some q => decide (p = q)
  | _, _ => false
theorem okV_at {kind a : Int} {x : ByteArray} (h : okV kind a x = true) : ∃ v, Ev (fun k => spec_pzValue.f k kind a x) v ∧ Ev (fun k => impl_truth.f k kind a x) v := by
  unfold okV at h
  split at h
  · rename_i p q hp hq
    have e := of_decide_eq_true h
    subst e
    exact ⟨p, Ev.at (fun k => spec_pzValue.mono _ _ _ k) hp, Ev.at (fun k => impl_truth.mono _ _ _ k) hq⟩
  · cases h
theorem okW_at {x : ByteArray} (h : okW x = true) : ∃ v, Ev (fun k => spec_pzValue.f k 3 0 x) v ∧ Ev (fun k => impl_truth.f k 3 0 x) v := by
  unfold okW at h
  split at h
  · rename_i p q hp hq
    have e := of_decide_eq_true h
    subst e
    refine ⟨p, Ev.at (fun k => spec_pzValue.mono _ _ _ k) hp, Ev.at (n := 60) (fun k => impl_truth.mono _ _ _ k) ?_⟩
    unfold impl_truth.f
    rw [if_neg (by decide), if_neg (by decide), if_neg (by decide), if_pos rfl, wlk_eq]
    exact hq
  · cases h
set_option maxRecDepth 100000
theorem k0_2 : ∀ n : Fin 100, okV 0 0 (t2 n.val) = true := by decide +kernel
theorem k0_3 : ∀ n : Fin 1000, okV 0 0 (t3 n.val) = true := by decide +kernel
theorem k1_2 : ∀ a : Fin 2, ∀ n : Fin 100, okV 1 (a.val : Int) (t2 n.val) = true := by decide +kernel
theorem k1_3 : ∀ a : Fin 3, ∀ n : Fin 1000, okV 1 (a.val : Int) (t3 n.val) = true := by decide +kernel
theorem k2_2 : ∀ n : Fin 100, okV 2 0 (t2 n.val) = true := by decide +kernel
theorem k2_3 : ∀ n : Fin 1000, okV 2 0 (t3 n.val) = true := by decide +kernel
theorem k3_2 : ∀ n : Fin 100, okW (t2 n.val) = true := by decide +kernel
theorem k3_3 : ∀ n : Fin 1000, okW (t3 n.val) = true := by decide +kernel
theorem k4_2 : ∀ a : Fin 8, ∀ n : Fin 100, okV 4 ((a.val : Int) + 2) (t2 n.val) = true := by decide +kernel
theorem k4_3 : ∀ a : Fin 8, ∀ n : Fin 1000, okV 4 ((a.val : Int) + 2) (t3 n.val) = true := by decide +kernel
theorem k5_2 : ∀ n : Fin 100, okV 5 0 (t2 n.val) = true := by decide +kernel
theorem k5_3 : ∀ n : Fin 1000, okV 5 0 (t3 n.val) = true := by decide +kernel
end Go.Proofs.YtbigdaohimbkaaaGreatDoor.PA

/-! Digits alone, as the program asks for them. No condition but bounds of size. -/
namespace Go.Proofs.YtbigdaohimbkaaaGreatDoor.PA
open Go.RowKit Go.Proofs.YtbigdaohimbkaaaGreatDoorW.PrintWords
set_option linter.unusedVariables false

theorem over_digits (s : ByteArray) (hs : s.size ≤ 140737488355328) : impl_over.f s (⟨#[48, 49, 50, 51, 52, 53, 54, 55, 56, 57]⟩ : ByteArray) = some (s.data.toList.all digB) := by
  unfold impl_over.f
  rw [if_pos ⟨hs, by decide, by decide⟩]
  congr 1
  exact congrArg (fun f => s.data.toList.all f) (funext contains_dig)
end Go.Proofs.YtbigdaohimbkaaaGreatDoor.PA

/-! Texts of digits, as the program asks for them. No condition but bounds of size. -/
namespace Go.Proofs.YtbigdaohimbkaaaGreatDoor.PA
open Go.RowKit Go.Proofs.YtbigdaohimbkaaaGreatDoorW.PrintWords
set_option linter.unusedVariables false

theorem isDigits_f (s : ByteArray) (lo hi : Int) (hs : s.size ≤ 140737488355328) : impl_isDigits.f s lo hi = some (digitsB s lo hi) := by
  unfold impl_isDigits.f digitsB
  rw [in_f, Option.bind_some]
  cases decide (lo ≤ (s.size : Int)) && decide ((s.size : Int) ≤ hi) with
  | true => rw [if_pos rfl, over_digits s hs]; simp
  | false => rw [if_neg (by simp)]; simp
end Go.Proofs.YtbigdaohimbkaaaGreatDoor.PA

/-! Texts of digits, as the reference and the program ask for them: one Bool for both. No condition but bounds of size. -/
namespace Go.Proofs.YtbigdaohimbkaaaGreatDoor.PA
open Go.RowKit Go.Proofs.YtbigdaohimbkaaaGreatDoorW.PrintWords
set_option linter.unusedVariables false

theorem piDigits_l0 (s : ByteArray) (hs : s.size ≤ 4611686018427387903) : ∀ (d i : Nat), i + d = s.size → Ev (fun k => spec_piDigits.l0 k s (i : Int)) ((s.data.toList.drop i).all digB)
  | 0, i, h => by
    refine Ev.step (fun k => rfl) (Ev.neg (by omega) (Ev.val ?_))
    rw [List.drop_of_length_le (by rw [← size_data]; omega)]; rfl
  | d + 1, i, h => by
    have hi : i < s.data.toList.length := by rw [← size_data]; omega
    refine Ev.step (fun k => rfl) (Ev.pos (by omega) (Ev.pos (by omega) ?_))
    rw [bt_nat (by omega), List.drop_eq_getElem_cons hi, List.all_cons, wrap_nat (by omega)]
    unfold digB
    refine Ev.ite (fun e => Ev.val ?_) (fun e => Ev.ite (fun e2 => Ev.val ?_) (fun e2 => ?_))
    · simp only [show ¬ 48 ≤ (s.data.toList[i]).toNat by omega, decide_false, Bool.false_and]
    · simp only [show ¬ (s.data.toList[i]).toNat ≤ 57 by omega, decide_false, Bool.and_false, Bool.false_and]
    · simp only [show 48 ≤ (s.data.toList[i]).toNat by omega, show (s.data.toList[i]).toNat ≤ 57 by omega, decide_true, Bool.true_and]
      exact piDigits_l0 s hs d (i + 1) (by omega)
theorem piDigits_ev (s : ByteArray) (lo hi : Int) (hs : s.size ≤ 4611686018427387903) : Ev (fun k => spec_piDigits.f k s lo hi) (digitsB s lo hi) := by
  unfold spec_piDigits.f digitsB
  refine Ev.vbind (l1In_f _ _ _) ?_
  cases decide (lo ≤ (s.size : Int)) && decide ((s.size : Int) ≤ hi) with
  | true => exact Ev.pos rfl (by simpa using piDigits_l0 s hs s.size 0 (by omega))
  | false => exact Ev.neg (by simp) (Ev.val (by simp))
end Go.Proofs.YtbigdaohimbkaaaGreatDoor.PA

/-! What a clue tells of a hidden number, of all such numbers. -/
namespace Go.Proofs.YtbigdaohimbkaaaGreatDoor.PA
open Go.RowKit Go.Proofs.YtbigdaohimbkaaaGreatDoorW.PrintWords
set_option linter.unusedVariables false

/-- a kind of clue and its place or divider -/
def pairOk (z : Nat) (k a : Int) : Prop := (k = 0 ∧ a = 0) ∨ (k = 1 ∧ 0 ≤ a ∧ a < z) ∨ (k = 2 ∧ a = 0) ∨ (k = 3 ∧ a = 0) ∨ (k = 4 ∧ 2 ≤ a ∧ a ≤ 9) ∨ (k = 5 ∧ a = 0)
theorem dig_num {b : UInt8} (h : digB b = true) : ∃ n, n < 10 ∧ b = UInt8.ofNat (48 + n) := by
  have h' : 48 ≤ b.toNat ∧ b.toNat ≤ 57 := by unfold digB at h; simpa using h
  refine ⟨b.toNat - 48, by omega, ?_⟩
  rw [show 48 + (b.toNat - 48) = b.toNat by omega]
  exact (UInt8.ofNat_toNat).symm
theorem num_2 {x : ByteArray} (hz : x.size = 2) (h : x.data.toList.all digB = true) : ∃ n : Fin 100, x = t2 n.val := by
  have hz' : x.data.toList.length = 2 := hz
  obtain ⟨a, b, hl⟩ : ∃ a b, x.data.toList = [a, b] := by
    match hm : x.data.toList, hz' with
    | [a, b], _ => exact ⟨a, b, rfl⟩
  rw [hl] at h
  simp only [List.all_cons, List.all_nil, Bool.and_true, Bool.and_eq_true] at h
  obtain ⟨m, hm, rfl⟩ := dig_num h.1
  obtain ⟨n, hn, rfl⟩ := dig_num h.2
  refine ⟨⟨10 * m + n, by omega⟩, ba_ext ?_⟩
  rw [hl]
  show _ = [_, _]
  rw [show (10 * m + n) / 10 = m by omega, show (10 * m + n) % 10 = n by omega]
theorem num_3 {x : ByteArray} (hz : x.size = 3) (h : x.data.toList.all digB = true) : ∃ n : Fin 1000, x = t3 n.val := by
  have hz' : x.data.toList.length = 3 := hz
  obtain ⟨a, b, c, hl⟩ : ∃ a b c, x.data.toList = [a, b, c] := by
    match hm : x.data.toList, hz' with
    | [a, b, c], _ => exact ⟨a, b, c, rfl⟩
  rw [hl] at h
  simp only [List.all_cons, List.all_nil, Bool.and_true, Bool.and_eq_true] at h
  obtain ⟨m, hm, rfl⟩ := dig_num h.1
  obtain ⟨n, hn, rfl⟩ := dig_num h.2.1
  obtain ⟨o, ho, rfl⟩ := dig_num h.2.2
  refine ⟨⟨100 * m + 10 * n + o, by omega⟩, ba_ext ?_⟩
  rw [hl]
  show _ = [_, _, _]
  rw [show (100 * m + 10 * n + o) / 100 = m by omega, show (100 * m + 10 * n + o) / 10 % 10 = n by omega, show (100 * m + 10 * n + o) % 10 = o by omega]
theorem truth_ev {x : ByteArray} {k a : Int} (hx : digitsB x 2 3 = true) (hc : pairOk x.size k a) : ∃ v, Ev (fun n => spec_pzValue.f n k a x) v ∧ Ev (fun n => impl_truth.f n k a x) v := by
  unfold digitsB at hx
  simp only [Bool.and_eq_true, decide_eq_true_eq] at hx
  have hz : x.size = 2 ∨ x.size = 3 := by omega
  rcases hz with hz | hz
  · obtain ⟨n, rfl⟩ := num_2 hz hx.2
    rw [hz] at hc
    rcases hc with ⟨rfl, rfl⟩ | ⟨rfl, h0, h1⟩ | ⟨rfl, rfl⟩ | ⟨rfl, rfl⟩ | ⟨rfl, h0, h1⟩ | ⟨rfl, rfl⟩
    · exact okV_at (k0_2 n)
    · have := k1_2 ⟨a.toNat, by omega⟩ n
      rw [show (((⟨a.toNat, by omega⟩ : Fin 2).val : Nat) : Int) = a by simp; omega] at this
      exact okV_at this
    · exact okV_at (k2_2 n)
    · exact okW_at (k3_2 n)
    · have := k4_2 ⟨(a - 2).toNat, by omega⟩ n
      rw [show (((⟨(a - 2).toNat, by omega⟩ : Fin 8).val : Nat) : Int) + 2 = a by simp; omega] at this
      exact okV_at this
    · exact okV_at (k5_2 n)
  · obtain ⟨n, rfl⟩ := num_3 hz hx.2
    rw [hz] at hc
    rcases hc with ⟨rfl, rfl⟩ | ⟨rfl, h0, h1⟩ | ⟨rfl, rfl⟩ | ⟨rfl, rfl⟩ | ⟨rfl, h0, h1⟩ | ⟨rfl, rfl⟩
    · exact okV_at (k0_3 n)
    · have := k1_3 ⟨a.toNat, by omega⟩ n
      rw [show (((⟨a.toNat, by omega⟩ : Fin 3).val : Nat) : Int) = a by simp; omega] at this
      exact okV_at this
    · exact okV_at (k2_3 n)
    · exact okW_at (k3_3 n)
    · have := k4_3 ⟨(a - 2).toNat, by omega⟩ n
      rw [show (((⟨(a - 2).toNat, by omega⟩ : Fin 8).val : Nat) : Int) + 2 = a by simp; omega] at this
      exact okV_at this
    · exact okV_at (k5_3 n)
theorem clue_pair {z : Nat} {k a b : Int} (hz : z ≤ 3) (h : spec_pzClue.f (z : Int) k a b = some true) : pairOk z k a := by
  unfold spec_pzClue.f at h
  unfold pairOk
  have hw : wrap64 ((z : Int) - 1) = (z : Int) - 1 := by unfold wrap64; omega
  simp only [l1In_f, Option.bind_some, hw] at h
  split at h
  · split at h
    · exact .inl ⟨by assumption, by assumption⟩
    · cases h
  · split at h
    · split at h
      · rename_i h1 h2
        simp only [Bool.and_eq_true, decide_eq_true_eq] at h2
        exact .inr (.inl ⟨by assumption, by omega, by omega⟩)
      · cases h
    · split at h
      · split at h
        · exact .inr (.inr (.inl ⟨by assumption, by assumption⟩))
        · cases h
      · split at h
        · split at h
          · exact .inr (.inr (.inr (.inl ⟨by assumption, by assumption⟩)))
          · cases h
        · split at h
          · split at h
            · rename_i h1 h2
              simp only [Bool.and_eq_true, decide_eq_true_eq] at h2
              exact .inr (.inr (.inr (.inr (.inl ⟨by assumption, by omega, by omega⟩))))
            · cases h
          · split at h
            · split at h
              · exact .inr (.inr (.inr (.inr (.inr ⟨by assumption, by assumption⟩))))
              · cases h
            · cases h
/-- does a clue fit -/
theorem fits_ev {x : ByteArray} {k a : Int} (b : Int) (hx : digitsB x 2 3 = true) (hc : pairOk x.size k a) : ∃ v, Ev (fun n => spec_pzFits.f n k a b x) v ∧ Ev (fun n => impl_Clue_fits.f n k a b x) v := by
  obtain ⟨v, h1, h2⟩ := truth_ev hx hc
  refine ⟨v == b, ?_, ?_⟩
  · unfold spec_pzFits.f
    exact Ev.bind h1 (Ev.val rfl)
  · unfold impl_Clue_fits.f
    exact Ev.bind h2 (Ev.val rfl)
theorem pzHidden_ev (x : ByteArray) (hs : x.size ≤ 4611686018427387903) : Ev (fun k => spec_pzHidden.f k x) (digitsB x 2 3) := by
  unfold spec_pzHidden.f
  exact Ev.bind (piDigits_ev x 2 3 hs) (Ev.val rfl)
theorem isHidden_f (x : ByteArray) (hs : x.size ≤ 140737488355328) : impl_isHidden.f x = some (digitsB x 2 3) := by
  unfold impl_isHidden.f
  rw [isDigits_f x 2 3 hs]
  rfl
end Go.Proofs.YtbigdaohimbkaaaGreatDoor.PA

/-! Puzzles: the reference and the program ask for the same. No condition but bounds. -/
namespace Go.Proofs.YtbigdaohimbkaaaGreatDoor.PA
open Go.RowKit Go.Proofs.YtbigdaohimbkaaaGreatDoorW.PrintWords
set_option linter.unusedVariables false

theorem clue_same (d a b c : Int) : impl_IsClue.f d a b c = spec_pzClue.f d a b c := by
  unfold impl_IsClue.f spec_pzClue.f
  simp only [in_f, l1In_f]
def clueB (d : Int) (x : S26) : Bool := ((spec_pzClue.f d x.f0 x.f1 x.f2).getD false)
theorem clue_f (d : Int) (x : S26) : spec_pzClue.f d x.f0 x.f1 x.f2 = some (clueB d x) := by
  unfold clueB
  suffices h : ∃ v, spec_pzClue.f d x.f0 x.f1 x.f2 = some v by obtain ⟨v, h⟩ := h; rw [h]; rfl
  unfold spec_pzClue.f
  simp only [l1In_f, Option.bind_some]
  repeat' split
  all_goals exact ⟨_, rfl⟩
def puzB (d : Int) (l : List S26) : Bool := decide (2 ≤ d) && decide (d ≤ 3) && decide ((l.length : Int) ≤ 6) && l.all (clueB d)
theorem rdT_nat {l : List S26} {i : Nat} (h : i < l.length) : rd_T26 l (i : Int) = l[i] := by simp [rd_T26, h]
end Go.Proofs.YtbigdaohimbkaaaGreatDoor.PA
