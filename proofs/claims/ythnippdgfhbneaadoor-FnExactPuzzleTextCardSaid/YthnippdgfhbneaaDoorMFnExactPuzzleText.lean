/- The plain facts that the law FnExactPuzzleText's proof leans on, in one text: each part has its own sentence. No condition but bounds. -/
import Derived.Test.YthnippdgfhbneaaDoorPAx0
import Derived.Test.YthnippdgfhbneaaDoorPAx1
import Derived.Test.YthnippdgfhbneaaDoorPAx2
import Derived.Test.YthnippdgfhbneaaDoorPAx3
import Derived.Test.YthnippdgfhbneaaDoorPAx4
import Derived.Lib.Strings
import Derived.Test.YthnippdgfhbneaaDoorWWords
import Derived.Test.YthnippdgfhbneaaDoorWMore
import Derived.Test.YthnippdgfhbneaaDoorXX
import Derived.Lib.Join
/-! Plain facts that the laws' pure proofs share: answers from some number of rounds on, numbers without wrap, strings as lists of bytes. No condition. -/
namespace Go.Proofs.YthnippdgfhbneaaDoor.PA
open Go.RowKit Go.Proofs.YthnippdgfhbneaaDoorW.PrintWords
set_option linter.unusedVariables false

theorem Ev.pos {α : Type} {c : Prop} [Decidable c] {a b : Nat → Option α} {r : α} (hc : c) (h : Ev a r) : Ev (fun k => if c then a k else b k) r := Ev.congr (fun k => if_pos hc) h
theorem Ev.neg {α : Type} {c : Prop} [Decidable c] {a b : Nat → Option α} {r : α} (hc : ¬ c) (h : Ev b r) : Ev (fun k => if c then a k else b k) r := Ev.congr (fun k => if_neg hc) h
theorem Ev.ite {α : Type} {c : Prop} [Decidable c] {a b : Nat → Option α} {r : α} (h1 : c → Ev a r) (h2 : ¬ c → Ev b r) : Ev (fun k => if c then a k else b k) r := by
  by_cases hc : c
  · exact Ev.pos hc (h1 hc)
  · exact Ev.neg hc (h2 hc)
theorem Ev.val {α : Type} {o : Option α} {r : α} (h : o = some r) : Ev (fun _ => o) r := ⟨0, fun _ _ => h⟩
theorem Ev.vbind {α β : Type} {o : Option α} {f : Nat → α → Option β} {a : α} {r : β} (h : o = some a) (k : Ev (fun n => f n a) r) : Ev (fun n => o.bind (f n)) r := Ev.bind (g := fun _ => o) (Ev.val h) k
theorem Ev.unique {α : Type} {g : Nat → Option α} {a b : α} (h : Ev g a) (k : Ev g b) : a = b := by
  obtain ⟨K, h⟩ := h
  obtain ⟨K', k⟩ := k
  exact Option.some.inj ((h (max K K') (Nat.le_max_left _ _)).symm.trans (k (max K K') (Nat.le_max_right _ _)))
theorem Ev.eq {α : Type} {g : Nat → Option α} {a b : α} (h : Ev g a) (e : a = b) : Ev g b := e ▸ h

theorem wrap_nat {i : Nat} (h : i < 4611686018427387904) : wrap64 ((i : Int) + 1) = ((i + 1 : Nat) : Int) := by unfold wrap64; omega
theorem wrap_in {n : Int} (h : -9223372036854775808 ≤ n) (h2 : n ≤ 9223372036854775807) : wrap64 n = n := by unfold wrap64; omega
theorem rd_nat {l : List Int} {i : Nat} (h : i < l.length) : rd l (i : Int) = l[i] := by simp [rd, h]
theorem rdS_nat {l : List ByteArray} {i : Nat} (h : i < l.length) : rdOf ByteArray.empty l (i : Int) = l[i] := by simp [rdOf, h]
theorem bt_nat {s : ByteArray} {i : Nat} (h : i < s.size) : bt s (i : Int) = ((s.data.toList[i]'(by simpa using h)).toNat : Int) := by
  unfold bt
  rw [dif_pos (by simpa using h)]
  rfl
theorem toList_data (s : ByteArray) : s.toList = s.data.toList := Go.Lib.toList_data s
theorem size_data (s : ByteArray) : s.size = s.data.toList.length := rfl
theorem ba_ext {a b : ByteArray} (h : a.data.toList = b.data.toList) : a = b := by
  cases a with
  | mk a => cases b with
    | mk b => exact congrArg ByteArray.mk (Array.toList_inj.mp h)
theorem toList_inj {a b : ByteArray} : a.toList = b.toList ↔ a = b := ⟨fun h => ba_ext (by rw [← toList_data, ← toList_data, h]), fun h => by rw [h]⟩
theorem toList_mk (l : List UInt8) : (⟨l.toArray⟩ : ByteArray).toList = l := by rw [toList_data]
theorem data_extract (s : ByteArray) (a b : Nat) : (s.extract a b).data.toList = (s.data.toList.take b).drop a := by
  rw [ByteArray.data_extract, Array.toList_extract, List.extract_eq_take_drop, List.drop_take]
theorem data_append (a b : ByteArray) : (a ++ b).data.toList = a.data.toList ++ b.data.toList := by
  rw [ByteArray.data_append, Array.toList_append]
theorem size_append (a b : ByteArray) : (a ++ b).size = a.size + b.size := by rw [size_data, data_append, List.length_append]; rfl
theorem take_succ_get {α : Type} {l : List α} {i : Nat} (h : i < l.length) : l.take (i + 1) = l.take i ++ [l[i]] := by
  rw [List.take_add_one, List.getElem?_eq_getElem h]; rfl

/-- digits alone -/
def digB (c : UInt8) : Bool := decide (48 ≤ c.toNat) && decide (c.toNat ≤ 57)
def digitsB (s : ByteArray) (lo hi : Int) : Bool := decide (lo ≤ (s.size : Int)) && decide ((s.size : Int) ≤ hi) && s.data.toList.all digB
theorem contains_dig (c : UInt8) : ([48, 49, 50, 51, 52, 53, 54, 55, 56, 57] : List UInt8).contains c = digB c := by
  have h : ∀ n : Fin 256, ([48, 49, 50, 51, 52, 53, 54, 55, 56, 57] : List UInt8).contains (UInt8.ofNat n.val) = digB (UInt8.ofNat n.val) := by decide +kernel
  have := h ⟨c.toNat, c.toNat_lt⟩
  simpa using this
end Go.Proofs.YthnippdgfhbneaaDoor.PA

/-! Is a number within bounds: the reference's and the program's own. No condition. -/
namespace Go.Proofs.YthnippdgfhbneaaDoor.PA
open Go.RowKit Go.Proofs.YthnippdgfhbneaaDoorW.PrintWords
set_option linter.unusedVariables false

theorem l1In_f (a b c : Int) : spec_l1In.f a b c = some (decide (b ≤ a) && decide (a ≤ c)) := by
  unfold spec_l1In.f
  by_cases h : a ≥ b
  · rw [if_pos h]; simp [show b ≤ a from h]
  · rw [if_neg h]; simp [show ¬ b ≤ a from h]
theorem in_f (a b c : Int) : impl_in.f a b c = some (decide (b ≤ a) && decide (a ≤ c)) := by
  unfold impl_in.f
  by_cases h : a ≥ b
  · rw [if_pos h]; simp [show b ≤ a from h]
  · rw [if_neg h]; simp [show ¬ b ≤ a from h]
end Go.Proofs.YthnippdgfhbneaaDoor.PA

/-! Puzzles: the reference and the program ask for the same. No condition but bounds. -/
namespace Go.Proofs.YthnippdgfhbneaaDoor.PA
open Go.RowKit Go.Proofs.YthnippdgfhbneaaDoorW.PrintWords
set_option linter.unusedVariables false

theorem clue_same (d a b c : Int) : impl_IsClue.f d a b c = spec_pzClue.f d a b c := by
  unfold impl_IsClue.f spec_pzClue.f
  simp only [in_f, l1In_f]
def clueB (d : Int) (x : S51) : Bool := ((spec_pzClue.f d x.f0 x.f1 x.f2).getD false)
theorem clue_f (d : Int) (x : S51) : spec_pzClue.f d x.f0 x.f1 x.f2 = some (clueB d x) := by
  unfold clueB
  suffices h : ∃ v, spec_pzClue.f d x.f0 x.f1 x.f2 = some v by obtain ⟨v, h⟩ := h; rw [h]; rfl
  unfold spec_pzClue.f
  simp only [l1In_f, Option.bind_some]
  repeat' split
  all_goals exact ⟨_, rfl⟩
def puzB (d : Int) (l : List S51) : Bool := decide (2 ≤ d) && decide (d ≤ 3) && decide ((l.length : Int) ≤ 6) && l.all (clueB d)
theorem rdT_nat {l : List S51} {i : Nat} (h : i < l.length) : rd_T51 l (i : Int) = l[i] := by simp [rd_T51, h]
theorem pzGood_l0 (d : Int) (l : List S51) (hl : l.length ≤ 1048576) : ∀ (e i : Nat), i + e = l.length → Ev (fun k => spec_pzGood.l0 k l (l.length : Int) (i : Int) d l) ((l.drop i).all (clueB d))
  | 0, i, h => by
    refine Ev.step (fun k => by rw [spec_pzGood.l0]) ?_
    refine Ev.neg (by omega) (Ev.val ?_)
    rw [List.drop_of_length_le (by omega)]; rfl
  | e + 1, i, h => by
    have hi : i < l.length := by omega
    refine Ev.step (fun k => by rw [spec_pzGood.l0]) ?_
    refine Ev.pos (by omega) (Ev.pos (by omega) (Ev.pos (by omega) ?_))
    rw [rdT_nat hi, wrap_nat (by omega), List.drop_eq_getElem_cons hi, List.all_cons]
    refine Ev.vbind (clue_f d _) ?_
    have ih := pzGood_l0 d l hl e (i + 1) (by omega)
    cases clueB d l[i] with
    | true => exact Ev.pos rfl (by rw [Bool.true_and]; exact ih)
    | false => exact Ev.neg (by simp) (Ev.val rfl)
theorem pzGood_ev (d : Int) (l : List S51) (hl : l.length ≤ 1048576) : Ev (fun k => spec_pzGood.f k d l) (puzB d l) := by
  unfold spec_pzGood.f spec_pzDigits.f puzB
  rw [l1In_f, Option.bind_some]
  refine Ev.vbind rfl ?_
  cases decide (2 ≤ d) && decide (d ≤ 3) with
  | false =>
    refine Ev.neg (by simp) ?_
    refine Ev.step (fun k => by rw [spec_pzGood.j0]) ?_
    exact Ev.pos rfl (Ev.val rfl)
  | true =>
    refine Ev.pos rfl ?_
    refine Ev.step (fun k => by rw [spec_pzGood.j0]) ?_
    by_cases h : (l.length : Int) > 6
    · exact Ev.pos (decide_eq_true h) (Ev.val (by simp [show ¬ (l.length : Int) ≤ 6 by omega]))
    · refine Ev.neg (by simp [h]) ?_
      have := pzGood_l0 d l hl l.length 0 (by omega)
      rw [List.drop_zero] at this
      exact Ev.eq this (by simp [show (l.length : Int) ≤ 6 by omega])
theorem isPuzzle_f (d : Int) (l : List S51) (hl : l.length ≤ 1048576) : impl_IsPuzzle.f d l = some (puzB d l) := by
  unfold impl_IsPuzzle.f puzB
  have hany : anyO (fun x => (impl_IsClue.f d x.f0 x.f1 x.f2).map (!·)) l = some (l.any (fun x => !clueB d x)) := by
    refine anyO_pure _ _ l (fun x _ => ?_)
    rw [clue_same, clue_f]; rfl
  rw [hany, Option.bind_some, if_pos (by omega)]
  have e : l.any (fun x => !clueB d x) = !l.all (clueB d) := by
    clear hany hl
    induction l with
    | nil => rfl
    | cons a l ih => rw [List.any_cons, List.all_cons, ih, Bool.not_and]
  rw [e, Bool.not_not]
end Go.Proofs.YthnippdgfhbneaaDoor.PA

/-! Texts joined by commas, one after the other. No condition. -/
namespace Go.Proofs.YthnippdgfhbneaaDoor.PA
open Go.RowKit Go.Proofs.YthnippdgfhbneaaDoorW.PrintWords
set_option linter.unusedVariables false

/-- the texts, joined by commas -/
def commaT (l : List ByteArray) : ByteArray := ⟨(Lib.join (l.map (·.data.toList)) [44]).toArray⟩
theorem join_take_succ {l : List ByteArray} {i : Nat} (h : i + 1 < l.length) : Lib.join ((l.take (i + 2)).map (·.data.toList)) [44] = Lib.join ((l.take (i + 1)).map (·.data.toList)) [44] ++ [44] ++ l[i + 1].data.toList := by
  cases l with
  | nil => simp at h
  | cons a l =>
    have h' : i < l.length := by simpa using h
    simp only [List.take_succ_cons, List.map_cons, Lib.join_cons]
    rw [take_succ_get h', List.map_append]
    simp [Lib.joinTail]
theorem comma_size (l : List ByteArray) (hs : ∀ y ∈ l, y.size ≤ 6) : ∀ i, i ≤ l.length → (commaT (l.take i)).size ≤ 7 * i
  | 0, _ => Nat.le_refl _
  | 1, h => by
    have hy := hs _ (List.getElem_mem (show 0 < l.length by omega))
    cases l with
    | nil => simp at h
    | cons a l =>
      have e : commaT ((a :: l).take 1) = a := ba_ext (by simp [commaT, Lib.join_one])
      rw [e]; exact Nat.le_trans hy (by decide)
  | i + 2, h => by
    have ih := comma_size l hs (i + 1) (by omega)
    have hy := hs _ (List.getElem_mem (show i + 1 < l.length by omega))
    have e := join_take_succ (l := l) (i := i) (by omega)
    have : (commaT (l.take (i + 2))).size = (commaT (l.take (i + 1))).size + 1 + (l[i + 1]'(by omega)).size := by
      show (Lib.join _ _).length = (Lib.join _ _).length + 1 + _
      rw [e, List.length_append, List.length_append]; rfl
    omega
theorem app_nil (a : ByteArray) : a ++ (⟨#[]⟩ : ByteArray) = a := ba_ext (by rw [data_append]; exact List.append_nil _)
theorem app_assoc (a b c : ByteArray) : a ++ b ++ c = a ++ (b ++ c) := ba_ext (by simp only [data_append, List.append_assoc])
theorem comma_zero (l : List ByteArray) : commaT (l.take 0) = ⟨#[]⟩ := rfl
theorem comma_one {l : List ByteArray} (h : 0 < l.length) : commaT (l.take 1) = l[0] := by
  apply ba_ext
  cases l with
  | nil => simp at h
  | cons a l => simp [commaT, Lib.join_one]
theorem comma_more {l : List ByteArray} {i : Nat} (h : i + 1 < l.length) : commaT (l.take (i + 2)) = (commaT (l.take (i + 1)) ++ (⟨#[44]⟩ : ByteArray)) ++ l[i + 1] := by
  apply ba_ext
  rw [data_append, data_append]
  show Lib.join _ _ = Lib.join _ _ ++ [44] ++ _
  rw [join_take_succ h]
end Go.Proofs.YthnippdgfhbneaaDoor.PA

/-! Small numbers' digits: the reference and the program write the same. No condition but bounds. -/
namespace Go.Proofs.YthnippdgfhbneaaDoor.PA
open Go.RowKit Go.Proofs.YthnippdgfhbneaaDoorW.PrintWords
set_option linter.unusedVariables false

/-- a small number's digits -/
def decB (n : Int) : ByteArray := ⟨(Lib.decDigits n.toNat).toArray⟩
theorem num_small : ∀ n : Fin 100, spec_l1Num.f 3 (n.val : Int) = some (decB (n.val : Int)) := by decide +kernel
theorem dec_size : ∀ n : Fin 100, (decB (n.val : Int)).size ≤ 2 := by decide +kernel
theorem l1Num_ev (n : Int) (h0 : 0 ≤ n) (h1 : n < 100) : Ev (fun k => spec_l1Num.f k n) (decB n) := by
  obtain ⟨m, rfl⟩ := Int.eq_ofNat_of_zero_le h0
  refine ⟨3, fun k hk => ?_⟩
  have := leO_add (fun k => spec_l1Num.mono (m : Int) k) (num_small ⟨m, by omega⟩) (k - 3)
  rwa [show 3 + (k - 3) = k by omega] at this
theorem itoa_f (n : Int) (h0 : 0 ≤ n) (h1 : n < 100) : strconv_Itoa.f n = some (decB n) := by
  unfold strconv_Itoa.f
  rw [if_pos ⟨h0, h1⟩]; rfl
theorem dec_le (n : Int) (h0 : 0 ≤ n) (h1 : n < 100) : (decB n).size ≤ 6 := by
  obtain ⟨m, rfl⟩ := Int.eq_ofNat_of_zero_le h0
  have := dec_size ⟨m, by omega⟩
  simp only at this
  omega
end Go.Proofs.YthnippdgfhbneaaDoor.PA

/-! A puzzle's text: the reference and the program write the same. No condition but bounds. -/
namespace Go.Proofs.YthnippdgfhbneaaDoor.PA
open Go.RowKit Go.Proofs.YthnippdgfhbneaaDoorW.PrintWords
set_option linter.unusedVariables false

/-- a clue that is right has small numbers -/
theorem clue_facts {d : Int} {x : S51} (hd : d ≤ 3) (hd0 : 2 ≤ d) (h : clueB d x = true) : (0 ≤ x.f0 ∧ x.f0 ≤ 5) ∧ (0 ≤ x.f1 ∧ x.f1 ≤ 9) ∧ (0 ≤ x.f2 ∧ x.f2 ≤ 27) := by
  have hc := clue_f d x
  rw [h] at hc
  unfold spec_pzClue.f at hc
  simp only [l1In_f, Option.bind_some, wrap_in (show -9223372036854775808 ≤ d - 1 by omega) (show d - 1 ≤ 9223372036854775807 by omega)] at hc
  repeat' split at hc
  all_goals first
    | (simp only [Option.some.injEq, Bool.and_eq_true, decide_eq_true_eq] at *; omega)
    | (exact absurd hc (by simp))
/-- a clue's text -/
def clueT (x : S51) : ByteArray := (((decB x.f0 ++ (⟨#[46]⟩ : ByteArray)) ++ decB x.f1) ++ (⟨#[46]⟩ : ByteArray)) ++ decB x.f2
theorem dec_one : ∀ n : Fin 10, (decB (n.val : Int)).size ≤ 1 := by decide +kernel
theorem dec_le1 (n : Int) (h0 : 0 ≤ n) (h1 : n < 10) : (decB n).size ≤ 1 := by
  obtain ⟨m, rfl⟩ := Int.eq_ofNat_of_zero_le h0
  have := dec_one ⟨m, by omega⟩
  simp only at this
  omega
theorem dec_le2 (n : Int) (h0 : 0 ≤ n) (h1 : n < 100) : (decB n).size ≤ 2 := by
  obtain ⟨m, rfl⟩ := Int.eq_ofNat_of_zero_le h0
  have := dec_size ⟨m, by omega⟩
  simp only at this
  omega
/-- bounds that a clue's text needs -/
def CluOk (x : S51) : Prop := (0 ≤ x.f0 ∧ x.f0 ≤ 5) ∧ (0 ≤ x.f1 ∧ x.f1 ≤ 9) ∧ (0 ≤ x.f2 ∧ x.f2 ≤ 27)
theorem clue_sizes {x : S51} (h : CluOk x) : (decB x.f0).size ≤ 1 ∧ (decB x.f1).size ≤ 1 ∧ (decB x.f2).size ≤ 2 :=
  ⟨dec_le1 _ h.1.1 (by have := h.1.2; omega), dec_le1 _ h.2.1.1 (by have := h.2.1.2; omega), dec_le2 _ h.2.2.1 (by have := h.2.2.2; omega)⟩
theorem dot_size : (⟨#[46]⟩ : ByteArray).size = 1 := rfl
theorem com_size : (⟨#[44]⟩ : ByteArray).size = 1 := rfl
theorem clueT_le {x : S51} (h : CluOk x) : (clueT x).size ≤ 6 := by
  obtain ⟨h0, h1, h2⟩ := clue_sizes h
  unfold clueT
  rw [size_append, size_append, size_append, size_append, dot_size]
  omega
section
variable (l : List S51) (hl : l.length ≤ 20) (hs : ∀ y ∈ l, CluOk y)
include hl hs
omit hl in
theorem clues_le : ∀ y ∈ l.map clueT, y.size ≤ 6 := by
  intro y hy
  obtain ⟨n, hn, rfl⟩ := List.mem_map.mp hy
  exact clueT_le (hs n hn)
theorem pzText_l0 (p : ByteArray) (hp : p.size ≤ 1000) : ∀ (d i : Nat), i + d = l.length → Ev (fun k => spec_pzText.l0 k (p ++ commaT ((l.map clueT).take i)) l (l.length : Int) (i : Int)) (p ++ commaT (l.map clueT))
  | 0, i, h => by
    refine Ev.step (fun k => by rw [spec_pzText.l0]) ?_
    refine Ev.neg (by omega) (Ev.val ?_)
    rw [List.take_of_length_le (by simp; omega)]
  | d + 1, i, h => by
    have hi : i < l.length := by omega
    have hy := hs _ (List.getElem_mem hi)
    have hz := comma_size (l.map clueT) (clues_le l hs) i (by simp; omega)
    have hz2 := clueT_le hy
    obtain ⟨z0, z1, z2⟩ := clue_sizes hy
    have hg : (l.map clueT)[i]'(by simpa using hi) = clueT l[i] := by simp
    have ih := pzText_l0 p hp d (i + 1) (by omega)
    have n0 := l1Num_ev _ hy.1.1 (by have := hy.1.2; omega)
    have n1 := l1Num_ev _ hy.2.1.1 (by have := hy.2.1.2; omega)
    have n2 := l1Num_ev _ hy.2.2.1 (by have := hy.2.2.2; omega)
    refine Ev.step (fun k => by rw [spec_pzText.l0]) ?_
    refine Ev.pos (by omega) (Ev.pos (by omega) (Ev.pos (by omega) ?_))
    rw [rdT_nat hi, wrap_nat (by omega)]
    have b1 : (decB (l[i]).f0).size + 1 ≤ 9223372036854775807 := by omega
    have b2 : (decB (l[i]).f0 ++ (⟨#[46]⟩ : ByteArray)).size + (decB (l[i]).f1).size ≤ 9223372036854775807 := by rw [size_append, dot_size]; omega
    have b3 : ((decB (l[i]).f0 ++ (⟨#[46]⟩ : ByteArray)) ++ decB (l[i]).f1).size + 1 ≤ 9223372036854775807 := by rw [size_append, size_append, dot_size]; omega
    have b4 : (((decB (l[i]).f0 ++ (⟨#[46]⟩ : ByteArray)) ++ decB (l[i]).f1) ++ (⟨#[46]⟩ : ByteArray)).size + (decB (l[i]).f2).size ≤ 9223372036854775807 := by rw [size_append, size_append, size_append, dot_size]; omega
    cases i with
    | zero =>
      have e : p ++ commaT ((l.map clueT).take 0) ++ clueT l[0] = p ++ commaT ((l.map clueT).take 1) := by
        rw [comma_one (by simpa using hi), hg, comma_zero, app_nil]
      rw [← e] at ih
      refine Ev.neg (by omega) (Ev.bind n0 (Ev.pos b1 (Ev.bind n1 (Ev.pos b2 (Ev.pos b3 (Ev.bind n2 (Ev.pos b4 (Ev.pos ?_ ih))))))))
      show (p ++ commaT ((l.map clueT).take 0)).size + (clueT l[0]).size ≤ 9223372036854775807
      rw [size_append]; omega
    | succ i =>
      have e : p ++ commaT ((l.map clueT).take (i + 1)) ++ (⟨#[44]⟩ : ByteArray) ++ clueT l[i + 1] = p ++ commaT ((l.map clueT).take (i + 2)) := by
        rw [comma_more (by simpa using hi), hg]
        simp only [app_assoc]
      rw [← e] at ih
      refine Ev.pos (by omega) (Ev.pos (by rw [size_append]; omega) (Ev.bind n0 (Ev.pos b1 (Ev.bind n1 (Ev.pos b2 (Ev.pos b3 (Ev.bind n2 (Ev.pos b4 (Ev.pos ?_ ih)))))))))
      show (p ++ commaT ((l.map clueT).take (i + 1)) ++ (⟨#[44]⟩ : ByteArray)).size + (clueT l[i + 1]).size ≤ 9223372036854775807
      rw [size_append, size_append, com_size]; omega
theorem puzzleText_l0 (m : Int) (ws : List S51) (h0 : 0 ≤ m) (h1 : m < 100) : ∀ (d i : Nat), i + d = l.length → Ev (fun k => impl_PuzzleText.l0 k ((l.map clueT).take i) l (l.length : Int) (i : Int) m ws) ((decB m ++ (⟨#[58]⟩ : ByteArray)) ++ commaT (l.map clueT), true)
  | 0, i, h => by
    have hz := comma_size (l.map clueT) (clues_le l hs) l.length (by simp)
    have hd := dec_le m h0 h1
    rw [List.take_of_length_le (by simp)] at hz
    refine Ev.step (fun k => by rw [impl_PuzzleText.l0]) ?_
    refine Ev.neg (by omega) ?_
    rw [List.take_of_length_le (by simp; omega)]
    have hj : strings_Join.f (l.map clueT) (⟨#[44]⟩ : ByteArray) = some (commaT (l.map clueT)) := by
      unfold strings_Join.f
      have hz' : (Lib.join ((l.map clueT).map (·.data.toList)) [44]).length ≤ 7 * l.length := hz
      rw [if_pos ⟨by show (Lib.join _ [44]).length ≤ _; omega, by simp; omega⟩]; rfl
    refine Ev.vbind (itoa_f m h0 h1) (Ev.pos (by omega) (Ev.vbind hj (Ev.pos ?_ (Ev.val rfl))))
    rw [size_append]; show _ + 1 + _ ≤ _; omega
  | d + 1, i, h => by
    have hi : i < l.length := by omega
    have hy := hs _ (List.getElem_mem hi)
    obtain ⟨z0, z1, z2⟩ := clue_sizes hy
    have ih := puzzleText_l0 m ws h0 h1 d (i + 1) (by omega)
    refine Ev.step (fun k => by rw [impl_PuzzleText.l0]) ?_
    refine Ev.pos (by omega) (Ev.pos (by omega) (Ev.pos (by omega) ?_))
    rw [rdT_nat hi, wrap_nat (by omega)]
    have e : (l.map clueT).take i ++ [clueT l[i]] = (l.map clueT).take (i + 1) := by rw [take_succ_get (by simpa using hi)]; simp
    rw [← e] at ih
    refine Ev.vbind (itoa_f _ hy.1.1 (by have := hy.1.2; omega)) (Ev.pos (by omega) (Ev.vbind (itoa_f _ hy.2.1.1 (by have := hy.2.1.2; omega)) (Ev.pos (by rw [size_append, dot_size]; omega) (Ev.pos (by rw [size_append, size_append, dot_size]; omega) (Ev.vbind (itoa_f _ hy.2.2.1 (by have := hy.2.2.2; omega)) (Ev.pos (by rw [size_append, size_append, size_append, dot_size]; omega) (Ev.pos (by simp; omega) ih)))))))
end
theorem puz_facts {d : Int} {l : List S51} (h : puzB d l = true) : 2 ≤ d ∧ d ≤ 3 ∧ l.length ≤ 6 ∧ ∀ y ∈ l, CluOk y := by
  unfold puzB at h
  simp only [Bool.and_eq_true, decide_eq_true_eq, List.all_eq_true] at h
  obtain ⟨⟨⟨h0, h1⟩, h2⟩, h3⟩ := h
  exact ⟨h0, h1, by omega, fun y hy => clue_facts h1 h0 (h3 y hy)⟩
/-- a puzzle's text -/
def puzT (d : Int) (l : List S51) : ByteArray := (decB d ++ (⟨#[58]⟩ : ByteArray)) ++ commaT (l.map clueT)
theorem pzText_ev (d : Int) (l : List S51) (g : puzB d l = true) : Ev (fun k => spec_pzText.f k d l) (puzT d l) := by
  obtain ⟨m0, m1, l0, hw⟩ := puz_facts g
  have hd := dec_le d (by omega) (by omega)
  have e1 := pzText_l0 l (by omega) hw (decB d ++ (⟨#[58]⟩ : ByteArray)) (by rw [size_append]; show _ + 1 ≤ _; omega) l.length 0 (by omega)
  have e0 : decB d ++ (⟨#[58]⟩ : ByteArray) ++ commaT ((l.map clueT).take 0) = decB d ++ (⟨#[58]⟩ : ByteArray) := by rw [comma_zero, app_nil]
  rw [e0] at e1
  unfold spec_pzText.f
  exact Ev.bind (l1Num_ev d (by omega) (by omega)) (Ev.pos (by omega) e1)
theorem puzzleText_ev (d : Int) (l : List S51) (h1 : l.length ≤ 1048576) : Ev (fun k => impl_PuzzleText.f k d l) (if puzB d l = true then (puzT d l, true) else (⟨#[]⟩, false)) := by
  have hi := isPuzzle_f d l h1
  unfold impl_PuzzleText.f
  cases g : puzB d l with
  | false =>
    rw [g] at hi
    exact Ev.vbind hi (Ev.neg (by simp) (Ev.val rfl))
  | true =>
    rw [g] at hi
    obtain ⟨m0, m1, l0, hw⟩ := puz_facts g
    exact Ev.vbind hi (Ev.pos rfl (puzzleText_l0 l (by omega) hw d l (by omega) (by omega) l.length 0 (by omega)))
theorem specPuzzleText_ev (d : Int) (l : List S51) (h1 : l.length ≤ 1048576) : Ev (fun k => spec_PuzzleText.f k d l) (if puzB d l = true then (puzT d l, true) else (⟨#[]⟩, false)) := by
  have hg := pzGood_ev d l h1
  unfold spec_PuzzleText.f
  cases g : puzB d l with
  | false =>
    rw [g] at hg
    exact Ev.bind hg (Ev.neg (by simp) (Ev.val rfl))
  | true =>
    rw [g] at hg
    exact Ev.bind hg (Ev.pos rfl (Ev.bind (pzText_ev d l g) (Ev.val rfl)))
end Go.Proofs.YthnippdgfhbneaaDoor.PA

/-! The laws' own helpers over puzzles: copying keeps them, sizes are counted, equality is equality. No condition but bounds. -/
namespace Go.Proofs.YthnippdgfhbneaaDoor.PA
open Go.RowKit Go.Proofs.YthnippdgfhbneaaDoorW.PrintWords
set_option linter.unusedVariables false

def conv (x : S67) : S51 := ⟨x.f0, x.f1, x.f2⟩
theorem rdT_natL {l : List S67} {i : Nat} (h : i < l.length) : rd_T67 l (i : Int) = l[i] := by simp [rd_T67, h]
theorem rdT_natI {l : List S51} {i : Nat} (h : i < l.length) : rd_T51 l (i : Int) = l[i] := by simp [rd_T51, h]
theorem toClueS_l0 (l : List S67) (hl : l.length ≤ 4611686018427387903) : ∀ (d i : Nat) (x : List S51), i + d = l.length → x.length = l.length → x.take i = (l.map conv).take i → Ev (fun k => laws_toClueS.l0 k l x (i : Int)) (l.map conv)
  | 0, i, x, h, hx, ht => by
    refine Ev.step (fun k => by rw [laws_toClueS.l0]) ?_
    refine Ev.neg (by omega) (Ev.val ?_)
    rw [List.take_of_length_le (by omega), List.take_of_length_le (by simp; omega)] at ht
    rw [ht]
  | d + 1, i, x, h, hx, ht => by
    refine Ev.step (fun k => by rw [laws_toClueS.l0]) ?_
    refine Ev.pos (by omega) (Ev.pos (by omega) (Ev.vbind rfl (Ev.pos (by omega) ?_)))
    rw [rdT_natL (show i < l.length by omega), wrap_nat (by omega), Int.toNat_natCast]
    refine toClueS_l0 l hl d (i + 1) _ (by omega) (by simpa using hx) ?_
    rw [take_succ_get (by simp; omega), take_succ_get (show i < (l.map conv).length by simp; omega), List.take_set_of_le (Nat.le_refl _), ht]
    simp [conv]
theorem toClueS_ev {l : List S67} (hl : l.length ≤ 1048576) : Ev (fun k => laws_toClueS.f k l) (l.map conv) := by
  unfold laws_toClueS.f
  refine Ev.pos (by omega) (Ev.pos (by omega) ?_)
  exact toClueS_l0 l (by omega) l.length 0 _ (by omega) (by simp) (by simp)
theorem toPuzzle_ev {d : Int} {l : List S67} (hl : l.length ≤ 1048576) : Ev (fun k => laws_toPuzzle.f k d l) (d, l.map conv) := by
  unfold laws_toPuzzle.f
  exact Ev.bind (toClueS_ev hl) (Ev.val rfl)
theorem S_ext {a b : S51} (h0 : a.f0 = b.f0) (h1 : a.f1 = b.f1) (h2 : a.f2 = b.f2) : a = b := by
  cases a; cases b; simp at h0 h1 h2; simp [h0, h1, h2]
theorem eqClueS_l0 (a : List S51) (hl : a.length ≤ 4611686018427387903) : ∀ (d i : Nat), i + d = a.length → Ev (fun k => laws_eqClueS.l0 k a a (i : Int)) true
  | 0, i, h => by
    refine Ev.step (fun k => by rw [laws_eqClueS.l0]) ?_
    exact Ev.neg (by omega) (Ev.val rfl)
  | d + 1, i, h => by
    refine Ev.step (fun k => by rw [laws_eqClueS.l0]) ?_
    refine Ev.pos (by omega) (Ev.pos (by omega) (Ev.pos (by omega) ?_))
    rw [wrap_nat (by omega)]
    refine Ev.vbind (a := true) (by unfold laws_eqClue.f; rw [if_pos rfl, if_pos rfl, if_pos rfl]) (Ev.pos rfl ?_)
    exact eqClueS_l0 a hl d (i + 1) (by omega)
theorem eqPuzzle_ev {d : Int} {a : List S51} (hl : a.length ≤ 1048576) : Ev (fun k => laws_eqPuzzle.f k d a d a) true := by
  unfold laws_eqPuzzle.f laws_eqClueS.f
  exact Ev.pos rfl (Ev.bind (Ev.pos rfl (eqClueS_l0 a (by omega) a.length 0 (by omega))) (Ev.pos rfl (Ev.val rfl)))
theorem szPuzzle_f {d : Int} {l : List S67} (hl : l.length ≤ maxLen) : ∃ v, laws_szPuzzle.f d l 1048576 = some v ∧ (v < 0 ∨ l.length ≤ 1048576) := by
  unfold maxLen at hl
  unfold laws_szPuzzle.f laws_szClueS.f
  have hw : wrap64 (1048576 - (l.length : Int)) = 1048576 - (l.length : Int) := wrap_in (by omega) (by omega)
  rw [hw]
  by_cases e : 1048576 - (l.length : Int) < 0
  · rw [if_pos e, Option.bind_some, if_pos (by omega)]; exact ⟨-1, rfl, .inl (by omega)⟩
  · rw [if_neg e, Option.bind_some, if_neg e]; exact ⟨_, rfl, .inr (by omega)⟩
end Go.Proofs.YthnippdgfhbneaaDoor.PA
