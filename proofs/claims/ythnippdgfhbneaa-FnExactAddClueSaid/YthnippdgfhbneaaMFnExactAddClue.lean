/- The plain facts that the law FnExactAddClue's proof leans on, in one text: each part has its own sentence. No condition but bounds. -/
import Derived.Test.YthnippdgfhbneaaPAx0
import Derived.Test.YthnippdgfhbneaaPAx1
import Derived.Test.YthnippdgfhbneaaPAx2
import Derived.Test.YthnippdgfhbneaaPAx3
import Derived.Test.YthnippdgfhbneaaPAx5
import Derived.Lib.Strings
import Derived.Test.YthnippdgfhbneaaWWords
import Derived.Test.YthnippdgfhbneaaWMore
import Derived.Test.YthnippdgfhbneaaXX
/-! Plain facts that the laws' pure proofs share: answers from some number of rounds on, numbers without wrap, strings as lists of bytes. No condition. -/
namespace Go.Proofs.Ythnippdgfhbneaa.PA
open Go.RowKit Go.Proofs.YthnippdgfhbneaaW.PrintWords
set_option linter.unusedVariables false

theorem Ev.pos {α : Type} {c : Prop} [Decidable c] {a b : Nat → Option α} {r : α} (hc : c) (h : Ev a r) : Ev (fun k => if c then a k else b k) r := Ev.congr (fun k => if_pos hc) h
theorem Ev.neg {α : Type} {c : Prop} [Decidable c] {a b : Nat → Option α} {r : α} (hc : ¬ c) (h : Ev b r) : Ev (fun k => if c then a k else b k) r := Ev.congr (fun k => if_neg hc) h
theorem Ev.ite {α : Type} {c : Prop} [Decidable c] {a b : Nat → Option α} {r : α} (h1 : c → Ev a r) (h2 : ¬ c → Ev b r) : Ev (fun k => if c then a k else b k) r := by
  by_cases hc : c
  · exact Ev.pos hc (h1 hc)
  · exact Ev.neg hc (h2 hc)
theorem Ev.val {α : Type} {o : Option α} {r : α} (h : o = some r) : Ev (fun _ => o) r := ⟨0, fun _ _ => h⟩
theorem Ev.vbind {α β : Type} {o : Option α} {f : Nat → α → Option β} {a : α} {r : β} (h : o = some a) (k : Ev (fun n => f n a) r) : Ev (fun n => o.bind (f n)) r := Ev.bind (g := fun _ => o) (Ev.val h) k
theorem Ev.unique {α : Type} {g : Nat → Option α} {a b : α} (h : Ev g a) (k : Ev g b) : a = b := by
  obtain ⟨K, h⟩ := h
  obtain ⟨K', k⟩ := k
  exact Option.some.inj ((h (max K K') (Nat.le_max_left _ _)).symm.trans (k (max K K') (Nat.le_max_right _ _)))
theorem Ev.eq {α : Type} {g : Nat → Option α} {a b : α} (h : Ev g a) (e : a = b) : Ev g b := e ▸ h

theorem wrap_nat {i : Nat} (h : i < 4611686018427387904) : wrap64 ((i : Int) + 1) = ((i + 1 : Nat) : Int) := by unfold wrap64; omega
theorem wrap_in {n : Int} (h : -9223372036854775808 ≤ n) (h2 : n ≤ 9223372036854775807) : wrap64 n = n := by unfold wrap64; omega
theorem rd_nat {l : List Int} {i : Nat} (h : i < l.length) : rd l (i : Int) = l[i] := by simp [rd, h]
theorem rdS_nat {l : List ByteArray} {i : Nat} (h : i < l.length) : rdOf ByteArray.empty l (i : Int) = l[i] := by simp [rdOf, h]
theorem bt_nat {s : ByteArray} {i : Nat} (h : i < s.size) : bt s (i : Int) = ((s.data.toList[i]'(by simpa using h)).toNat : Int) := by
  unfold bt
  rw [dif_pos (by simpa using h)]
  rfl
theorem toList_data (s : ByteArray) : s.toList = s.data.toList := Go.Lib.toList_data s
theorem size_data (s : ByteArray) : s.size = s.data.toList.length := rfl
theorem ba_ext {a b : ByteArray} (h : a.data.toList = b.data.toList) : a = b := by
  cases a with
  | mk a => cases b with
    | mk b => exact congrArg ByteArray.mk (Array.toList_inj.mp h)
theorem toList_inj {a b : ByteArray} : a.toList = b.toList ↔ a = b := ⟨fun h => ba_ext (by rw [← toList_data, ← toList_data, h]), fun h => by rw [h]⟩
theorem toList_mk (l : List UInt8) : (⟨l.toArray⟩ : ByteArray).toList = l := by rw [toList_data]
theorem data_extract (s : ByteArray) (a b : Nat) : (s.extract a b).data.toList = (s.data.toList.take b).drop a := by
  rw [ByteArray.data_extract, Array.toList_extract, List.extract_eq_take_drop, List.drop_take]
theorem data_append (a b : ByteArray) : (a ++ b).data.toList = a.data.toList ++ b.data.toList := by
  rw [ByteArray.data_append, Array.toList_append]
theorem size_append (a b : ByteArray) : (a ++ b).size = a.size + b.size := by rw [size_data, data_append, List.length_append]; rfl
theorem take_succ_get {α : Type} {l : List α} {i : Nat} (h : i < l.length) : l.take (i + 1) = l.take i ++ [l[i]] := by
  rw [List.take_add_one, List.getElem?_eq_getElem h]; rfl

/-- digits alone -/
def digB (c : UInt8) : Bool := decide (48 ≤ c.toNat) && decide (c.toNat ≤ 57)
def digitsB (s : ByteArray) (lo hi : Int) : Bool := decide (lo ≤ (s.size : Int)) && decide ((s.size : Int) ≤ hi) && s.data.toList.all digB
theorem contains_dig (c : UInt8) : ([48, 49, 50, 51, 52, 53, 54, 55, 56, 57] : List UInt8).contains c = digB c := by
  have h : ∀ n : Fin 256, ([48, 49, 50, 51, 52, 53, 54, 55, 56, 57] : List UInt8).contains (UInt8.ofNat n.val) = digB (UInt8.ofNat n.val) := by decide +kernel
  have := h ⟨c.toNat, c.toNat_lt⟩
  simpa using this
end Go.Proofs.Ythnippdgfhbneaa.PA

/-! Is a number within bounds: the reference's and the program's own. No condition. -/
namespace Go.Proofs.Ythnippdgfhbneaa.PA
open Go.RowKit Go.Proofs.YthnippdgfhbneaaW.PrintWords
set_option linter.unusedVariables false

theorem l1In_f (a b c : Int) : spec_l1In.f a b c = some (decide (b ≤ a) && decide (a ≤ c)) := by
  unfold spec_l1In.f
  by_cases h : a ≥ b
  · rw [if_pos h]; simp [show b ≤ a from h]
  · rw [if_neg h]; simp [show ¬ b ≤ a from h]
theorem in_f (a b c : Int) : impl_in.f a b c = some (decide (b ≤ a) && decide (a ≤ c)) := by
  unfold impl_in.f
  by_cases h : a ≥ b
  · rw [if_pos h]; simp [show b ≤ a from h]
  · rw [if_neg h]; simp [show ¬ b ≤ a from h]
end Go.Proofs.Ythnippdgfhbneaa.PA

/-! Puzzles: the reference and the program ask for the same. No condition but bounds. -/
namespace Go.Proofs.Ythnippdgfhbneaa.PA
open Go.RowKit Go.Proofs.YthnippdgfhbneaaW.PrintWords
set_option linter.unusedVariables false

theorem clue_same (d a b c : Int) : impl_IsClue.f d a b c = spec_pzClue.f d a b c := by
  unfold impl_IsClue.f spec_pzClue.f
  simp only [in_f, l1In_f]
def clueB (d : Int) (x : S34) : Bool := ((spec_pzClue.f d x.f0 x.f1 x.f2).getD false)
theorem clue_f (d : Int) (x : S34) : spec_pzClue.f d x.f0 x.f1 x.f2 = some (clueB d x) := by
  unfold clueB
  suffices h : ∃ v, spec_pzClue.f d x.f0 x.f1 x.f2 = some v by obtain ⟨v, h⟩ := h; rw [h]; rfl
  unfold spec_pzClue.f
  simp only [l1In_f, Option.bind_some]
  repeat' split
  all_goals exact ⟨_, rfl⟩
def puzB (d : Int) (l : List S34) : Bool := decide (2 ≤ d) && decide (d ≤ 3) && decide ((l.length : Int) ≤ 6) && l.all (clueB d)
theorem rdT_nat {l : List S34} {i : Nat} (h : i < l.length) : rd_T34 l (i : Int) = l[i] := by simp [rd_T34, h]
theorem pzGood_l0 (d : Int) (l : List S34) (hl : l.length ≤ 1048576) : ∀ (e i : Nat), i + e = l.length → Ev (fun k => spec_pzGood.l0 k l (l.length : Int) (i : Int) d l) ((l.drop i).all (clueB d))
  | 0, i, h => by
    refine Ev.step (fun k => by rw [spec_pzGood.l0]) ?_
    refine Ev.neg (by omega) (Ev.val ?_)
    rw [List.drop_of_length_le (by omega)]; rfl
  | e + 1, i, h => by
    have hi : i < l.length := by omega
    refine Ev.step (fun k => by rw [spec_pzGood.l0]) ?_
    refine Ev.pos (by omega) (Ev.pos (by omega) (Ev.pos (by omega) ?_))
    rw [rdT_nat hi, wrap_nat (by omega), List.drop_eq_getElem_cons hi, List.all_cons]
    refine Ev.vbind (clue_f d _) ?_
    have ih := pzGood_l0 d l hl e (i + 1) (by omega)
    cases clueB d l[i] with
    | true => exact Ev.pos rfl (by rw [Bool.true_and]; exact ih)
    | false => exact Ev.neg (by simp) (Ev.val rfl)
theorem pzGood_ev (d : Int) (l : List S34) (hl : l.length ≤ 1048576) : Ev (fun k => spec_pzGood.f k d l) (puzB d l) := by
  unfold spec_pzGood.f spec_pzDigits.f puzB
  rw [l1In_f, Option.bind_some]
  refine Ev.vbind rfl ?_
  cases decide (2 ≤ d) && decide (d ≤ 3) with
  | false =>
    refine Ev.neg (by simp) ?_
    refine Ev.step (fun k => by rw [spec_pzGood.j0]) ?_
    exact Ev.pos rfl (Ev.val rfl)
  | true =>
    refine Ev.pos rfl ?_
    refine Ev.step (fun k => by rw [spec_pzGood.j0]) ?_
    by_cases h : (l.length : Int) > 6
    · exact Ev.pos (decide_eq_true h) (Ev.val (by simp [show ¬ (l.length : Int) ≤ 6 by omega]))
    · refine Ev.neg (by simp [h]) ?_
      have := pzGood_l0 d l hl l.length 0 (by omega)
      rw [List.drop_zero] at this
      exact Ev.eq this (by simp [show (l.length : Int) ≤ 6 by omega])
theorem isPuzzle_f (d : Int) (l : List S34) (hl : l.length ≤ 1048576) : impl_IsPuzzle.f d l = some (puzB d l) := by
  unfold impl_IsPuzzle.f puzB
  have hany : anyO (fun x => (impl_IsClue.f d x.f0 x.f1 x.f2).map (!·)) l = some (l.any (fun x => !clueB d x)) := by
    refine anyO_pure _ _ l (fun x _ => ?_)
    rw [clue_same, clue_f]; rfl
  rw [hany, Option.bind_some, if_pos (by omega)]
  have e : l.any (fun x => !clueB d x) = !l.all (clueB d) := by
    clear hany hl
    induction l with
    | nil => rfl
    | cons a l ih => rw [List.any_cons, List.all_cons, ih, Bool.not_and]
  rw [e, Bool.not_not]
end Go.Proofs.Ythnippdgfhbneaa.PA

/-! A puzzle with a clue more, or without one: the reference and the program agree. No condition but bounds. -/
namespace Go.Proofs.Ythnippdgfhbneaa.PA
open Go.RowKit Go.Proofs.YthnippdgfhbneaaW.PrintWords
set_option linter.unusedVariables false

/-- all clues but one -/
def cutC (l : List S34) (k : Int) : List S34 := l.take k.toNat ++ l.drop (k + 1).toNat
theorem cutC_len (l : List S34) (k : Int) (h0 : 0 ≤ k) (h1 : k < l.length) : (cutC l k).length + 1 = l.length := by
  unfold cutC; rw [List.length_append, List.length_take, List.length_drop]; omega
theorem without_f (l : List S34) (k : Int) (hl : l.length ≤ 1048576) (h0 : 0 ≤ k) (h1 : k < l.length) : spec_pzWithout.f l k = some (cutC l k) := by
  have hw : wrap64 (k + 1) = k + 1 := wrap_in (by omega) (by omega)
  unfold spec_pzWithout.f cutC
  rw [Option.bind_some, if_pos h0, if_pos (by omega), Option.bind_some, if_pos (by simp; omega), Option.bind_some, hw, if_pos (by omega), if_pos (by omega), Option.bind_some, if_pos (by simp; omega)]
  rfl
theorem less_f (d : Int) (l : List S34) (k : Int) (hl : l.length ≤ 1048576) (h0 : 0 ≤ k) (h1 : k < l.length) : impl_Puzzle_less.f d l k = some (d, cutC l k) := by
  have hw : wrap64 (k + 1) = k + 1 := wrap_in (by omega) (by omega)
  unfold impl_Puzzle_less.f impl_Clue_33.f cutC
  rw [hw, if_pos h0, if_pos (by omega), if_pos (by omega), if_pos (by omega), if_pos ⟨by simp, by unfold lsum; simp; omega⟩, Option.bind_some]
  simp
theorem dropClue_key (d : Int) (l : List S34) (k : Int) (hl : l.length ≤ 1048576) :
    ∃ r : Int × List S34 × Bool, Ev (fun q => spec_DropClue.f q d l k) r ∧ impl_DropClue.f d l k = some r ∧ r.2.1.length ≤ 1048576 := by
  have hg := pzGood_ev d l hl
  have hi := isPuzzle_f d l hl
  have hw : wrap64 ((l.length : Int) - 1) = (l.length : Int) - 1 := wrap_in (by omega) (by omega)
  unfold spec_DropClue.f impl_DropClue.f
  rw [hi, Option.bind_some, hw, in_f, l1In_f]
  cases g : puzB d l with
  | false => exact ⟨(0, [], false), Ev.bind hg (by rw [g]; exact Ev.neg (by simp) (Ev.val rfl)), by rw [if_neg (by simp)], by simp⟩
  | true =>
    rw [g] at hg
    cases c : (decide (0 ≤ k) && decide (k ≤ (l.length : Int) - 1)) with
    | false => exact ⟨(0, [], false), Ev.bind hg (Ev.pos rfl (Ev.vbind rfl (Ev.neg (by simp) (Ev.val rfl)))), by rw [if_pos rfl, Option.bind_some, if_neg (by simp)], by simp⟩
    | true =>
      simp only [Bool.and_eq_true, decide_eq_true_eq] at c
      have h1 := without_f l k hl c.1 (by omega)
      have h2 := less_f d l k hl c.1 (by omega)
      have h3 := cutC_len l k c.1 (by omega)
      exact ⟨(d, cutC l k, true), Ev.bind hg (Ev.pos rfl (Ev.vbind rfl (Ev.pos rfl (Ev.vbind h1 (Ev.val rfl))))), by rw [if_pos rfl, Option.bind_some, if_pos rfl, h2, Option.bind_some], by show (cutC l k).length ≤ _; omega⟩
theorem addClue_key (d : Int) (l : List S34) (x : S34) (hl : l.length ≤ 1048576) :
    ∃ r : Int × List S34 × Bool, Ev (fun q => spec_AddClue.f q d l x.f0 x.f1 x.f2) r ∧ impl_AddClue.f d l x.f0 x.f1 x.f2 = some r ∧ r.2.1.length ≤ 1048577 := by
  have hg := pzGood_ev d l hl
  have hi := isPuzzle_f d l hl
  have hc := clue_f d x
  unfold spec_AddClue.f impl_AddClue.f
  simp only [hi, clue_same, hc, Option.bind_some]
  cases g : puzB d l with
  | false => exact ⟨(0, [], false), Ev.bind hg (by rw [g]; exact Ev.neg (by simp) (Ev.val rfl)), by rw [if_neg (by simp)], by simp⟩
  | true =>
    rw [g] at hg
    cases c : clueB d x with
    | false => exact ⟨(0, [], false), Ev.bind hg (Ev.pos rfl (Ev.neg (by simp) (Ev.val rfl))), by rw [if_pos rfl, if_neg (by simp)], by simp⟩
    | true =>
      by_cases h6 : (l.length : Int) = 6
      · exact ⟨(0, [], false), Ev.bind hg (Ev.pos rfl (Ev.pos rfl (Ev.pos h6 (Ev.val rfl)))), by rw [if_pos rfl, if_pos rfl, if_pos h6], by simp⟩
      · refine ⟨(d, l ++ [x], true), Ev.bind hg (Ev.pos rfl (Ev.pos rfl (Ev.neg h6 (Ev.pos (by simp; omega) (Ev.pos (by simp; omega) (Ev.val rfl)))))), ?_, by simp; omega⟩
        have hcl : impl_Clue_21.f l = some l := by unfold impl_Clue_21.f; rw [if_pos hl]
        rw [if_pos rfl, if_pos rfl, if_neg h6, hcl, Option.bind_some, if_pos (by simp; omega)]
end Go.Proofs.Ythnippdgfhbneaa.PA

/-! The laws' marks on rows of clues: marking a row writes numbers that the holder then finds. No condition but bounds. -/
namespace Go.Proofs.Ythnippdgfhbneaa.PA
open Go.RowKit Go.Proofs.YthnippdgfhbneaaW.PrintWords
set_option linter.unusedVariables false

def mkC (n : Nat) : S34 := ⟨(n : Int), ((n + 1 : Nat) : Int), ((n + 2 : Nat) : Int)⟩
def marksC (n m : Nat) : List S34 := (List.range m).map (fun j => mkC (n + 3 * j))
theorem marksC_len (n m : Nat) : (marksC n m).length = m := by simp [marksC]
theorem rdT_set {l : List S34} {i : Nat} (h : i < l.length) (v : S34) : rd_T34 (l.set i v) (i : Int) = v := by
  rw [rdT_nat (by simpa using h), List.getElem_set_self]
theorem markC_l0 (n m : Nat) (hn : n + 3 * m ≤ 1099511627776) : ∀ (d i : Nat) (x : List S34), i + d = m → x.length = m → x.take i = (marksC n m).take i → Ev (fun k => laws_markClueS.l0 k x ((n + 3 * i : Nat) : Int) (i : Int)) (((n + 3 * m : Nat) : Int), marksC n m)
  | 0, i, x, h, hx, ht => by
    refine Ev.step (fun k => by rw [laws_markClueS.l0]) ?_
    refine Ev.neg (by omega) (Ev.val ?_)
    rw [List.take_of_length_le (by omega), List.take_of_length_le (by rw [marksC_len]; omega)] at ht
    rw [ht, show n + 3 * i = n + 3 * m by omega]
  | d + 1, i, x, h, hx, ht => by
    refine Ev.step (fun k => by rw [laws_markClueS.l0]) ?_
    refine Ev.pos (by omega) (Ev.pos (by omega) ?_)
    rw [wrap_nat (show n + 3 * i < 4611686018427387904 by omega), wrap_nat (show n + 3 * i + 1 < 4611686018427387904 by omega), wrap_nat (show n + 3 * i + 1 + 1 < 4611686018427387904 by omega), wrap_nat (show i < 4611686018427387904 by omega), Int.toNat_natCast]
    have hi : i < x.length := by omega
    refine Ev.vbind rfl (Ev.vbind rfl ?_)
    have hs : ∀ v : S34, rd_T34 (x.set i v) (i : Int) = v := fun v => rdT_set hi v
    simp only [List.set_set, hs]
    refine markC_l0 n m hn d (i + 1) _ (by omega) (by simpa using hx) ?_
    rw [take_succ_get (by simp; omega), take_succ_get (show i < (marksC n m).length by rw [marksC_len]; omega), List.take_set_of_le (Nat.le_refl _), ht]
    simp [marksC, mkC]
    omega
theorem markClueS_ev (l : List S34) (n : Nat) (hn : n + 3 * l.length ≤ 1099511627776) : Ev (fun k => laws_markClueS.f k l (n : Int)) (((n + 3 * l.length : Nat) : Int), marksC n l.length) :=
  markC_l0 n l.length hn l.length 0 l (by omega) rfl (by simp)
theorem markPuzzle_ev (d : Int) (l : List S34) (n : Nat) (hn : n + 3 * l.length ≤ 1099511627776) : Ev (fun k => laws_markPuzzle.f k d l (n : Int)) (((n + 3 * l.length : Nat) : Int), marksC n l.length) := by
  unfold laws_markPuzzle.f
  exact Ev.bind (markClueS_ev l n hn) (Ev.val rfl)
theorem heldC_l0 (n m : Nat) (hn : n + 3 * m ≤ 1099511627776) : ∀ (d i : Nat), i + d = m → Ev (fun k => laws_heldClueS.l0 k (marksC n m) ((n + 3 * i : Nat) : Int) (i : Int)) ((n + 3 * m : Nat) : Int)
  | 0, i, h => by
    refine Ev.step (fun k => by rw [laws_heldClueS.l0]) ?_
    refine Ev.neg (by rw [marksC_len]; omega) (Ev.val ?_)
    rw [show n + 3 * i = n + 3 * m by omega]
  | d + 1, i, h => by
    have hi : i < (marksC n m).length := by rw [marksC_len]; omega
    have hg : rd_T34 (marksC n m) (i : Int) = mkC (n + 3 * i) := by rw [rdT_nat hi]; simp [marksC]
    have ih := heldC_l0 n m hn d (i + 1) (by omega)
    refine Ev.step (fun k => by rw [laws_heldClueS.l0]) ?_
    rw [hg, wrap_nat (show n + 3 * i < 4611686018427387904 by omega), wrap_nat (show n + 3 * i + 1 < 4611686018427387904 by omega), wrap_nat (show n + 3 * i + 1 + 1 < 4611686018427387904 by omega), wrap_nat (show i < 4611686018427387904 by omega)]
    exact Ev.pos (by rw [marksC_len]; omega) (Ev.pos (by omega) (Ev.pos rfl (Ev.pos rfl (Ev.pos rfl ih))))
theorem heldClueS_ev (n m : Nat) (hn : n + 3 * m ≤ 1099511627776) : Ev (fun k => laws_heldClueS.f k (marksC n m) (n : Int)) ((n + 3 * m : Nat) : Int) :=
  heldC_l0 n m hn m 0 (by omega)
theorem heldPuzzle_ev (d : Int) (n m : Nat) (hn : n + 3 * m ≤ 1099511627776) : Ev (fun k => laws_heldPuzzle.f k d (marksC n m) (n : Int)) ((n + 3 * m : Nat) : Int) := by
  unfold laws_heldPuzzle.f
  exact Ev.bind (heldClueS_ev n m hn) (Ev.neg (by omega) (Ev.val rfl))
end Go.Proofs.Ythnippdgfhbneaa.PA

/-! The laws' own helpers over puzzles: copying keeps them, sizes are counted, equality is equality. No condition but bounds. -/
namespace Go.Proofs.Ythnippdgfhbneaa.PA
open Go.RowKit Go.Proofs.YthnippdgfhbneaaW.PrintWords
set_option linter.unusedVariables false

def conv (x : S26) : S34 := ⟨x.f0, x.f1, x.f2⟩
theorem rdT_natL {l : List S26} {i : Nat} (h : i < l.length) : rd_T26 l (i : Int) = l[i] := by simp [rd_T26, h]
theorem rdT_natI {l : List S34} {i : Nat} (h : i < l.length) : rd_T34 l (i : Int) = l[i] := by simp [rd_T34, h]
theorem toClueS_l0 (l : List S26) (hl : l.length ≤ 4611686018427387903) : ∀ (d i : Nat) (x : List S34), i + d = l.length → x.length = l.length → x.take i = (l.map conv).take i → Ev (fun k => laws_toClueS.l0 k l x (i : Int)) (l.map conv)
  | 0, i, x, h, hx, ht => by
    refine Ev.step (fun k => by rw [laws_toClueS.l0]) ?_
    refine Ev.neg (by omega) (Ev.val ?_)
    rw [List.take_of_length_le (by omega), List.take_of_length_le (by simp; omega)] at ht
    rw [ht]
  | d + 1, i, x, h, hx, ht => by
    refine Ev.step (fun k => by rw [laws_toClueS.l0]) ?_
    refine Ev.pos (by omega) (Ev.pos (by omega) (Ev.vbind rfl (Ev.pos (by omega) ?_)))
    rw [rdT_natL (show i < l.length by omega), wrap_nat (by omega), Int.toNat_natCast]
    refine toClueS_l0 l hl d (i + 1) _ (by omega) (by simpa using hx) ?_
    rw [take_succ_get (by simp; omega), take_succ_get (show i < (l.map conv).length by simp; omega), List.take_set_of_le (Nat.le_refl _), ht]
    simp [conv]
theorem toClueS_ev {l : List S26} (hl : l.length ≤ 1048576) : Ev (fun k => laws_toClueS.f k l) (l.map conv) := by
  unfold laws_toClueS.f
  refine Ev.pos (by omega) (Ev.pos (by omega) ?_)
  exact toClueS_l0 l (by omega) l.length 0 _ (by omega) (by simp) (by simp)
theorem toPuzzle_ev {d : Int} {l : List S26} (hl : l.length ≤ 1048576) : Ev (fun k => laws_toPuzzle.f k d l) (d, l.map conv) := by
  unfold laws_toPuzzle.f
  exact Ev.bind (toClueS_ev hl) (Ev.val rfl)
theorem S_ext {a b : S34} (h0 : a.f0 = b.f0) (h1 : a.f1 = b.f1) (h2 : a.f2 = b.f2) : a = b := by
  cases a; cases b; simp at h0 h1 h2; simp [h0, h1, h2]
theorem eqClueS_l0 (a : List S34) (hl : a.length ≤ 4611686018427387903) : ∀ (d i : Nat), i + d = a.length → Ev (fun k => laws_eqClueS.l0 k a a (i : Int)) true
  | 0, i, h => by
    refine Ev.step (fun k => by rw [laws_eqClueS.l0]) ?_
    exact Ev.neg (by omega) (Ev.val rfl)
  | d + 1, i, h => by
    refine Ev.step (fun k => by rw [laws_eqClueS.l0]) ?_
    refine Ev.pos (by omega) (Ev.pos (by omega) (Ev.pos (by omega) ?_))
    rw [wrap_nat (by omega)]
    refine Ev.vbind (a := true) (by unfold laws_eqClue.f; rw [if_pos rfl, if_pos rfl, if_pos rfl]) (Ev.pos rfl ?_)
    exact eqClueS_l0 a hl d (i + 1) (by omega)
theorem eqPuzzle_ev {d : Int} {a : List S34} (hl : a.length ≤ 1048576) : Ev (fun k => laws_eqPuzzle.f k d a d a) true := by
  unfold laws_eqPuzzle.f laws_eqClueS.f
  exact Ev.pos rfl (Ev.bind (Ev.pos rfl (eqClueS_l0 a (by omega) a.length 0 (by omega))) (Ev.pos rfl (Ev.val rfl)))
theorem eqPuzzle_ev1 {d : Int} {a : List S34} (hl : a.length ≤ 1048577) : Ev (fun k => laws_eqPuzzle.f k d a d a) true := by
  unfold laws_eqPuzzle.f laws_eqClueS.f
  exact Ev.pos rfl (Ev.bind (Ev.pos rfl (eqClueS_l0 a (by omega) a.length 0 (by omega))) (Ev.pos rfl (Ev.val rfl)))
theorem szPuzzle_f {d : Int} {l : List S26} (hl : l.length ≤ maxLen) : ∃ v, laws_szPuzzle.f d l 1048576 = some v ∧ (v < 0 ∨ l.length ≤ 1048576) := by
  unfold maxLen at hl
  unfold laws_szPuzzle.f laws_szClueS.f
  have hw : wrap64 (1048576 - (l.length : Int)) = 1048576 - (l.length : Int) := wrap_in (by omega) (by omega)
  rw [hw]
  by_cases e : 1048576 - (l.length : Int) < 0
  · rw [if_pos e, Option.bind_some, if_pos (by omega)]; exact ⟨-1, rfl, .inl (by omega)⟩
  · rw [if_neg e, Option.bind_some, if_neg e]; exact ⟨_, rfl, .inr (by omega)⟩
end Go.Proofs.Ythnippdgfhbneaa.PA
