/- The order of texts: by bytes; no condition. -/
import Derived.Test.YtphdlbdmdokfaaaDoorQBase
namespace Go.Proofs.YtphdlbdmdokfaaaDoor.PA
open Go.RowKit Go.Proofs.YtphdlbdmdokfaaaDoorW.PrintWords
set_option linter.unusedVariables false

theorem bytesLess_lt : ∀ (x y : List UInt8), Op.bytesLess x y = decide (x < y)
  | [], [] => by simp [Op.bytesLess]
  | _ :: _, [] => by simp [Op.bytesLess]
  | [], _ :: _ => by simp [Op.bytesLess]
  | a :: x, b :: y => by
    rw [Op.bytesLess, bytesLess_lt x y]
    simp only [List.cons_lt_cons_iff]
    by_cases h1 : a < b <;> by_cases h2 : a = b <;> by_cases h3 : x < y <;> simp [h1, h2, h3]
def ltB (a b : ByteArray) : Bool := Op.bytesLess a.toList b.toList
theorem ltB_iff {a b : ByteArray} : ltB a b = true ↔ a.toList < b.toList := by unfold ltB; rw [bytesLess_lt]; exact decide_eq_true_iff
theorem ltB_irrefl (a : ByteArray) : ltB a a = false := by
  cases h : ltB a a with
  | false => rfl
  | true => exact absurd (ltB_iff.mp h) (List.lt_irrefl _)
theorem ltB_trans {a b c : ByteArray} (h1 : ltB a b = true) (h2 : ltB b c = true) : ltB a c = true := ltB_iff.mpr (List.lt_trans (ltB_iff.mp h1) (ltB_iff.mp h2))
theorem ltB_asymm {a b : ByteArray} (h1 : ltB a b = true) : ltB b a = false := by
  cases h : ltB b a with
  | false => rfl
  | true => have := ltB_trans h1 h; rw [ltB_irrefl] at this; exact absurd this (by simp)
theorem ltB_three {a b : ByteArray} (h1 : ltB a b = false) (h2 : ltB b a = false) : a = b := by
  have n1 : ¬ a.toList < b.toList := fun h => by rw [ltB_iff.mpr h] at h1; exact absurd h1 (by simp)
  have n2 : ¬ b.toList < a.toList := fun h => by rw [ltB_iff.mpr h] at h2; exact absurd h2 (by simp)
  exact toList_inj.mp (List.le_antisymm (List.not_lt.mp n2) (List.not_lt.mp n1))
/-- strictly up -/
def Up (l : List ByteArray) : Prop := l.Pairwise (fun a b => ltB a b = true)
/-- put a text in its place, once -/
def insB (x : ByteArray) : List ByteArray → List ByteArray
  | [] => [x]
  | y :: r => if ltB y x = true then y :: insB x r else if y = x then y :: r else x :: y :: r
theorem mem_insB {x z : ByteArray} : ∀ {l : List ByteArray}, z ∈ insB x l ↔ z = x ∨ z ∈ l
  | [] => by simp [insB]
  | y :: r => by
    unfold insB
    split
    · rw [List.mem_cons, mem_insB, List.mem_cons]; constructor
      · rintro (h | h | h) <;> simp [h]
      · rintro (h | h | h) <;> simp [h]
    · split
      · rename_i h; subst h; simp
      · simp
theorem up_insB {x : ByteArray} : ∀ {l : List ByteArray}, Up l → Up (insB x l)
  | [], _ => List.pairwise_singleton ..
  | y :: r, h => by
    obtain ⟨h1, h2⟩ := List.pairwise_cons.mp h
    unfold insB
    split
    · rename_i hy
      refine List.pairwise_cons.mpr ⟨fun z hz => ?_, up_insB h2⟩
      rcases mem_insB.mp hz with rfl | hz
      · exact hy
      · exact h1 z hz
    · rename_i hy
      split
      · exact h
      · rename_i hne
        have hxy : ltB x y = true := by
          cases hh : ltB x y with
          | true => rfl
          | false => exact absurd (ltB_three (by simpa using hy) hh) hne
        refine List.pairwise_cons.mpr ⟨fun z hz => ?_, h⟩
        rcases List.mem_cons.mp hz with rfl | hz
        · exact hxy
        · exact ltB_trans hxy (h1 z hz)
theorem len_insB {x : ByteArray} : ∀ {l : List ByteArray}, x ∉ l → (insB x l).length = l.length + 1
  | [], _ => rfl
  | y :: r, h => by
    have hne : ¬ y = x := fun e => h (by simp [e])
    have hr : x ∉ r := fun e => h (by simp [e])
    unfold insB
    split
    · rw [List.length_cons, len_insB hr]; rfl
    · rfl
theorem insB_in {x : ByteArray} : ∀ {l : List ByteArray}, Up l → x ∈ l → insB x l = l
  | [], _, h => by simp at h
  | y :: r, h, hx => by
    obtain ⟨h1, h2⟩ := List.pairwise_cons.mp h
    unfold insB
    split
    · rename_i hy
      rcases List.mem_cons.mp hx with rfl | hx
      · rw [ltB_irrefl] at hy; exact absurd hy (by simp)
      · rw [insB_in h2 hx]
    · rename_i hy
      rcases List.mem_cons.mp hx with rfl | hx
      · simp
      · exact absurd (h1 x hx) (by simpa using hy)
theorem insB_take {x : ByteArray} : ∀ (i : Nat) {l : List ByteArray}, (∀ y ∈ l.take i, ltB y x = true) → insB x l = l.take i ++ insB x (l.drop i)
  | 0, l, _ => by simp
  | i + 1, [], _ => by simp
  | i + 1, y :: r, h => by
    have hy : ltB y x = true := h y (by simp)
    rw [List.take_succ_cons, List.drop_succ_cons, insB, if_pos hy, insB_take i (fun z hz => h z (by simp [hz]))]; rfl
theorem up_take_lt {l : List ByteArray} {i : Nat} {x : ByteArray} (h : Up l) (hi : 0 < i) (hil : i ≤ l.length) (hx : ltB (l[i - 1]'(by omega)) x = true) : ∀ y ∈ l.take i, ltB y x = true := by
  intro y hy
  obtain ⟨j, hj, e⟩ := List.mem_iff_getElem.mp hy
  rw [List.length_take] at hj
  rw [List.getElem_take] at e
  subst e
  rcases Nat.lt_or_ge j (i - 1) with h1 | h1
  · exact ltB_trans (List.pairwise_iff_getElem.mp h j (i - 1) (by omega) (by omega) h1) hx
  · have : j = i - 1 := by omega
    subst this; exact hx
end Go.Proofs.YtphdlbdmdokfaaaDoor.PA
