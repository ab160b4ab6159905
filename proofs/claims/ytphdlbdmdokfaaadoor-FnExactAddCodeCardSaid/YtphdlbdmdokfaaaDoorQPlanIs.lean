/- What a plan is: codes, strictly up, none of which begins another one. No condition. -/
import Derived.Test.YtphdlbdmdokfaaaDoorPAx0
import Derived.Test.YtphdlbdmdokfaaaDoorQMakeP
import Derived.Test.YtphdlbdmdokfaaaDoorQBeg
namespace Go.Proofs.YtphdlbdmdokfaaaDoor.PA
open Go.RowKit Go.Proofs.YtphdlbdmdokfaaaDoorW.PrintWords
set_option linter.unusedVariables false

/-- what lies between a text and a longer one that it begins is begun by it too -/
theorem between : ∀ (a b t : List UInt8), a ≤ b → b ≤ a ++ t → a.isPrefixOf b = true
  | [], b, t, _, _ => by simp
  | x :: a, [], t, h, _ => by
    exact absurd h (by simp [← List.not_lt])
  | x :: a, y :: b, t, h1, h2 => by
    rw [List.cons_le_cons_iff] at h1
    rw [List.cons_append, List.cons_le_cons_iff] at h2
    have hxy : x = y := by
      rcases h1 with h1 | ⟨h1, _⟩
      · rcases h2 with h2 | ⟨h2, _⟩
        · exact absurd h1 (by have := UInt8.lt_asymm h2; exact this)
        · exact h2.symm
      · exact h1
    subst hxy
    have g1 : a ≤ b := by
      rcases h1 with h1 | ⟨_, h1⟩
      · exact absurd h1 (UInt8.lt_irrefl x)
      · exact h1
    have g2 : b ≤ a ++ t := by
      rcases h2 with h2 | ⟨_, h2⟩
      · exact absurd h2 (UInt8.lt_irrefl x)
      · exact h2
    rw [List.isPrefixOf_cons_cons, between a b t g1 g2]
    simp
theorem beg_between {a b c : ByteArray} (h1 : ltB a b = true) (h2 : ltB b c = true) (h : begB a c = true) : begB a b = true := by
  obtain ⟨t, ht⟩ := begB_iff.mp h
  have e1 := ltB_iff.mp h1
  have e2 := ltB_iff.mp h2
  rw [toList_data, toList_data] at e1 e2
  rw [ht] at e2
  exact between _ _ t (List.le_of_lt e1) (List.le_of_lt e2)
/-- none of the texts begins another one -/
def Apart (l : List ByteArray) : Prop := ∀ a ∈ l, ∀ b ∈ l, a ≠ b → begB a b = false
theorem beg_not_lt {a b : ByteArray} (h : ltB b a = true) : begB a b = false := by
  cases hb : begB a b with
  | false => rfl
  | true =>
    obtain ⟨t, ht⟩ := begB_iff.mp hb
    have e := ltB_iff.mp h
    rw [toList_data, toList_data, ht] at e
    exact absurd e (List.not_lt.mpr (List.le_append_left (l₁ := a.data.toList)))
theorem chain_apart : ∀ (l : List ByteArray), chainB l = true → l.Pairwise (fun a b => ltB a b = true ∧ begB a b = false)
  | [], _ => List.Pairwise.nil
  | [a], _ => List.pairwise_singleton ..
  | a :: b :: r, h => by
    rw [chainB, Bool.and_eq_true] at h
    have ih := chain_apart (b :: r) h.2
    have hab : ltB a b = true ∧ begB a b = false := by have := h.1; unfold stepB at this; simpa [ltB, lessB] using this
    refine List.pairwise_cons.mpr ⟨fun z hz => ?_, ih⟩
    rcases List.mem_cons.mp hz with rfl | hz
    · exact hab
    · have hbz := (List.pairwise_cons.mp ih).1 z hz
      refine ⟨ltB_trans hab.1 hbz.1, ?_⟩
      cases hh : begB a z with
      | false => rfl
      | true => rw [beg_between hab.1 hbz.1 hh] at hab; exact absurd hab.2 (by simp)
theorem apart_chain : ∀ (l : List ByteArray), Up l → Apart l → chainB l = true
  | [], _, _ => rfl
  | [a], _, _ => rfl
  | a :: b :: r, hu, ha => by
    obtain ⟨h1, h2⟩ := List.pairwise_cons.mp hu
    have hab := h1 b (by simp)
    have hne : a ≠ b := fun e => by rw [e, ltB_irrefl] at hab; exact absurd hab (by simp)
    rw [chainB, Bool.and_eq_true]
    refine ⟨?_, apart_chain (b :: r) h2 (fun x hx y hy => ha x (by simp [hx]) y (by simp [hy]))⟩
    unfold stepB
    rw [Bool.and_eq_true]
    exact ⟨hab, by rw [ha a (by simp) b (by simp) hne]; rfl⟩
theorem good_iff {l : List ByteArray} : goodB l = true ↔ codesB l = true ∧ Up l ∧ Apart l := by
  constructor
  · intro h
    have hp : chainB l = true := by unfold goodB at h; rw [Bool.and_eq_true] at h; exact h.2
    refine ⟨good_codes h, good_up h, ?_⟩
    have hpw := chain_apart l hp
    intro a ha b hb hne
    obtain ⟨i, hi, rfl⟩ := List.mem_iff_getElem.mp ha
    obtain ⟨j, hj, rfl⟩ := List.mem_iff_getElem.mp hb
    rcases Nat.lt_trichotomy i j with h1 | h1 | h1
    · exact (List.pairwise_iff_getElem.mp hpw i j hi hj h1).2
    · subst h1; exact absurd rfl hne
    · exact beg_not_lt (List.pairwise_iff_getElem.mp hpw j i hj hi h1).1
  · rintro ⟨h1, h2, h3⟩
    unfold goodB
    rw [Bool.and_eq_true]
    exact ⟨h1, apart_chain l h2 h3⟩
theorem putAll_up {l : List ByteArray} (h : Up l) : putAll [] l = l := by
  obtain ⟨h1, h2, h3, h4⟩ := putAll_facts l [] List.Pairwise.nil
  have hz := h4 (by rw [List.append_nil]; exact up_nodup h)
  have hp := h3 hz
  rw [List.append_nil] at hp
  exact List.Perm.eq_of_pairwise (le := fun a b => ltB b a = false) (fun a b _ _ e1 e2 => ltB_three e2 e1) (h1.imp (fun {a b} hab => ltB_asymm hab)) (h.imp (fun {a b} hab => ltB_asymm hab)) hp
end Go.Proofs.YtphdlbdmdokfaaaDoor.PA
