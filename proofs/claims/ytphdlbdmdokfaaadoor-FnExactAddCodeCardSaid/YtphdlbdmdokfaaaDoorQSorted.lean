/- Sorted lists of texts: putting one after the other sorts, where none comes twice. No condition. -/
import Derived.Test.YtphdlbdmdokfaaaDoorQOrder
namespace Go.Proofs.YtphdlbdmdokfaaaDoor.PA
open Go.RowKit Go.Proofs.YtphdlbdmdokfaaaDoorW.PrintWords
set_option linter.unusedVariables false

theorem insB_perm {x : ByteArray} : ∀ {l : List ByteArray}, x ∉ l → (insB x l).Perm (x :: l)
  | [], _ => List.Perm.refl _
  | y :: r, h => by
    have hne : ¬ y = x := fun e => h (by simp [e])
    have hr : x ∉ r := fun e => h (by simp [e])
    unfold insB
    split
    · exact (List.Perm.cons y (insB_perm hr)).trans (List.Perm.swap x y r)
    · exact List.Perm.refl _
def putAll (B : List ByteArray) (l : List ByteArray) : List ByteArray := l.foldl (fun B x => insB x B) B
theorem putAll_facts : ∀ (l B : List ByteArray), Up B → Up (putAll B l) ∧ (putAll B l).length ≤ B.length + l.length ∧ ((putAll B l).length = B.length + l.length → (putAll B l).Perm (l ++ B)) ∧ ((l ++ B).Nodup → (putAll B l).length = B.length + l.length)
  | [], B, h => ⟨h, by simp [putAll], fun _ => List.Perm.refl _, fun _ => rfl⟩
  | x :: l, B, h => by
    obtain ⟨h1, h2, h3, h4⟩ := putAll_facts l (insB x B) (up_insB h)
    have e : putAll B (x :: l) = putAll (insB x B) l := rfl
    rw [e]
    by_cases hx : x ∈ B
    · rw [insB_in h hx] at h1 h2 h3 h4 ⊢
      refine ⟨h1, by simp only [List.length_cons]; omega, fun hh => by simp only [List.length_cons] at hh; omega, fun hh => ?_⟩
      have := (List.nodup_cons.mp hh).1
      exact absurd (List.mem_append_right l hx) this
    · have hp := insB_perm hx
      have hlen := len_insB hx
      rw [hlen] at h2 h3 h4
      refine ⟨h1, by simp only [List.length_cons]; omega, fun hh => ?_, fun hh => ?_⟩
      · have := h3 (by simp only [List.length_cons] at hh; omega)
        refine this.trans ?_
        exact (List.Perm.append_left l hp).trans List.perm_middle
      · have hn : (l ++ insB x B).Nodup := ((List.Perm.append_left l hp).trans List.perm_middle).nodup_iff.mpr hh
        have := h4 hn
        simp only [List.length_cons]
        omega
/-- what the library's sort writes -/
def sortB (l : List ByteArray) : List ByteArray := ((l.map (·.data.toList)).mergeSort fun x y => decide (x ≤ y)).map fun b => ⟨b.toArray⟩
theorem sortB_perm (l : List ByteArray) : (sortB l).Perm l := by
  unfold sortB
  have h := (List.mergeSort_perm (l.map (·.data.toList)) (fun x y => decide (x ≤ y))).map (fun b => (⟨b.toArray⟩ : ByteArray))
  refine h.trans ?_
  rw [List.map_map]
  have : (fun b : List UInt8 => (⟨b.toArray⟩ : ByteArray)) ∘ (fun s : ByteArray => s.data.toList) = id := by
    funext s; exact ba_ext (by simp)
  rw [this, List.map_id]
theorem sortB_up (l : List ByteArray) : (sortB l).Pairwise (fun a b => ltB b a = false) := by
  have h := List.pairwise_mergeSort (le := fun (x y : List UInt8) => decide (x ≤ y)) (fun a b c h1 h2 => by
      simp only [decide_eq_true_eq] at h1 h2 ⊢
      exact List.le_trans h1 h2) (fun a b => by
      simp only [Bool.or_eq_true, decide_eq_true_eq]
      exact List.le_total a b) (l.map (·.data.toList))
  unfold sortB
  rw [List.pairwise_map]
  refine h.imp ?_
  intro a b hab
  have hab' : a ≤ b := of_decide_eq_true hab
  cases hh : ltB (⟨b.toArray⟩ : ByteArray) ⟨a.toArray⟩ with
  | false => rfl
  | true =>
    have := ltB_iff.mp hh
    rw [toList_mk, toList_mk] at this
    exact absurd this (List.not_lt.mpr hab')
theorem up_nodup {l : List ByteArray} (h : Up l) : l.Nodup := h.imp (fun {a b} hab e => by rw [e, ltB_irrefl] at hab; exact absurd hab (by simp))
theorem sortB_eq {l U : List ByteArray} (hU : Up U) (hp : U.Perm l) : sortB l = U := by
  refine List.Perm.eq_of_pairwise (le := fun a b => ltB b a = false) (fun a b _ _ h1 h2 => ltB_three h2 h1) (sortB_up l) (hU.imp (fun {a b} hab => ltB_asymm hab)) ((sortB_perm l).trans hp.symm)
end Go.Proofs.YtphdlbdmdokfaaaDoor.PA
