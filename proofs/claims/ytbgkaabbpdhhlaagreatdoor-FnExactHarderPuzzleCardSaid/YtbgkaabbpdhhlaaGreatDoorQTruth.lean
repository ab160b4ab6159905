/- What a clue tells of a hidden number: the reference and the program reckon the same, at every number of two or three digits. All eleven hundred numbers are gone through. -/
import Derived.Test.YtbgkaabbpdhhlaaGreatDoorPAx0
import Derived.Test.YtbgkaabbpdhhlaaGreatDoorPAx3
import Derived.Test.YtbgkaabbpdhhlaaGreatDoorPAx4
import Derived.Test.YtbgkaabbpdhhlaaGreatDoorPAx5
import Derived.Test.YtbgkaabbpdhhlaaGreatDoorQBytes
namespace Go.Proofs.YtbgkaabbpdhhlaaGreatDoor.PA
open Go.RowKit Go.Proofs.YtbgkaabbpdhhlaaGreatDoorW.PrintWords
set_option linter.unusedVariables false

def t2 (n : Nat) : ByteArray := ⟨#[UInt8.ofNat (48 + n / 10), UInt8.ofNat (48 + n % 10)]⟩
def t3 (n : Nat) : ByteArray := ⟨#[UInt8.ofNat (48 + n / 100), UInt8.ofNat (48 + n / 10 % 10), UInt8.ofNat (48 + n % 10)]⟩
/-- the knight's ways from every digit -/
def mvT : List (List Int) := [[4, 6], [6, 8], [7, 9], [4, 8], [0, 3, 9], [], [0, 1, 7], [2, 6], [1, 3], [2, 4]]
set_option maxRecDepth 100000 in
theorem mv : impl_moves.f 60 ⟨#[110]⟩ = some mvT := by
  have h : impl_moves.f 60 ⟨#[110]⟩ = some [([6, 4] : List Int).mergeSort (fun x y => decide (x ≤ y)), ([8, 6] : List Int).mergeSort (fun x y => decide (x ≤ y)), ([9, 7] : List Int).mergeSort (fun x y => decide (x ≤ y)), ([8, 4] : List Int).mergeSort (fun x y => decide (x ≤ y)), ([0, 9, 3] : List Int).mergeSort (fun x y => decide (x ≤ y)), ([] : List Int).mergeSort (fun x y => decide (x ≤ y)), ([0, 7, 1] : List Int).mergeSort (fun x y => decide (x ≤ y)), ([2, 6] : List Int).mergeSort (fun x y => decide (x ≤ y)), ([3, 1] : List Int).mergeSort (fun x y => decide (x ≤ y)), ([2, 4] : List Int).mergeSort (fun x y => decide (x ≤ y))] := by kernel_rfl
  rw [h]
  unfold mvT
  simp [List.mergeSort, List.MergeSort.Internal.splitInTwo]
/-- the knight's walk, over the table -/
def wlk (x : ByteArray) : Option Bool := (impl_isDigits.f x 1 40).bind fun t => if t = true then impl_isWalk.l0 60 x mvT 1 else some false
theorem wlk_eq (x : ByteArray) : impl_isWalk.f 60 ⟨#[110]⟩ x = wlk x := by
  unfold impl_isWalk.f wlk
  rw [mv]
  rfl
/-- what a clue of a kind tells of a number -/
def valV (kind a : Int) (x : ByteArray) : Int := (spec_pzValue.f 60 kind a x).getD 0
def okV (kind a : Int) (x : ByteArray) : Bool := match spec_pzValue.f 60 kind a x, impl_truth.f 60 kind a x with
  | some p, some q => decide (p = q)
  | _, _ => false
def okW (x : ByteArray) : Bool := match spec_pzValue.f 60 3 0 x, (wlk x).bind fun t => (impl_flag.f t).bind fun u => some u with
  | some p, some q => decide (p = q)
  | _, _ => false
theorem okV_at {kind a : Int} {x : ByteArray} (h : okV kind a x = true) : Ev (fun k => spec_pzValue.f k kind a x) (valV kind a x) ∧ Ev (fun k => impl_truth.f k kind a x) (valV kind a x) := by
  unfold okV at h
  split at h
  · rename_i p q hp hq
    have e := of_decide_eq_true h
    subst e
    unfold valV
    rw [hp]
    exact ⟨Ev.at (fun k => spec_pzValue.mono _ _ _ k) hp, Ev.at (fun k => impl_truth.mono _ _ _ k) hq⟩
  · cases h
theorem okW_at {x : ByteArray} (h : okW x = true) : Ev (fun k => spec_pzValue.f k 3 0 x) (valV 3 0 x) ∧ Ev (fun k => impl_truth.f k 3 0 x) (valV 3 0 x) := by
  unfold okW at h
  split at h
  · rename_i p q hp hq
    have e := of_decide_eq_true h
    subst e
    unfold valV
    rw [hp]
    refine ⟨Ev.at (fun k => spec_pzValue.mono _ _ _ k) hp, Ev.at (n := 60) (fun k => impl_truth.mono _ _ _ k) ?_⟩
    unfold impl_truth.f
    rw [if_neg (by decide), if_neg (by decide), if_neg (by decide), if_pos rfl, wlk_eq]
    exact hq
  · cases h
set_option maxRecDepth 100000
theorem k0_2 : ∀ n : Fin 100, okV 0 0 (t2 n.val) = true := by decide +kernel
theorem k0_3 : ∀ n : Fin 1000, okV 0 0 (t3 n.val) = true := by decide +kernel
theorem k1_2 : ∀ a : Fin 2, ∀ n : Fin 100, okV 1 (a.val : Int) (t2 n.val) = true := by decide +kernel
theorem k1_3 : ∀ a : Fin 3, ∀ n : Fin 1000, okV 1 (a.val : Int) (t3 n.val) = true := by decide +kernel
theorem k2_2 : ∀ n : Fin 100, okV 2 0 (t2 n.val) = true := by decide +kernel
theorem k2_3 : ∀ n : Fin 1000, okV 2 0 (t3 n.val) = true := by decide +kernel
theorem k3_2 : ∀ n : Fin 100, okW (t2 n.val) = true := by decide +kernel
theorem k3_3 : ∀ n : Fin 1000, okW (t3 n.val) = true := by decide +kernel
theorem k4_2 : ∀ a : Fin 8, ∀ n : Fin 100, okV 4 ((a.val : Int) + 2) (t2 n.val) = true := by decide +kernel
theorem k4_3 : ∀ a : Fin 8, ∀ n : Fin 1000, okV 4 ((a.val : Int) + 2) (t3 n.val) = true := by decide +kernel
theorem k5_2 : ∀ n : Fin 100, okV 5 0 (t2 n.val) = true := by decide +kernel
theorem k5_3 : ∀ n : Fin 1000, okV 5 0 (t3 n.val) = true := by decide +kernel
end Go.Proofs.YtbgkaabbpdhhlaaGreatDoor.PA
