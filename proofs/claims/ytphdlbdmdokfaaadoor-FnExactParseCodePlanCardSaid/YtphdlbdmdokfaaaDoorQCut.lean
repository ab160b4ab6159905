/- A text cut at one byte: the library's pieces, told along the text. No condition. -/
import Derived.Test.YtphdlbdmdokfaaaDoorQBase
import Derived.Lib.SplitLaws
import Derived.Lib.IndexBytes
namespace Go.Proofs.YtphdlbdmdokfaaaDoor.PA
open Go.RowKit Go.Proofs.YtphdlbdmdokfaaaDoorW.PrintWords
set_option linter.unusedVariables false

/-- the pieces between a byte, the first with something ahead of it -/
def cutL (c : UInt8) : List UInt8 → List UInt8 → List (List UInt8)
  | p, [] => [p]
  | p, b :: l => if b = c then p :: cutL c [] l else cutL c (p ++ [b]) l
theorem cutL_head (c : UInt8) : ∀ (l p : List UInt8), ∃ q r, cutL c [] l = q :: r ∧ cutL c p l = (p ++ q) :: r
  | [], p => ⟨[], [], rfl, by simp [cutL]⟩
  | b :: l, p => by
    by_cases h : b = c
    · exact ⟨[], cutL c [] l, by simp [cutL, h], by simp [cutL, h]⟩
    · obtain ⟨q, r, e1, e2⟩ := cutL_head c l [b]
      obtain ⟨q', r', e3, e4⟩ := cutL_head c l (p ++ [b])
      rw [e1] at e3
      injection e3 with e5 e6
      subst e5 e6
      refine ⟨[b] ++ q, r, ?_, ?_⟩
      · rw [cutL, if_neg h]; exact e2
      · rw [cutL, if_neg h, e4, List.append_assoc]
theorem splitK_cut (c : UInt8) : ∀ (l : List UInt8), Lib.splitK [c] 0 (Lib.count l [c]) l = cutL c [] l
  | [] => by rw [Lib.count_one]; rfl
  | b :: l => by
    have ih := splitK_cut c l
    by_cases h : b = c
    · subst h
      have hix : Lib.index (b :: l) [b] = 0 := by rw [Lib.index]; simp [List.isPrefixOf]
      rw [Lib.count_cons_eq, Nat.add_comm, Lib.splitK, hix]
      simp only [cutL, if_true]
      rw [if_neg (by decide), ← ih]
      rfl
    · have hp : ([c] : List UInt8).isPrefixOf (b :: l) = false := by simp [List.isPrefixOf, Ne.symm h]
      have hix : Lib.index (b :: l) [c] = if Lib.index l [c] == -1 then -1 else Lib.index l [c] + 1 := by rw [Lib.index, hp]; simp
      obtain ⟨q, r, e1, e2⟩ := cutL_head c l [b]
      have hcut : cutL c [] (b :: l) = ([b] ++ q) :: r := by rw [cutL, if_neg h]; exact e2
      rw [Lib.count_cons_ne b c l h, hcut]
      rw [e1] at ih
      cases hk : Lib.count l [c] with
      | zero =>
        rw [hk, Lib.splitK] at ih
        injection ih with i1 i2
        subst i1 i2
        rfl
      | succ k =>
        rw [hk, Lib.splitK] at ih
        rw [Lib.splitK, hix]
        by_cases hm : Lib.index l [c] = -1
        · rw [Lib.count_miss hm] at hk; omega
        · have hge := Lib.index_ge l [c]
          rw [if_neg (fun e => hm (beq_iff_eq.1 e))] at ih
          rw [if_neg (fun e => hm (beq_iff_eq.1 e)), if_neg (fun e => by have := beq_iff_eq.1 e; omega)]
          injection ih with i1 i2
          obtain ⟨j, hj⟩ : ∃ j : Nat, Lib.index l [c] = j := ⟨(Lib.index l [c]).toNat, by omega⟩
          rw [hj] at i1 i2 ⊢
          have e3 : ((j : Int) + 1).toNat = j + 1 := by omega
          rw [e3]
          simp only [Int.toNat_natCast, List.length_singleton, Nat.add_zero] at i1 i2 ⊢
          rw [show j + 1 + 1 = (j + 1) + 1 from rfl, List.drop_succ_cons, List.take_succ_cons, i1, i2]
          rfl
/-- the pieces as texts -/
def cutT (c : UInt8) (s : ByteArray) : List ByteArray := (cutL c [] s.data.toList).map fun l => ⟨l.toArray⟩
theorem split_cut (c : UInt8) (s : ByteArray) : Lib.splitB ⟨#[c]⟩ 0 (Lib.countB s ⟨#[c]⟩) s = cutT c s := by
  have h := Lib.splitB_data ⟨#[c]⟩ 0 (Lib.countB s ⟨#[c]⟩) s
  have h2 := splitK_cut c s.data.toList
  unfold cutT
  rw [← h2]
  have e : (Lib.splitB ⟨#[c]⟩ 0 (Lib.countB s ⟨#[c]⟩) s).map (fun x => (⟨x.data.toList.toArray⟩ : ByteArray)) = Lib.splitB ⟨#[c]⟩ 0 (Lib.countB s ⟨#[c]⟩) s := by
    have : (fun x : ByteArray => (⟨x.data.toList.toArray⟩ : ByteArray)) = id := by funext x; exact ba_ext (by simp)
    rw [this, List.map_id]
  rw [← e]
  have h3 := congrArg (List.map fun l => (⟨l.toArray⟩ : ByteArray)) h
  rw [List.map_map] at h3
  exact h3
theorem cutL_len (c : UInt8) : ∀ (l p : List UInt8), ((cutL c p l).map List.length).sum + (cutL c p l).length = p.length + l.length + 1
  | [], p => by simp [cutL]
  | b :: l, p => by
    by_cases h : b = c
    · have ih := cutL_len c l []
      simp only [cutL, h, if_true, List.map_cons, List.sum_cons, List.length_cons, List.length_nil] at ih ⊢
      omega
    · have ih := cutL_len c l (p ++ [b])
      simp only [cutL, h, if_false, List.length_append, List.length_cons, List.length_nil] at ih ⊢
      omega
theorem sum_le {l : List (List UInt8)} {m : Nat} (h : ∀ x ∈ l, x.length ≤ m) : (l.map List.length).sum ≤ m * l.length := by
  induction l with
  | nil => simp
  | cons a l ih =>
    have h1 := h a (by simp)
    have h2 := ih (fun x hx => h x (by simp [hx]))
    simp only [List.map_cons, List.sum_cons, List.length_cons, Nat.mul_add, Nat.mul_one]
    omega
theorem cutT_small (c : UInt8) (s : ByteArray) (n m : Nat) (h1 : (cutT c s).length ≤ n) (h2 : ∀ x ∈ cutT c s, x.size ≤ m) : s.size + 1 ≤ m * n + n := by
  have hl := cutL_len c s.data.toList []
  have hlen : (cutT c s).length = (cutL c [] s.data.toList).length := by unfold cutT; rw [List.length_map]
  have hs := sum_le (l := cutL c [] s.data.toList) (m := m) (fun x hx => h2 ⟨x.toArray⟩ (List.mem_map.mpr ⟨x, hx, rfl⟩))
  have hmul : m * (cutL c [] s.data.toList).length ≤ m * n := Nat.mul_le_mul_left m (by omega)
  rw [size_data]
  simp only [List.length_nil] at hl
  omega
theorem cutT_len (c : UInt8) (s : ByteArray) : (cutT c s).length ≤ s.size + 1 := by
  have hl := cutL_len c s.data.toList []
  unfold cutT
  rw [List.length_map, size_data]
  simp only [List.length_nil] at hl
  omega
theorem mem_le_sum : ∀ {l : List Nat} {n : Nat}, n ∈ l → n ≤ l.sum
  | a :: l, n, h => by
    rw [List.sum_cons]
    rcases List.mem_cons.mp h with rfl | h
    · omega
    · have := mem_le_sum h; omega
theorem cutT_size (c : UInt8) (s : ByteArray) : ∀ x ∈ cutT c s, x.size ≤ s.size := by
  intro x hx
  have hl := cutL_len c s.data.toList []
  unfold cutT at hx
  obtain ⟨l, hm, rfl⟩ := List.mem_map.mp hx
  have h1 : l.length ≤ ((cutL c [] s.data.toList).map List.length).sum := mem_le_sum (List.mem_map.mpr ⟨l, hm, rfl⟩)
  have h2 : 1 ≤ (cutL c [] s.data.toList).length := List.length_pos_iff.mpr (fun e => by rw [e] at hm; simp at hm)
  simp only [List.length_nil] at hl
  show l.length ≤ _
  rw [size_data]
  omega
end Go.Proofs.YtphdlbdmdokfaaaDoor.PA
