/- The plain facts that the law FnExactHarderPuzzle's proof leans on, in one text: each part has its own sentence. No condition but bounds. -/
import Derived.Test.YtbgkaabbpdhhlaaGreatDoorPAx0
import Derived.Test.YtbgkaabbpdhhlaaGreatDoorPAx1
import Derived.Test.YtbgkaabbpdhhlaaGreatDoorPAx3
import Derived.Test.YtbgkaabbpdhhlaaGreatDoorPAx4
import Derived.Test.YtbgkaabbpdhhlaaGreatDoorPAx5
import Derived.Test.YtbgkaabbpdhhlaaGreatDoorPAx6
import Derived.Test.YtbgkaabbpdhhlaaGreatDoorPAx7
import Derived.Test.YtbgkaabbpdhhlaaGreatDoorPAx11
import Derived.Test.YtbgkaabbpdhhlaaGreatDoorQBase
import Derived.Test.YtbgkaabbpdhhlaaGreatDoorQIn
import Derived.Test.YtbgkaabbpdhhlaaGreatDoorQBytes
import Derived.Test.YtbgkaabbpdhhlaaGreatDoorQTruth
/-! Digits alone, as the program asks for them. No condition but bounds of size. -/
namespace Go.Proofs.YtbgkaabbpdhhlaaGreatDoor.PA
open Go.RowKit Go.Proofs.YtbgkaabbpdhhlaaGreatDoorW.PrintWords
set_option linter.unusedVariables false

end Go.Proofs.YtbgkaabbpdhhlaaGreatDoor.PA

/-! Texts of digits, as the program asks for them. No condition but bounds of size. -/
namespace Go.Proofs.YtbgkaabbpdhhlaaGreatDoor.PA
open Go.RowKit Go.Proofs.YtbgkaabbpdhhlaaGreatDoorW.PrintWords
set_option linter.unusedVariables false

end Go.Proofs.YtbgkaabbpdhhlaaGreatDoor.PA

/-! Texts of digits, as the reference and the program ask for them: one Bool for both. No condition but bounds of size. -/
namespace Go.Proofs.YtbgkaabbpdhhlaaGreatDoor.PA
open Go.RowKit Go.Proofs.YtbgkaabbpdhhlaaGreatDoorW.PrintWords
set_option linter.unusedVariables false

end Go.Proofs.YtbgkaabbpdhhlaaGreatDoor.PA

/-! What a clue tells of a hidden number, of all such numbers. -/
namespace Go.Proofs.YtbgkaabbpdhhlaaGreatDoor.PA
open Go.RowKit Go.Proofs.YtbgkaabbpdhhlaaGreatDoorW.PrintWords
set_option linter.unusedVariables false

/-- a kind of clue and its place or divider -/
def pairOk (z : Nat) (k a : Int) : Prop := (k = 0 ∧ a = 0) ∨ (k = 1 ∧ 0 ≤ a ∧ a < z) ∨ (k = 2 ∧ a = 0) ∨ (k = 3 ∧ a = 0) ∨ (k = 4 ∧ 2 ≤ a ∧ a ≤ 9) ∨ (k = 5 ∧ a = 0)
theorem dig_num {b : UInt8} (h : digB b = true) : ∃ n, n < 10 ∧ b = UInt8.ofNat (48 + n) := by
  have h' : 48 ≤ b.toNat ∧ b.toNat ≤ 57 := by unfold digB at h; simpa using h
  refine ⟨b.toNat - 48, by omega, ?_⟩
  rw [show 48 + (b.toNat - 48) = b.toNat by omega]
  exact (UInt8.ofNat_toNat).symm
theorem num_2 {x : ByteArray} (hz : x.size = 2) (h : x.data.toList.all digB = true) : ∃ n : Fin 100, x = t2 n.val := by
  have hz' : x.data.toList.length = 2 := hz
  obtain ⟨a, b, hl⟩ : ∃ a b, x.data.toList = [a, b] := by
    match hm : x.data.toList, hz' with
    | [a, b], _ => exact ⟨a, b, rfl⟩
  rw [hl] at h
  simp only [List.all_cons, List.all_nil, Bool.and_true, Bool.and_eq_true] at h
  obtain ⟨m, hm, rfl⟩ := dig_num h.1
  obtain ⟨n, hn, rfl⟩ := dig_num h.2
  refine ⟨⟨10 * m + n, by omega⟩, ba_ext ?_⟩
  rw [hl]
  show _ = [_, _]
  rw [show (10 * m + n) / 10 = m by omega, show (10 * m + n) % 10 = n by omega]
theorem num_3 {x : ByteArray} (hz : x.size = 3) (h : x.data.toList.all digB = true) : ∃ n : Fin 1000, x = t3 n.val := by
  have hz' : x.data.toList.length = 3 := hz
  obtain ⟨a, b, c, hl⟩ : ∃ a b c, x.data.toList = [a, b, c] := by
    match hm : x.data.toList, hz' with
    | [a, b, c], _ => exact ⟨a, b, c, rfl⟩
  rw [hl] at h
  simp only [List.all_cons, List.all_nil, Bool.and_true, Bool.and_eq_true] at h
  obtain ⟨m, hm, rfl⟩ := dig_num h.1
  obtain ⟨n, hn, rfl⟩ := dig_num h.2.1
  obtain ⟨o, ho, rfl⟩ := dig_num h.2.2
  refine ⟨⟨100 * m + 10 * n + o, by omega⟩, ba_ext ?_⟩
  rw [hl]
  show _ = [_, _, _]
  rw [show (100 * m + 10 * n + o) / 100 = m by omega, show (100 * m + 10 * n + o) / 10 % 10 = n by omega, show (100 * m + 10 * n + o) % 10 = o by omega]
theorem truth_ev {x : ByteArray} {k a : Int} (hx : digitsB x 2 3 = true) (hc : pairOk x.size k a) : Ev (fun n => spec_pzValue.f n k a x) (valV k a x) ∧ Ev (fun n => impl_truth.f n k a x) (valV k a x) := by
  unfold digitsB at hx
  simp only [Bool.and_eq_true, decide_eq_true_eq] at hx
  have hz : x.size = 2 ∨ x.size = 3 := by omega
  rcases hz with hz | hz
  · obtain ⟨n, rfl⟩ := num_2 hz hx.2
    rw [hz] at hc
    rcases hc with ⟨rfl, rfl⟩ | ⟨rfl, h0, h1⟩ | ⟨rfl, rfl⟩ | ⟨rfl, rfl⟩ | ⟨rfl, h0, h1⟩ | ⟨rfl, rfl⟩
    · exact okV_at (k0_2 n)
    · have := k1_2 ⟨a.toNat, by omega⟩ n
      rw [show (((⟨a.toNat, by omega⟩ : Fin 2).val : Nat) : Int) = a by simp; omega] at this
      exact okV_at this
    · exact okV_at (k2_2 n)
    · exact okW_at (k3_2 n)
    · have := k4_2 ⟨(a - 2).toNat, by omega⟩ n
      rw [show (((⟨(a - 2).toNat, by omega⟩ : Fin 8).val : Nat) : Int) + 2 = a by simp; omega] at this
      exact okV_at this
    · exact okV_at (k5_2 n)
  · obtain ⟨n, rfl⟩ := num_3 hz hx.2
    rw [hz] at hc
    rcases hc with ⟨rfl, rfl⟩ | ⟨rfl, h0, h1⟩ | ⟨rfl, rfl⟩ | ⟨rfl, rfl⟩ | ⟨rfl, h0, h1⟩ | ⟨rfl, rfl⟩
    · exact okV_at (k0_3 n)
    · have := k1_3 ⟨a.toNat, by omega⟩ n
      rw [show (((⟨a.toNat, by omega⟩ : Fin 3).val : Nat) : Int) = a by simp; omega] at this
      exact okV_at this
    · exact okV_at (k2_3 n)
    · exact okW_at (k3_3 n)
    · have := k4_3 ⟨(a - 2).toNat, by omega⟩ n
      rw [show (((⟨(a - 2).toNat, by omega⟩ : Fin 8).val : Nat) : Int) + 2 = a by simp; omega] at this
      exact okV_at this
    · exact okV_at (k5_3 n)
theorem clue_pair {z : Nat} {k a b : Int} (hz : z ≤ 3) (h : spec_pzClue.f (z : Int) k a b = some true) : pairOk z k a := by
  unfold spec_pzClue.f at h
  unfold pairOk
  have hw : wrap64 ((z : Int) - 1) = (z : Int) - 1 := by unfold wrap64; omega
  simp only [l1In_f, Option.bind_some, hw] at h
  split at h
  · split at h
    · exact .inl ⟨by assumption, by assumption⟩
    · cases h
  · split at h
    · split at h
      · rename_i h1 h2
        simp only [Bool.and_eq_true, decide_eq_true_eq] at h2
        exact .inr (.inl ⟨by assumption, by omega, by omega⟩)
      · cases h
    · split at h
      · split at h
        · exact .inr (.inr (.inl ⟨by assumption, by assumption⟩))
        · cases h
      · split at h
        · split at h
          · exact .inr (.inr (.inr (.inl ⟨by assumption, by assumption⟩)))
          · cases h
        · split at h
          · split at h
            · rename_i h1 h2
              simp only [Bool.and_eq_true, decide_eq_true_eq] at h2
              exact .inr (.inr (.inr (.inr (.inl ⟨by assumption, by omega, by omega⟩))))
            · cases h
          · split at h
            · split at h
              · exact .inr (.inr (.inr (.inr (.inr ⟨by assumption, by assumption⟩))))
              · cases h
            · cases h
/-- does a clue fit -/
theorem fits_ev {x : ByteArray} {k a : Int} (b : Int) (hx : digitsB x 2 3 = true) (hc : pairOk x.size k a) : Ev (fun n => spec_pzFits.f n k a b x) (valV k a x == b) ∧ Ev (fun n => impl_Clue_fits.f n k a b x) (valV k a x == b) := by
  obtain ⟨h1, h2⟩ := truth_ev hx hc
  refine ⟨?_, ?_⟩
  · unfold spec_pzFits.f
    exact Ev.bind h1 (Ev.val rfl)
  · unfold impl_Clue_fits.f
    exact Ev.bind h2 (Ev.val rfl)
end Go.Proofs.YtbgkaabbpdhhlaaGreatDoor.PA

/-! Puzzles: the reference and the program ask for the same. No condition but bounds. -/
namespace Go.Proofs.YtbgkaabbpdhhlaaGreatDoor.PA
open Go.RowKit Go.Proofs.YtbgkaabbpdhhlaaGreatDoorW.PrintWords
set_option linter.unusedVariables false

theorem clue_same (d a b c : Int) : impl_IsClue.f d a b c = spec_pzClue.f d a b c := by
  unfold impl_IsClue.f spec_pzClue.f
  simp only [in_f, l1In_f]
def clueB (d : Int) (x : S65) : Bool := ((spec_pzClue.f d x.f0 x.f1 x.f2).getD false)
theorem clue_f (d : Int) (x : S65) : spec_pzClue.f d x.f0 x.f1 x.f2 = some (clueB d x) := by
  unfold clueB
  suffices h : ∃ v, spec_pzClue.f d x.f0 x.f1 x.f2 = some v by obtain ⟨v, h⟩ := h; rw [h]; rfl
  unfold spec_pzClue.f
  simp only [l1In_f, Option.bind_some]
  repeat' split
  all_goals exact ⟨_, rfl⟩
def puzB (d : Int) (l : List S65) : Bool := decide (2 ≤ d) && decide (d ≤ 3) && decide ((l.length : Int) ≤ 6) && l.all (clueB d)
theorem rdT_nat {l : List S65} {i : Nat} (h : i < l.length) : rd_T65 l (i : Int) = l[i] := by simp [rd_T65, h]
theorem pzGood_l0 (d : Int) (l : List S65) (hl : l.length ≤ 1048576) : ∀ (e i : Nat), i + e = l.length → Ev (fun k => spec_pzGood.l0 k l (l.length : Int) (i : Int) d l) ((l.drop i).all (clueB d))
  | 0, i, h => by
    refine Ev.step (fun k => by rw [spec_pzGood.l0]) ?_
    refine Ev.neg (by omega) (Ev.val ?_)
    rw [List.drop_of_length_le (by omega)]; rfl
  | e + 1, i, h => by
    have hi : i < l.length := by omega
    refine Ev.step (fun k => by rw [spec_pzGood.l0]) ?_
    refine Ev.pos (by omega) (Ev.pos (by omega) (Ev.pos (by omega) ?_))
    rw [rdT_nat hi, wrap_nat (by omega), List.drop_eq_getElem_cons hi, List.all_cons]
    refine Ev.vbind (clue_f d _) ?_
    have ih := pzGood_l0 d l hl e (i + 1) (by omega)
    cases clueB d l[i] with
    | true => exact Ev.pos rfl (by rw [Bool.true_and]; exact ih)
    | false => exact Ev.neg (by simp) (Ev.val rfl)
theorem pzGood_ev (d : Int) (l : List S65) (hl : l.length ≤ 1048576) : Ev (fun k => spec_pzGood.f k d l) (puzB d l) := by
  unfold spec_pzGood.f spec_pzDigits.f puzB
  rw [l1In_f, Option.bind_some]
  refine Ev.vbind rfl ?_
  cases decide (2 ≤ d) && decide (d ≤ 3) with
  | false =>
    refine Ev.neg (by simp) ?_
    refine Ev.step (fun k => by rw [spec_pzGood.j0]) ?_
    exact Ev.pos rfl (Ev.val rfl)
  | true =>
    refine Ev.pos rfl ?_
    refine Ev.step (fun k => by rw [spec_pzGood.j0]) ?_
    by_cases h : (l.length : Int) > 6
    · exact Ev.pos (decide_eq_true h) (Ev.val (by simp [show ¬ (l.length : Int) ≤ 6 by omega]))
    · refine Ev.neg (by simp [h]) ?_
      have := pzGood_l0 d l hl l.length 0 (by omega)
      rw [List.drop_zero] at this
      exact Ev.eq this (by simp [show (l.length : Int) ≤ 6 by omega])
theorem isPuzzle_f (d : Int) (l : List S65) (hl : l.length ≤ 1048576) : impl_IsPuzzle.f d l = some (puzB d l) := by
  unfold impl_IsPuzzle.f puzB
  have hany : anyO (fun x => (impl_IsClue.f d x.f0 x.f1 x.f2).map (!·)) l = some (l.any (fun x => !clueB d x)) := by
    refine anyO_pure _ _ l (fun x _ => ?_)
    rw [clue_same, clue_f]; rfl
  rw [hany, Option.bind_some, if_pos (by omega)]
  have e : l.any (fun x => !clueB d x) = !l.all (clueB d) := by
    clear hany hl
    induction l with
    | nil => rfl
    | cons a l ih => rw [List.any_cons, List.all_cons, ih, Bool.not_and]
  rw [e, Bool.not_not]
end Go.Proofs.YtbgkaabbpdhhlaaGreatDoor.PA

/-! Powers of ten, as the reference reckons them. No condition but bounds. -/
namespace Go.Proofs.YtbgkaabbpdhhlaaGreatDoor.PA
open Go.RowKit Go.Proofs.YtbgkaabbpdhhlaaGreatDoorW.PrintWords
set_option linter.unusedVariables false

def p10 : Nat → Int
  | 0 => 1
  | n + 1 => p10 n * 10
theorem p10_le : ∀ n, n ≤ 12 → 1 ≤ p10 n ∧ p10 n ≤ 1000000000000 := by decide
theorem plTens_l0 : ∀ (d i : Nat), i + d ≤ 12 → Ev (fun k => spec_plTens.l0 k (d : Int) (p10 i)) (p10 (i + d))
  | 0, i, h => by
    refine Ev.step (fun k => by rw [spec_plTens.l0]) ?_
    exact Ev.neg (by omega) (Ev.val rfl)
  | d + 1, i, h => by
    have := p10_le i (by omega)
    refine Ev.step (fun k => by rw [spec_plTens.l0]) ?_
    refine Ev.pos (by omega) ?_
    rw [wrap_in (n := ((d + 1 : Nat) : Int) - 1) (by omega) (by omega), wrap_in (by omega) (by omega), show ((d + 1 : Nat) : Int) - 1 = (d : Int) by omega]
    have := plTens_l0 d (i + 1) (by omega)
    rwa [show i + 1 + d = i + (d + 1) by omega] at this
theorem plTens_ev (n : Nat) (h : n ≤ 12) : Ev (fun k => spec_plTens.f k (n : Int)) (p10 n) := by
  have := plTens_l0 n 0 (by omega)
  rw [Nat.zero_add] at this
  exact this
end Go.Proofs.YtbgkaabbpdhhlaaGreatDoor.PA

/-! The numbers that fit clues: the reference and the program list the same, in the same order. -/
namespace Go.Proofs.YtbgkaabbpdhhlaaGreatDoor.PA
open Go.RowKit Go.Proofs.YtbgkaabbpdhhlaaGreatDoorW.PrintWords
set_option linter.unusedVariables false

def numAt (d n : Nat) : ByteArray := if d = 2 then t2 n else t3 n
def numsL (d : Nat) : List ByteArray := (List.range (10 ^ d)).map (numAt d)
set_option maxRecDepth 100000
theorem piOf_2 : ∀ n : Fin 100, spec_piOf.f 20 (n.val : Int) 2 = some (t2 n.val) := by decide +kernel
theorem piOf_3 : ∀ n : Fin 1000, spec_piOf.f 20 (n.val : Int) 3 = some (t3 n.val) := by decide +kernel
theorem texts_2 : impl_allTexts.f 300 10 2 = some ((List.range 100).map t2) := by decide +kernel
/-- all texts that are longer by a digit -/
def oneD (s : ByteArray) (j : Nat) : ByteArray := s ++ (⟨#[48, 49, 50, 51, 52, 53, 54, 55, 56, 57]⟩ : ByteArray).extract j (j + 1)
def tenD (s : ByteArray) : List ByteArray := (List.range 10).map (oneD s)
theorem more_3 : (((List.range 100).map t2).flatMap tenD) = (List.range 1000).map t3 := by decide +kernel
theorem texts_l2 (x11 x12 z : Int) (out : List ByteArray) (i : Nat) (s : ByteArray) (hs : s.size ≤ 1000) (R : List ByteArray) : ∀ (e j : Nat) (nx : List ByteArray), j + e = 10 → nx.length + e ≤ 1000000 →
    Ev (fun k => impl_allTexts.l1 k 10 (nx ++ ((List.range 10).drop j).map (oneD s)) x11 x12 out z (wrap64 ((i : Int) + 1))) R →
    Ev (fun k => impl_allTexts.l2 k 10 nx s x11 x12 out z (i : Int) 10 (j : Int)) R
  | 0, j, nx, h, hz, hn => by
    refine Ev.step (fun k => by rw [impl_allTexts.l2]) (Ev.neg (by omega) ?_)
    rw [List.drop_of_length_le (by simp; omega)] at hn
    simpa using hn
  | e + 1, j, nx, h, hz, hn => by
    have hj : j < 10 := by omega
    have hx : ((⟨#[48, 49, 50, 51, 52, 53, 54, 55, 56, 57]⟩ : ByteArray).extract j (j + 1)).size ≤ 10 := by
      rw [ByteArray.size_extract]
      have : (⟨#[48, 49, 50, 51, 52, 53, 54, 55, 56, 57]⟩ : ByteArray).size = 10 := rfl
      omega
    refine Ev.step (fun k => by rw [impl_allTexts.l2]) (Ev.pos (by omega) (Ev.pos (by omega) ?_))
    rw [wrap_nat (by omega)]
    refine Ev.pos (by omega) (Ev.pos (by omega) ?_)
    simp only [Int.toNat_natCast]
    refine Ev.pos (by omega) (Ev.pos (by omega) ?_)
    refine texts_l2 x11 x12 z out i s hs R e (j + 1) (nx ++ [oneD s j]) (by omega) (by simp; omega) ?_
    have hd : (List.range 10).drop j = j :: (List.range 10).drop (j + 1) := by
      rw [List.drop_eq_getElem_cons (by simpa using hj)]
      simp
    rw [hd, List.map_cons] at hn
    simpa using hn
theorem texts_l1 (x11 x12 : Int) (out : List ByteArray) (ho : out.length ≤ 1000) (hs : ∀ s ∈ out, s.size ≤ 1000) (R : List ByteArray) : ∀ (e i : Nat) (nx : List ByteArray), i + e = out.length → nx.length + 10 * e ≤ 100000 →
    Ev (fun k => impl_allTexts.l0 k 10 (nx ++ (out.drop i).flatMap tenD) x11 (wrap64 (x12 + 1))) R →
    Ev (fun k => impl_allTexts.l1 k 10 nx x11 x12 out (out.length : Int) (i : Int)) R
  | 0, i, nx, h, hz, hn => by
    refine Ev.step (fun k => by rw [impl_allTexts.l1]) (Ev.neg (by omega) ?_)
    rw [List.drop_of_length_le (by omega)] at hn
    simpa using hn
  | e + 1, i, nx, h, hz, hn => by
    have hi : i < out.length := by omega
    refine Ev.step (fun k => by rw [impl_allTexts.l1]) (Ev.pos (by omega) (Ev.pos (by omega) (Ev.pos (by omega) ?_)))
    rw [rdS_nat hi]
    refine texts_l2 x11 x12 _ out i out[i] (hs _ (List.getElem_mem hi)) R 10 0 nx (by omega) (by omega) ?_
    rw [wrap_nat (by omega), List.drop_zero]
    have hlen : (tenD out[i]).length = 10 := by unfold tenD; simp
    refine texts_l1 x11 x12 out ho hs R e (i + 1) (nx ++ tenD out[i]) (by omega) (by rw [List.length_append, hlen]; omega) ?_
    rw [List.drop_eq_getElem_cons hi, List.flatMap_cons, ← List.append_assoc] at hn
    exact hn
theorem t2_size (n : Nat) : (t2 n).size = 2 := rfl
theorem texts_3 : Ev (fun k => impl_allTexts.f k 10 3) ((List.range 1000).map t3) := by
  have h2 : Ev (fun k => impl_allTexts.l0 k 10 ((List.range 100).map t2) 3 2) ((List.range 1000).map t3) := by
    refine Ev.step (fun k => by rw [impl_allTexts.l0]) (Ev.pos (by omega) ?_)
    refine texts_l1 3 2 ((List.range 100).map t2) (by simp) (fun s hs => ?_) _ ((List.range 100).map t2).length 0 [] (by omega) (by simp) ?_
    · obtain ⟨n, _, rfl⟩ := List.mem_map.mp hs
      rw [t2_size]; omega
    · rw [List.drop_zero, List.nil_append, more_3, show wrap64 (2 + 1) = 3 by unfold wrap64; omega]
      refine Ev.step (fun k => by rw [impl_allTexts.l0]) (Ev.neg (by decide) (Ev.val rfl))
  have h1 : Ev (fun k => impl_allTexts.l0 k 10 ((List.range 10).map fun n => oneD ⟨#[]⟩ n) 3 1) ((List.range 1000).map t3) := by
    refine Ev.step (fun k => by rw [impl_allTexts.l0]) (Ev.pos (by omega) ?_)
    refine texts_l1 3 1 ((List.range 10).map fun n => oneD ⟨#[]⟩ n) (by simp) (fun s hs => ?_) _ ((List.range 10).map fun n => oneD ⟨#[]⟩ n).length 0 [] (by omega) (by simp) ?_
    · obtain ⟨n, _, rfl⟩ := List.mem_map.mp hs
      unfold oneD
      rw [ByteArray.size_append, ByteArray.size_extract]
      have : (⟨#[48, 49, 50, 51, 52, 53, 54, 55, 56, 57]⟩ : ByteArray).size = 10 := rfl
      have : (⟨#[]⟩ : ByteArray).size = 0 := rfl
      omega
    · rw [List.drop_zero, List.nil_append, show (((List.range 10).map fun n => oneD ⟨#[]⟩ n).flatMap tenD) = (List.range 100).map t2 by decide +kernel, show wrap64 (1 + 1) = 2 by unfold wrap64; omega]
      exact h2
  unfold impl_allTexts.f
  refine Ev.step (fun k => by rw [impl_allTexts.l0]) (Ev.pos (by omega) ?_)
  refine texts_l1 3 0 [⟨#[]⟩] (by simp) (fun s hs => ?_) _ 1 0 [] (by simp) (by simp) ?_
  · rw [List.mem_singleton.mp hs]
    show 0 ≤ 1000
    omega
  · rw [List.drop_zero, List.nil_append, show wrap64 (0 + 1) = 1 by unfold wrap64; omega]
    simpa [tenD] using h1
theorem piOf_num (d n : Nat) (hd : d = 2 ∨ d = 3) (h : n < 10 ^ d) : Ev (fun k => spec_piOf.f k (n : Int) (d : Int)) (numAt d n) := by
  rcases hd with rfl | rfl
  · exact Ev.at (n := 20) (fun k => spec_piOf.mono _ _ k) (piOf_2 ⟨n, h⟩)
  · exact Ev.at (n := 20) (fun k => spec_piOf.mono _ _ k) (piOf_3 ⟨n, h⟩)
theorem allTexts_ev (d : Nat) (hd : d = 2 ∨ d = 3) : Ev (fun k => impl_allTexts.f k 10 (d : Int)) (numsL d) := by
  rcases hd with rfl | rfl
  · exact Ev.at (n := 300) (fun k => impl_allTexts.mono _ _ k) texts_2
  · exact texts_3
theorem dig_ofNat (n : Nat) (h : n < 10) : digB (UInt8.ofNat (48 + n)) = true := by
  have : ∀ m : Fin 10, digB (UInt8.ofNat (48 + m.val)) = true := by decide
  exact this ⟨n, h⟩
theorem num_dig_ok (d n : Nat) (hd : d = 2 ∨ d = 3) (h : n < 10 ^ d) : digitsB (numAt d n) 2 3 = true ∧ (numAt d n).size = d := by
  rcases hd with rfl | rfl
  · refine ⟨?_, rfl⟩
    have h1 := dig_ofNat (n / 10) (by omega)
    have h2 := dig_ofNat (n % 10) (by omega)
    simp only [digitsB, numAt, t2, if_pos, List.all_cons, List.all_nil, h1, h2, Bool.and_true]
    rfl
  · refine ⟨?_, rfl⟩
    have h1 := dig_ofNat (n / 100) (by omega)
    have h2 := dig_ofNat (n / 10 % 10) (by omega)
    have h3 := dig_ofNat (n % 10) (by omega)
    simp only [digitsB, numAt, t3, if_neg (show ¬ (3 = 2) by decide), List.all_cons, List.all_nil, h1, h2, h3, Bool.and_true]
    rfl
/-- does a number fit a clue, does it fit all -/
def fitB (c : S65) (x : ByteArray) : Bool := valV c.f0 c.f1 x == c.f2
def fitA (l : List S65) (x : ByteArray) : Bool := l.all fun c => fitB c x
/-- the numbers that fit -/
def solL (d : Nat) (l : List S65) : List ByteArray := (numsL d).filter (fitA l)
def okC (d : Nat) (l : List S65) : Prop := ∀ c ∈ l, pairOk d c.f0 c.f1
theorem fits_num {d n : Nat} (hd : d = 2 ∨ d = 3) (h : n < 10 ^ d) {c : S65} (hc : pairOk d c.f0 c.f1) :
    Ev (fun k => spec_pzFits.f k c.f0 c.f1 c.f2 (numAt d n)) (fitB c (numAt d n)) ∧ Ev (fun k => impl_Clue_fits.f k c.f0 c.f1 c.f2 (numAt d n)) (fitB c (numAt d n)) := by
  obtain ⟨h1, h2⟩ := num_dig_ok d n hd h
  exact fits_ev c.f2 h1 (by rw [h2]; exact hc)
theorem len_num (d : Nat) (l : List S65) : (solL d l).length ≤ 10 ^ d := by
  unfold solL numsL
  exact Nat.le_trans (List.length_filter_le _ _) (by rw [List.length_map, List.length_range]; exact Nat.le_refl _)
theorem p10_d (d : Nat) (hd : d = 2 ∨ d = 3) : p10 d = ((10 ^ d : Nat) : Int) := by rcases hd with rfl | rfl <;> rfl
theorem range_filter_succ (d : Nat) (l : List S65) (n : Nat) : ((List.range (n + 1)).map (numAt d)).filter (fitA l) = ((List.range n).map (numAt d)).filter (fitA l) ++ (if fitA l (numAt d n) = true then [numAt d n] else []) := by
  rw [List.range_succ, List.map_append, List.filter_append]
  congr 1
  simp only [List.map_cons, List.map_nil, List.filter_cons, List.filter_nil]
theorem pzAll_l1 (d : Nat) (hd : d = 2 ∨ d = 3) (l : List S65) (hl : l.length ≤ 1048576) (hok : okC d l) (n : Nat) (hn : n < 10 ^ d) (R : List ByteArray)
    (hnext : Ev (fun k => spec_pzAll.l0 k (d : Int) l (((List.range (n + 1)).map (numAt d)).filter (fitA l)) ((n + 1 : Nat) : Int)) R) : ∀ (e i : Nat), i + e = l.length →
    Ev (fun k => spec_pzAll.l1 k (d : Int) l (((List.range n).map (numAt d)).filter (fitA l)) (n : Int) (numAt d n) ((l.take i).all fun c => fitB c (numAt d n)) l (l.length : Int) (i : Int)) R
  | 0, i, h => by
    have hn' : n ≤ 1000 := by rcases hd with rfl | rfl <;> omega
    have hz : (((List.range n).map (numAt d)).filter (fitA l)).length ≤ n := Nat.le_trans (List.length_filter_le _ _) (by rw [List.length_map, List.length_range]; exact Nat.le_refl _)
    refine Ev.step (fun k => by rw [spec_pzAll.l1]) (Ev.neg (by omega) ?_)
    rw [show i = l.length by omega, List.take_length]
    rw [range_filter_succ] at hnext
    cases hb : (l.all fun c => fitB c (numAt d n)) with
    | true =>
      rw [if_pos (show fitA l (numAt d n) = true from hb)] at hnext
      refine Ev.pos rfl (Ev.pos (by omega) ?_)
      rw [wrap_nat (by omega)]
      exact hnext
    | false =>
      rw [if_neg (show ¬ fitA l (numAt d n) = true by unfold fitA; rw [hb]; simp), List.append_nil] at hnext
      refine Ev.neg (by simp) ?_
      rw [wrap_nat (by omega)]
      exact hnext
  | e + 1, i, h => by
    have hi : i < l.length := by omega
    have ih := pzAll_l1 d hd l hl hok n hn R hnext e (i + 1) (by omega)
    refine Ev.step (fun k => by rw [spec_pzAll.l1]) (Ev.pos (by omega) (Ev.pos (by omega) (Ev.pos (by omega) ?_)))
    rw [wrap_nat (by omega), rdT_nat hi]
    rw [take_succ_get hi, List.all_append] at ih
    cases hb : ((l.take i).all fun c => fitB c (numAt d n)) with
    | true =>
      rw [hb] at ih
      refine Ev.pos rfl (Ev.bind (fits_num hd hn (hok _ (List.getElem_mem hi))).1 ?_)
      simpa using ih
    | false =>
      rw [hb] at ih
      refine Ev.neg (by simp) ?_
      simpa using ih
theorem pzAll_l0 (d : Nat) (hd : d = 2 ∨ d = 3) (l : List S65) (hl : l.length ≤ 1048576) (hok : okC d l) : ∀ (q n : Nat), n + q = 10 ^ d →
    Ev (fun k => spec_pzAll.l0 k (d : Int) l (((List.range n).map (numAt d)).filter (fitA l)) (n : Int)) (solL d l)
  | 0, n, h => by
    have ht := plTens_ev d (by omega)
    rw [p10_d d hd] at ht
    have hn : ¬ (n : Int) < ((10 ^ d : Nat) : Int) := by rw [show n = 10 ^ d by omega]; omega
    refine Ev.step (fun k => by rw [spec_pzAll.l0]) (Ev.bind ht (Ev.neg hn (Ev.val ?_)))
    rw [show n = 10 ^ d by omega]
    rfl
  | q + 1, n, h => by
    have ht := plTens_ev d (by omega)
    rw [p10_d d hd] at ht
    have hlt : n < 10 ^ d := by omega
    have hn : (n : Int) < ((10 ^ d : Nat) : Int) := Int.ofNat_lt.mpr hlt
    refine Ev.step (fun k => by rw [spec_pzAll.l0]) (Ev.bind ht (Ev.pos hn (Ev.bind (piOf_num d n hd hlt) ?_)))
    have := pzAll_l1 d hd l hl hok n (by omega) _ (pzAll_l0 d hd l hl hok q (n + 1) (by omega)) l.length 0 (by omega)
    exact this
theorem pzAll_ev (d : Nat) (hd : d = 2 ∨ d = 3) (l : List S65) (hl : l.length ≤ 1048576) (hok : okC d l) : Ev (fun k => spec_pzAll.f k (d : Int) l) (solL d l) := by
  unfold spec_pzAll.f
  exact pzAll_l0 d hd l hl hok (10 ^ d) 0 (by omega)
theorem Ev.map {α β : Type} {g : Nat → Option α} {a : α} (f : α → β) (h : Ev g a) : Ev (fun k => (g k).map f) (f a) := by
  obtain ⟨n, h⟩ := h
  exact ⟨n, fun k hk => by show (g k).map f = _; rw [h k hk]; rfl⟩
theorem anyNot_ev {d n : Nat} (hd : d = 2 ∨ d = 3) (h : n < 10 ^ d) : ∀ (l : List S65), okC d l →
    Ev (fun k => anyO (fun x => (impl_Clue_fits.f k x.f0 x.f1 x.f2 (numAt d n)).map (!·)) l) (!fitA l (numAt d n))
  | [], _ => Ev.val rfl
  | c :: l, hok => by
    have h1 := Ev.map (!·) (fits_num hd h (hok c (by simp))).2
    have ih := anyNot_ev hd h l (fun c hc => hok c (List.mem_cons_of_mem _ hc))
    simp only [anyO]
    refine Ev.bind h1 ?_
    unfold fitA
    rw [List.all_cons]
    cases hf : fitB c (numAt d n) with
    | true => exact Ev.neg (by simp) ih
    | false => exact Ev.pos rfl (Ev.val rfl)
theorem fitsAll_ev {d n : Nat} (hd : d = 2 ∨ d = 3) (h : n < 10 ^ d) (l : List S65) (hok : okC d l) : Ev (fun k => fitsAllO k l (numAt d n)) (fitA l (numAt d n)) := by
  unfold fitsAllO
  have := Ev.map (!·) (anyNot_ev hd h l hok)
  simpa using this
theorem filterO_ev {pf : Nat → ByteArray → Option Bool} {p : ByteArray → Bool} : ∀ (t : List ByteArray), (∀ x ∈ t, Ev (fun k => pf k x) (p x)) → Ev (fun k => filterO (pf k) t) (t.filter p)
  | [], _ => Ev.val rfl
  | x :: t, h => by
    simp only [filterO]
    refine Ev.bind (h x (by simp)) (Ev.bind (filterO_ev t (fun y hy => h y (List.mem_cons_of_mem _ hy))) (Ev.val ?_))
    rw [List.filter_cons]
theorem numsL_len (d : Nat) : (numsL d).length = 10 ^ d := by unfold numsL; rw [List.length_map, List.length_range]
theorem fitting_ev (d : Nat) (hd : d = 2 ∨ d = 3) (l : List S65) (hl : l.length ≤ 1048576) (hok : okC d l) : Ev (fun k => impl_fitting.f k (d : Int) l) (solL d l) := by
  unfold impl_fitting.f
  have hz := numsL_len d
  have hp : 10 ^ d ≤ 1000 ∧ 0 < 10 ^ d := by rcases hd with rfl | rfl <;> omega
  refine Ev.pos hl (Ev.bind (allTexts_ev d hd) (Ev.pos ⟨fun h => ?_, by omega⟩ ?_))
  · rw [h] at hz; simp at hz; omega
  · refine filterO_ev _ (fun x hx => ?_)
    unfold numsL at hx
    obtain ⟨n, hn, rfl⟩ := List.mem_map.mp hx
    exact fitsAll_ev hd (List.mem_range.mp hn) l hok
theorem okC_of {d : Nat} {l : List S65} (hd : d ≤ 3) (h : l.all (clueB (d : Int)) = true) : okC d l := by
  intro c hc
  have h1 := List.all_eq_true.mp h c hc
  have h2 := clue_f (d : Int) c
  rw [h1] at h2
  exact clue_pair hd h2
theorem puz_d {m : Int} {l : List S65} (h : puzB m l = true) : ∃ d : Nat, m = (d : Int) ∧ (d = 2 ∨ d = 3) ∧ l.length ≤ 6 ∧ okC d l := by
  unfold puzB at h
  simp only [Bool.and_eq_true, decide_eq_true_eq] at h
  obtain ⟨⟨⟨h1, h2⟩, h3⟩, h4⟩ := h
  refine ⟨m.toNat, by omega, by omega, by omega, ?_⟩
  refine okC_of (by omega) ?_
  rw [show ((m.toNat : Nat) : Int) = m by omega]
  exact h4
end Go.Proofs.YtbgkaabbpdhhlaaGreatDoor.PA

/-! The functions that list, count and choose the numbers that fit: the program's and the reference's. -/
namespace Go.Proofs.YtbgkaabbpdhhlaaGreatDoor.PA
open Go.RowKit Go.Proofs.YtbgkaabbpdhhlaaGreatDoorW.PrintWords
set_option linter.unusedVariables false

def solP (m : Int) (l : List S65) : List ByteArray := solL m.toNat l
theorem sol_both {m : Int} {l l' : List S65} (h : puzB m l = true) (hs : ∀ c ∈ l', c ∈ l) (hl : l'.length ≤ 1048576) :
    Ev (fun k => spec_pzAll.f k m l') (solP m l') ∧ Ev (fun k => impl_fitting.f k m l') (solP m l') ∧ (solP m l').length ≤ 1000 := by
  obtain ⟨d, rfl, hd, _, hok⟩ := puz_d h
  have hok' : okC d l' := fun c hc => hok c (hs c hc)
  refine ⟨pzAll_ev d hd l' hl hok', fitting_ev d hd l' hl hok', ?_⟩
  have := len_num d l'
  unfold solP
  rw [Int.toNat_natCast]
  rcases hd with rfl | rfl <;> omega
theorem implSol_ev (m : Int) (l : List S65) (hl : l.length ≤ 1048576) : ∃ r : List ByteArray × Bool, Ev (fun k => impl_Solutions.f k m l) r ∧ r.1.length ≤ 1000 ∧ ((puzB m l = true ∧ r = (solP m l, true)) ∨ (puzB m l = false ∧ r = ([], false))) := by
  have hi := isPuzzle_f m l hl
  unfold impl_Solutions.f impl_Puzzle_solutions.f
  cases hp : puzB m l with
  | false =>
    rw [hp] at hi
    exact ⟨([], false), Ev.vbind hi (Ev.neg (by simp) (Ev.val rfl)), by simp, .inr ⟨rfl, rfl⟩⟩
  | true =>
    rw [hp] at hi
    obtain ⟨h1, h2, h3⟩ := sol_both hp (fun c hc => hc) hl
    exact ⟨(solP m l, true), Ev.vbind hi (Ev.pos rfl (Ev.bind (Ev.bind h2 (Ev.val rfl)) (Ev.val rfl))), h3, .inl ⟨rfl, rfl⟩⟩
theorem implCount_ev (m : Int) (l : List S65) (hl : l.length ≤ 1048576) : ∃ r : Int × Bool, Ev (fun k => impl_CountSolutions.f k m l) r ∧ ((puzB m l = true ∧ r = (((solP m l).length : Int), true)) ∨ (puzB m l = false ∧ r = (0, false))) := by
  obtain ⟨r, hi, _, hr⟩ := implSol_ev m l hl
  unfold impl_CountSolutions.f
  rcases hr with ⟨hp, rfl⟩ | ⟨hp, rfl⟩
  · exact ⟨_, Ev.bind hi (Ev.val rfl), .inl ⟨hp, rfl⟩⟩
  · exact ⟨_, Ev.bind hi (Ev.val rfl), .inr ⟨hp, rfl⟩⟩
theorem implSolved_ev (m : Int) (l : List S65) (hl : l.length ≤ 1048576) : ∃ r : Bool × Bool, Ev (fun k => impl_IsSolved.f k m l) r ∧ ((puzB m l = true ∧ r = (((solP m l).length : Int) == 1, true)) ∨ (puzB m l = false ∧ r = (false, false))) := by
  obtain ⟨r, hi, hr⟩ := implCount_ev m l hl
  unfold impl_IsSolved.f
  rcases hr with ⟨hp, rfl⟩ | ⟨hp, rfl⟩
  · exact ⟨_, Ev.bind hi (Ev.val rfl), .inl ⟨hp, rfl⟩⟩
  · exact ⟨_, Ev.bind hi (Ev.val rfl), .inr ⟨hp, rfl⟩⟩
end Go.Proofs.YtbgkaabbpdhhlaaGreatDoor.PA

/-! A puzzle with a clue more, or without one: the reference and the program agree. No condition but bounds. -/
namespace Go.Proofs.YtbgkaabbpdhhlaaGreatDoor.PA
open Go.RowKit Go.Proofs.YtbgkaabbpdhhlaaGreatDoorW.PrintWords
set_option linter.unusedVariables false

/-- all clues but one -/
def cutC (l : List S65) (k : Int) : List S65 := l.take k.toNat ++ l.drop (k + 1).toNat
theorem cutC_len (l : List S65) (k : Int) (h0 : 0 ≤ k) (h1 : k < l.length) : (cutC l k).length + 1 = l.length := by
  unfold cutC; rw [List.length_append, List.length_take, List.length_drop]; omega
theorem without_f (l : List S65) (k : Int) (hl : l.length ≤ 1048576) (h0 : 0 ≤ k) (h1 : k < l.length) : spec_pzWithout.f l k = some (cutC l k) := by
  have hw : wrap64 (k + 1) = k + 1 := wrap_in (by omega) (by omega)
  unfold spec_pzWithout.f cutC
  rw [Option.bind_some, if_pos h0, if_pos (by omega), Option.bind_some, if_pos (by simp; omega), Option.bind_some, hw, if_pos (by omega), if_pos (by omega), Option.bind_some, if_pos (by simp; omega)]
  rfl
theorem less_f (d : Int) (l : List S65) (k : Int) (hl : l.length ≤ 1048576) (h0 : 0 ≤ k) (h1 : k < l.length) : impl_Puzzle_less.f d l k = some (d, cutC l k) := by
  have hw : wrap64 (k + 1) = k + 1 := wrap_in (by omega) (by omega)
  unfold impl_Puzzle_less.f impl_Clue_72.f cutC
  rw [hw, if_pos h0, if_pos (by omega), if_pos (by omega), if_pos (by omega), if_pos ⟨by simp, by unfold lsum; simp; omega⟩, Option.bind_some]
  simp
end Go.Proofs.YtbgkaabbpdhhlaaGreatDoor.PA

/-! The functions that weigh clues by the numbers that fit: the program's and the reference's. -/
namespace Go.Proofs.YtbgkaabbpdhhlaaGreatDoor.PA
open Go.RowKit Go.Proofs.YtbgkaabbpdhhlaaGreatDoorW.PrintWords
set_option linter.unusedVariables false

theorem cutC_mem {l : List S65} {k : Int} {c : S65} (h : c ∈ cutC l k) : c ∈ l := by
  unfold cutC at h
  rcases List.mem_append.mp h with h | h
  · exact List.mem_of_mem_take h
  · exact List.mem_of_mem_drop h
theorem harder_l0 (m : Int) (l : List S65) (hp : puzB m l = true) (hl : l.length ≤ 1048576) : ∀ (n i : Nat) (q : List S65), q.length - i ≤ n → i ≤ q.length → q.length ≤ l.length → (∀ c ∈ q, c ∈ l) →
    ∃ r : Int × List S65 × Bool, Ev (fun k => spec_HarderPuzzle.l0 k q (i : Int) m l) r ∧ Ev (fun k => impl_HarderPuzzle.l0 k (i : Int) m q) r ∧ r.2.1.length ≤ l.length := by
  intro n
  induction n with
  | zero =>
    intro i q h1 h2 h3 h4
    exact ⟨(m, q, true), Ev.step (fun k => by rw [spec_HarderPuzzle.l0]) (Ev.neg (by omega) (Ev.val rfl)), Ev.step (fun k => by rw [impl_HarderPuzzle.l0]) (Ev.neg (by omega) (Ev.val rfl)), h3⟩
  | succ n ih =>
    intro i q h1 h2 h3 h4
    by_cases hi : i < q.length
    · have c1 : (i : Int) < (q.length : Int) := by omega
      have hc := cutC_len q (i : Int) (by omega) c1
      have hsub : ∀ c ∈ cutC q (i : Int), c ∈ l := fun c hc => h4 c (cutC_mem hc)
      obtain ⟨g1, g2, g3⟩ := sol_both (l' := cutC q (i : Int)) hp hsub (by omega)
      have w1 := without_f q (i : Int) (by omega) (by omega) c1
      have w2 := less_f m q (i : Int) (by omega) (by omega) c1
      have hw : wrap64 ((i : Int) + 1) = ((i + 1 : Nat) : Int) := wrap_nat (by omega)
      have s1 : Ev (fun k => spec_pzSolved.f k m (cutC q (i : Int))) (((solP m (cutC q (i : Int))).length : Int) == 1) := by
        unfold spec_pzSolved.f
        exact Ev.bind g1 (Ev.val rfl)
      have s2 : Ev (fun k => impl_Puzzle_solutions.f k m (cutC q (i : Int))) (solP m (cutC q (i : Int))) := by
        unfold impl_Puzzle_solutions.f
        exact Ev.bind g2 (Ev.val rfl)
      by_cases hn : ((solP m (cutC q (i : Int))).length : Int) = 1
      · obtain ⟨r, r1, r2, r3⟩ := ih i (cutC q (i : Int)) (by omega) (by omega) (by omega) hsub
        refine ⟨r, Ev.step (fun k => by rw [spec_HarderPuzzle.l0]) ?_, Ev.step (fun k => by rw [impl_HarderPuzzle.l0]) ?_, r3⟩
        · exact Ev.pos c1 (Ev.vbind w1 (Ev.bind s1 (Ev.pos (by rw [hn]; rfl) r1)))
        · exact Ev.pos c1 (Ev.vbind w2 (Ev.bind s2 (Ev.pos hn r2)))
      · obtain ⟨r, r1, r2, r3⟩ := ih (i + 1) q (by omega) (by omega) h3 h4
        refine ⟨r, Ev.step (fun k => by rw [spec_HarderPuzzle.l0]) ?_, Ev.step (fun k => by rw [impl_HarderPuzzle.l0]) ?_, r3⟩
        · rw [hw]
          exact Ev.pos c1 (Ev.vbind w1 (Ev.bind s1 (Ev.neg (by simpa using hn) r1)))
        · rw [hw]
          exact Ev.pos c1 (Ev.vbind w2 (Ev.bind s2 (Ev.neg hn r2)))
    · exact ⟨(m, q, true), Ev.step (fun k => by rw [spec_HarderPuzzle.l0]) (Ev.neg (by omega) (Ev.val rfl)), Ev.step (fun k => by rw [impl_HarderPuzzle.l0]) (Ev.neg (by omega) (Ev.val rfl)), h3⟩
theorem harder_both (m : Int) (l : List S65) (hl : l.length ≤ 1048576) : ∃ r : Int × List S65 × Bool, Ev (fun k => spec_HarderPuzzle.f k m l) r ∧ Ev (fun k => impl_HarderPuzzle.f k m l) r ∧ r.2.1.length ≤ 1048576 := by
  have hg := pzGood_ev m l hl
  obtain ⟨s, hi, hs⟩ := implSolved_ev m l hl
  unfold spec_HarderPuzzle.f impl_HarderPuzzle.f
  have sj : Ev (fun k => spec_HarderPuzzle.j0 k true m l) (0, [], false) := Ev.step (fun k => by rw [spec_HarderPuzzle.j0]) (Ev.pos rfl (Ev.val rfl))
  have ij : Ev (fun k => impl_HarderPuzzle.j0 k true m l) (0, [], false) := Ev.step (fun k => by rw [impl_HarderPuzzle.j0]) (Ev.pos rfl (Ev.val rfl))
  rcases hs with ⟨hp, rfl⟩ | ⟨hp, rfl⟩
  · rw [hp] at hg
    obtain ⟨g1, g2, g3⟩ := sol_both hp (fun c hc => hc) hl
    have s1 : Ev (fun k => spec_pzSolved.f k m l) (((solP m l).length : Int) == 1) := by
      unfold spec_pzSolved.f
      exact Ev.bind g1 (Ev.val rfl)
    cases hn : (((solP m l).length : Int) == 1) with
    | false =>
      rw [hn] at s1 hi
      exact ⟨(0, [], false), Ev.bind hg (Ev.pos rfl (Ev.bind s1 sj)), Ev.bind hi (Ev.pos rfl ij), by simp⟩
    | true =>
      rw [hn] at s1 hi
      obtain ⟨r, r1, r2, r3⟩ := harder_l0 m l hp hl l.length 0 l (by omega) (by omega) (by omega) (fun c hc => hc)
      refine ⟨r, Ev.bind hg (Ev.pos rfl (Ev.bind s1 ?_)), Ev.bind hi (Ev.pos rfl ?_), by omega⟩
      · refine Ev.step (fun k => by rw [spec_HarderPuzzle.j0]) ?_
        refine Ev.neg (by simp) ?_
        refine Ev.vbind rfl ?_
        refine Ev.pos (by show 0 + l.length < _; omega) ?_
        exact r1
      · refine Ev.step (fun k => by rw [impl_HarderPuzzle.j0]) ?_
        refine Ev.neg (by simp) (Ev.vbind (a := l) (by unfold impl_Clue_54.f; rw [if_pos hl]) ?_)
        exact r2
  · rw [hp] at hg
    exact ⟨(0, [], false), Ev.bind hg (Ev.neg (by simp) sj), Ev.bind hi (Ev.neg (by simp) ij), by simp⟩
end Go.Proofs.YtbgkaabbpdhhlaaGreatDoor.PA

/-! Equality of puzzles, the laws' own: a puzzle equals itself. No condition but bounds. -/
namespace Go.Proofs.YtbgkaabbpdhhlaaGreatDoor.PA
open Go.RowKit Go.Proofs.YtbgkaabbpdhhlaaGreatDoorW.PrintWords
set_option linter.unusedVariables false

theorem eqClueS_l0 (a : List S65) (hl : a.length ≤ 4611686018427387903) : ∀ (d i : Nat), i + d = a.length → Ev (fun k => laws_eqClueS.l0 k a a (i : Int)) true
  | 0, i, h => by
    refine Ev.step (fun k => by rw [laws_eqClueS.l0]) ?_
    exact Ev.neg (by omega) (Ev.val rfl)
  | d + 1, i, h => by
    refine Ev.step (fun k => by rw [laws_eqClueS.l0]) ?_
    refine Ev.pos (by omega) (Ev.pos (by omega) (Ev.pos (by omega) ?_))
    rw [wrap_nat (by omega)]
    refine Ev.vbind (a := true) (by unfold laws_eqClue.f; rw [if_pos rfl, if_pos rfl, if_pos rfl]) (Ev.pos rfl ?_)
    exact eqClueS_l0 a hl d (i + 1) (by omega)
theorem eqPuzzle_ev {d : Int} {a : List S65} (hl : a.length ≤ 1048576) : Ev (fun k => laws_eqPuzzle.f k d a d a) true := by
  unfold laws_eqPuzzle.f laws_eqClueS.f
  exact Ev.pos rfl (Ev.bind (Ev.pos rfl (eqClueS_l0 a (by omega) a.length 0 (by omega))) (Ev.pos rfl (Ev.val rfl)))
end Go.Proofs.YtbgkaabbpdhhlaaGreatDoor.PA

/-! The laws' own helpers over puzzles: copying keeps them, sizes are counted, equality is equality. No condition but bounds. -/
namespace Go.Proofs.YtbgkaabbpdhhlaaGreatDoor.PA
open Go.RowKit Go.Proofs.YtbgkaabbpdhhlaaGreatDoorW.PrintWords
set_option linter.unusedVariables false

def conv (x : S72) : S65 := ⟨x.f0, x.f1, x.f2⟩
theorem rdT_natL {l : List S72} {i : Nat} (h : i < l.length) : rd_T72 l (i : Int) = l[i] := by simp [rd_T72, h]
theorem toClueS_l0 (l : List S72) (hl : l.length ≤ 4611686018427387903) : ∀ (d i : Nat) (x : List S65), i + d = l.length → x.length = l.length → x.take i = (l.map conv).take i → Ev (fun k => laws_toClueS.l0 k l x (i : Int)) (l.map conv)
  | 0, i, x, h, hx, ht => by
    refine Ev.step (fun k => by rw [laws_toClueS.l0]) ?_
    refine Ev.neg (by omega) (Ev.val ?_)
    rw [List.take_of_length_le (by omega), List.take_of_length_le (by simp; omega)] at ht
    rw [ht]
  | d + 1, i, x, h, hx, ht => by
    refine Ev.step (fun k => by rw [laws_toClueS.l0]) ?_
    refine Ev.pos (by omega) (Ev.pos (by omega) (Ev.vbind rfl (Ev.pos (by omega) ?_)))
    rw [rdT_natL (show i < l.length by omega), wrap_nat (by omega), Int.toNat_natCast]
    refine toClueS_l0 l hl d (i + 1) _ (by omega) (by simpa using hx) ?_
    rw [take_succ_get (by simp; omega), take_succ_get (show i < (l.map conv).length by simp; omega), List.take_set_of_le (Nat.le_refl _), ht]
    simp [conv]
theorem toClueS_ev {l : List S72} (hl : l.length ≤ 1048576) : Ev (fun k => laws_toClueS.f k l) (l.map conv) := by
  unfold laws_toClueS.f
  refine Ev.pos (by omega) (Ev.pos (by omega) ?_)
  exact toClueS_l0 l (by omega) l.length 0 _ (by omega) (by simp) (by simp)
theorem toPuzzle_ev {d : Int} {l : List S72} (hl : l.length ≤ 1048576) : Ev (fun k => laws_toPuzzle.f k d l) (d, l.map conv) := by
  unfold laws_toPuzzle.f
  exact Ev.bind (toClueS_ev hl) (Ev.val rfl)
theorem szPuzzle_f {d : Int} {l : List S72} (hl : l.length ≤ maxLen) : ∃ v, laws_szPuzzle.f d l 1048576 = some v ∧ (v < 0 ∨ l.length ≤ 1048576) := by
  unfold maxLen at hl
  unfold laws_szPuzzle.f laws_szClueS.f
  have hw : wrap64 (1048576 - (l.length : Int)) = 1048576 - (l.length : Int) := wrap_in (by omega) (by omega)
  rw [hw]
  by_cases e : 1048576 - (l.length : Int) < 0
  · rw [if_pos e, Option.bind_some, if_pos (by omega)]; exact ⟨-1, rfl, .inl (by omega)⟩
  · rw [if_neg e, Option.bind_some, if_neg e]; exact ⟨_, rfl, .inr (by omega)⟩
end Go.Proofs.YtbgkaabbpdhhlaaGreatDoor.PA

/-! The laws' marks on rows of clues: marking a row writes numbers that the holder then finds. No condition but bounds. -/
namespace Go.Proofs.YtbgkaabbpdhhlaaGreatDoor.PA
open Go.RowKit Go.Proofs.YtbgkaabbpdhhlaaGreatDoorW.PrintWords
set_option linter.unusedVariables false

def mkC (n : Nat) : S65 := ⟨(n : Int), ((n + 1 : Nat) : Int), ((n + 2 : Nat) : Int)⟩
def marksC (n m : Nat) : List S65 := (List.range m).map (fun j => mkC (n + 3 * j))
theorem marksC_len (n m : Nat) : (marksC n m).length = m := by simp [marksC]
theorem rdT_set {l : List S65} {i : Nat} (h : i < l.length) (v : S65) : rd_T65 (l.set i v) (i : Int) = v := by
  rw [rdT_nat (by simpa using h), List.getElem_set_self]
theorem markC_l0 (n m : Nat) (hn : n + 3 * m ≤ 1099511627776) : ∀ (d i : Nat) (x : List S65), i + d = m → x.length = m → x.take i = (marksC n m).take i → Ev (fun k => laws_markClueS.l0 k x ((n + 3 * i : Nat) : Int) (i : Int)) (((n + 3 * m : Nat) : Int), marksC n m)
  | 0, i, x, h, hx, ht => by
    refine Ev.step (fun k => by rw [laws_markClueS.l0]) ?_
    refine Ev.neg (by omega) (Ev.val ?_)
    rw [List.take_of_length_le (by omega), List.take_of_length_le (by rw [marksC_len]; omega)] at ht
    rw [ht, show n + 3 * i = n + 3 * m by omega]
  | d + 1, i, x, h, hx, ht => by
    refine Ev.step (fun k => by rw [laws_markClueS.l0]) ?_
    refine Ev.pos (by omega) (Ev.pos (by omega) ?_)
    rw [wrap_nat (show n + 3 * i < 4611686018427387904 by omega), wrap_nat (show n + 3 * i + 1 < 4611686018427387904 by omega), wrap_nat (show n + 3 * i + 1 + 1 < 4611686018427387904 by omega), wrap_nat (show i < 4611686018427387904 by omega), Int.toNat_natCast]
    have hi : i < x.length := by omega
    refine Ev.vbind rfl (Ev.vbind rfl ?_)
    have hs : ∀ v : S65, rd_T65 (x.set i v) (i : Int) = v := fun v => rdT_set hi v
    simp only [List.set_set, hs]
    refine markC_l0 n m hn d (i + 1) _ (by omega) (by simpa using hx) ?_
    rw [take_succ_get (by simp; omega), take_succ_get (show i < (marksC n m).length by rw [marksC_len]; omega), List.take_set_of_le (Nat.le_refl _), ht]
    simp [marksC, mkC]
    omega
theorem markClueS_ev (l : List S65) (n : Nat) (hn : n + 3 * l.length ≤ 1099511627776) : Ev (fun k => laws_markClueS.f k l (n : Int)) (((n + 3 * l.length : Nat) : Int), marksC n l.length) :=
  markC_l0 n l.length hn l.length 0 l (by omega) rfl (by simp)
theorem markPuzzle_ev (d : Int) (l : List S65) (n : Nat) (hn : n + 3 * l.length ≤ 1099511627776) : Ev (fun k => laws_markPuzzle.f k d l (n : Int)) (((n + 3 * l.length : Nat) : Int), marksC n l.length) := by
  unfold laws_markPuzzle.f
  exact Ev.bind (markClueS_ev l n hn) (Ev.val rfl)
theorem heldC_l0 (n m : Nat) (hn : n + 3 * m ≤ 1099511627776) : ∀ (d i : Nat), i + d = m → Ev (fun k => laws_heldClueS.l0 k (marksC n m) ((n + 3 * i : Nat) : Int) (i : Int)) ((n + 3 * m : Nat) : Int)
  | 0, i, h => by
    refine Ev.step (fun k => by rw [laws_heldClueS.l0]) ?_
    refine Ev.neg (by rw [marksC_len]; omega) (Ev.val ?_)
    rw [show n + 3 * i = n + 3 * m by omega]
  | d + 1, i, h => by
    have hi : i < (marksC n m).length := by rw [marksC_len]; omega
    have hg : rd_T65 (marksC n m) (i : Int) = mkC (n + 3 * i) := by rw [rdT_nat hi]; simp [marksC]
    have ih := heldC_l0 n m hn d (i + 1) (by omega)
    refine Ev.step (fun k => by rw [laws_heldClueS.l0]) ?_
    rw [hg, wrap_nat (show n + 3 * i < 4611686018427387904 by omega), wrap_nat (show n + 3 * i + 1 < 4611686018427387904 by omega), wrap_nat (show n + 3 * i + 1 + 1 < 4611686018427387904 by omega), wrap_nat (show i < 4611686018427387904 by omega)]
    exact Ev.pos (by rw [marksC_len]; omega) (Ev.pos (by omega) (Ev.pos rfl (Ev.pos rfl (Ev.pos rfl ih))))
theorem heldClueS_ev (n m : Nat) (hn : n + 3 * m ≤ 1099511627776) : Ev (fun k => laws_heldClueS.f k (marksC n m) (n : Int)) ((n + 3 * m : Nat) : Int) :=
  heldC_l0 n m hn m 0 (by omega)
theorem heldPuzzle_ev (d : Int) (n m : Nat) (hn : n + 3 * m ≤ 1099511627776) : Ev (fun k => laws_heldPuzzle.f k d (marksC n m) (n : Int)) ((n + 3 * m : Nat) : Int) := by
  unfold laws_heldPuzzle.f
  exact Ev.bind (heldClueS_ev n m hn) (Ev.neg (by omega) (Ev.val rfl))
end Go.Proofs.YtbgkaabbpdhhlaaGreatDoor.PA
