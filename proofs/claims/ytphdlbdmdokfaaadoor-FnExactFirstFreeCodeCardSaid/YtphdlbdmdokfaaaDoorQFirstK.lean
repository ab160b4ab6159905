/- The first code of a length that can be put in: the reference and the program find the same one. No condition but bounds. -/
import Derived.Test.YtphdlbdmdokfaaaDoorPAx0
import Derived.Test.YtphdlbdmdokfaaaDoorPAx7
import Derived.Test.YtphdlbdmdokfaaaDoorQDig
import Derived.Test.YtphdlbdmdokfaaaDoorQFit
import Derived.Test.YtphdlbdmdokfaaaDoorQArea
namespace Go.Proofs.YtphdlbdmdokfaaaDoor.PA
open Go.RowKit Go.Proofs.YtphdlbdmdokfaaaDoorW.PrintWords
set_option linter.unusedVariables false

/-- so many zeros behind a text -/
def zerosT (s : ByteArray) : Nat → ByteArray
  | 0 => s
  | n + 1 => zerosT (moreD s 0) n
theorem zerosT_data : ∀ (n : Nat) (s : ByteArray), (zerosT s n).data.toList = s.data.toList ++ List.replicate n 48
  | 0, s => by simp [zerosT]
  | n + 1, s => by
    rw [zerosT, zerosT_data n, moreD_data s 0 (by omega), List.append_assoc, List.replicate_succ]; rfl
theorem repeat_zero (s : ByteArray) (n : Nat) : s ++ (⟨(Lib.repeatL [48] n).toArray⟩ : ByteArray) = zerosT s n := by
  apply ba_ext
  rw [data_append, zerosT_data]
  congr 1
  show Lib.repeatL [48] n = _
  induction n with
  | zero => rfl
  | succ n ih => simp [Lib.repeatL, List.replicate_succ] at ih ⊢; try exact ih
section
variable (l : List ByteArray) (hl : l.length ≤ 1048576) (hp : ∀ c ∈ l, c.size ≠ 0)
include hl hp
omit hp in
theorem first_end (s : ByteArray) : ∀ (d i : Nat), i + d = l.length → Ev (fun k => spec_plFirst.l0 k s l (l.length : Int) (i : Int)) (if ((l.drop i).any fun c => begB s c) = true then (⟨#[]⟩, false) else (s, true))
  | 0, i, h => by
    refine Ev.step (fun k => by rw [spec_plFirst.l0]) ?_
    refine Ev.neg (by omega) (Ev.val ?_)
    rw [List.drop_of_length_le (by omega)]; simp
  | d + 1, i, h => by
    have hi : i < l.length := by omega
    have ih := first_end s d (i + 1) (by omega)
    refine Ev.step (fun k => by rw [spec_plFirst.l0]) ?_
    refine Ev.pos (by omega) (Ev.pos (by omega) (Ev.pos (by omega) ?_))
    rw [rdS_nat hi, wrap_nat (by omega), List.drop_eq_getElem_cons hi, List.any_cons]
    refine Ev.vbind (plBegins_f _ _) ?_
    cases begB s l[i] with
    | true => exact Ev.pos rfl (Ev.val (by simp))
    | false => exact Ev.neg (by simp) (by simpa using ih)
/-- behind what fits, zeros -/
theorem first_zeros : ∀ (n : Nat) (s : ByteArray), s.size + n ≤ 1048576 → fitB l s = true → Ev (fun k => spec_plFirst.f k l s (n : Int)) (zerosT s n, true)
  | n, s, hn, hf => by
    have hfit := fitB_iff.mp hf
    obtain ⟨v, hv, hva⟩ := area_any l s hl hp
    have hno : (l.any fun c => begB c s) = false := List.any_eq_false.mpr (fun c hc => by rw [(hfit c hc).1]; simp)
    rw [hno, bne_eq_false_iff_eq] at hva
    refine Ev.step (fun k => by rw [spec_plFirst.f]) ?_
    refine Ev.bind hv (Ev.pos hva ?_)
    cases n with
    | zero =>
      refine Ev.pos (by omega) (Ev.eq (first_end l hl s l.length 0 (by omega)) ?_)
      have hno2 : (l.any fun c => begB s c) = false := List.any_eq_false.mpr (fun c hc => by rw [(hfit c hc).2]; simp)
      rw [List.drop_zero, hno2]; rfl
    | succ n =>
      have hz := moreD_size s 0 (by omega)
      have hcat : s.size + (digS.extract 0 (0 + 1)).size ≤ 9223372036854775807 := by
        have : (moreD s 0).size = s.size + (digS.extract 0 (0 + 1)).size := size_append _ _
        omega
      have hf2 : fitB l (moreD s 0) = true := fitB_iff.mpr (fun c hc => by
        obtain ⟨h1, h2⟩ := hfit c hc
        constructor
        · cases hh : begB c (moreD s 0) with
          | false => rfl
          | true =>
            rcases beg_snoc (by omega) hh with h | h
            · rw [h1] at h; exact absurd h (by simp)
            · rw [h, beg_more (by omega)] at h2; exact absurd h2 (by simp)
        · cases hh : begB (moreD s 0) c with
          | false => rfl
          | true => rw [beg_trans (beg_more (by omega)) hh] at h2; exact absurd h2 (by simp))
      have ih := first_zeros n (moreD s 0) (by omega) hf2
      refine Ev.neg (by omega) ?_
      refine Ev.step (fun k => by rw [spec_plFirst.l1]) ?_
      refine Ev.pos (by omega) (Ev.bind (l1Num_dig 0 (by omega)) (Ev.pos hcat ?_))
      rw [show wrap64 (((n + 1 : Nat) : Int) - 1) = (n : Int) by rw [wrap_in (by omega) (by omega)]; omega]
      exact Ev.bind ih (Ev.pos rfl (Ev.val rfl))
omit hl hp in
theorem first_loop (s : ByteArray) (n : Nat) (long : Int) (hs : s.size ≤ 1048576) (hn : n ≤ 1048576)
    (H : ∀ d, d < 10 → ∃ r, Ev (fun k => spec_plFirst.f k l (moreD s d) (n : Int)) r ∧ Ev (fun k => impl_firstFree.f k l (moreD s d) long) r) :
    ∀ m d : Nat, d + m = 10 → ∃ r, Ev (fun k => spec_plFirst.l1 k l s ((n + 1 : Nat) : Int) (d : Int)) r ∧ Ev (fun k => firstO (fun d => impl_firstFree.f k l (moreD s d) long) m d) r
  | 0, d, h => by
    refine ⟨(⟨#[]⟩, false), ?_, Ev.val rfl⟩
    refine Ev.step (fun k => by rw [spec_plFirst.l1]) ?_
    exact Ev.neg (by omega) (Ev.val rfl)
  | m + 1, d, h => by
    obtain ⟨r, h1, h2⟩ := H d (by omega)
    obtain ⟨q, h3, h4⟩ := first_loop s n long hs hn H m (d + 1) (by omega)
    have hz := moreD_size s d (by omega)
    have hcat : s.size + (digS.extract d (d + 1)).size ≤ 9223372036854775807 := by
      have : (moreD s d).size = s.size + (digS.extract d (d + 1)).size := size_append _ _
      omega
    have sp : ∀ q, Ev (fun k => if r.2 = true then some (r.1, true) else spec_plFirst.l1 k l s ((n + 1 : Nat) : Int) (((d + 1 : Nat)) : Int)) q → Ev (fun k => spec_plFirst.l1 k l s ((n + 1 : Nat) : Int) (d : Int)) q := by
      intro q hq
      refine Ev.step (fun k => by rw [spec_plFirst.l1]) ?_
      refine Ev.pos (by omega) (Ev.bind (l1Num_dig d (by omega)) (Ev.pos hcat ?_))
      rw [show wrap64 (((n + 1 : Nat) : Int) - 1) = (n : Int) by rw [wrap_in (by omega) (by omega)]; omega, wrap_nat (by omega)]
      exact Ev.bind h1 hq
    have im : ∀ q, Ev (fun k => if r.2 = true then some (r.1, true) else firstO (fun d => impl_firstFree.f k l (moreD s d) long) m (d + 1)) q → Ev (fun k => firstO (fun d => impl_firstFree.f k l (moreD s d) long) (m + 1) d) q := by
      intro q hq
      exact Ev.bind h2 hq
    by_cases hr : r.2 = true
    · exact ⟨(r.1, true), sp _ (Ev.pos hr (Ev.val rfl)), im _ (Ev.pos hr (Ev.val rfl))⟩
    · exact ⟨q, sp _ (Ev.neg hr h3), im _ (Ev.neg hr h4)⟩
theorem first_same (long : Nat) (hlong : long ≤ 1000000) (h0 : 1 ≤ long) : ∀ (n : Nat) (s : ByteArray), s.size + n = long → (∀ c ∈ l, begB c s = true → c = s) →
    ∃ r, Ev (fun k => spec_plFirst.f k l s (n : Int)) r ∧ Ev (fun k => impl_firstFree.f k l s (long : Int)) r := by
  intro n
  induction n with
  | zero =>
    intro s hn hinv
    have hfit := fits_f l s hl
    have hcond : l.length ≤ 1048576 ∧ s.size ≤ 1048576 ∧ 0 ≤ (long : Int) ∧ (long : Int) ≤ 1048576 := ⟨hl, by omega, by omega, by omega⟩
    cases hf : fitB l s with
    | true =>
      rw [hf] at hfit
      have hrep : strings_Repeat.f ⟨#[48]⟩ ((long : Int) - (s.size : Int)) = some ⟨(Lib.repeatL [48] 0).toArray⟩ := by
        unfold strings_Repeat.f
        rw [if_pos ⟨by omega, by omega, by decide⟩, show ((long : Int) - (s.size : Int)).toNat = 0 by omega]
      refine ⟨_, first_zeros l hl hp 0 s (by omega) hf, ?_⟩
      refine Ev.step (fun k => by rw [impl_firstFree.f]) ?_
      refine Ev.pos hcond (Ev.vbind hfit (Ev.pos ⟨rfl, by omega⟩ (Ev.vbind hrep (Ev.pos (by decide) (Ev.val ?_)))))
      rw [repeat_zero]
    | false =>
      rw [hf] at hfit
      refine ⟨(⟨#[]⟩, false), ?_, ?_⟩
      · obtain ⟨v, hv, hva⟩ := area_any l s hl hp
        refine Ev.step (fun k => by rw [spec_plFirst.f]) ?_
        refine Ev.bind hv ?_
        cases ha : (l.any fun c => begB c s) with
        | true =>
          rw [ha, bne_iff_ne] at hva
          exact Ev.neg hva (Ev.val rfl)
        | false =>
          rw [ha, bne_eq_false_iff_eq] at hva
          refine Ev.pos hva (Ev.pos (by omega) (Ev.eq (first_end l hl s l.length 0 (by omega)) ?_))
          have : (l.any fun c => begB s c) = true := by
            cases hb : (l.any fun c => begB s c) with
            | true => rfl
            | false =>
              have : fitB l s = true := fitB_iff.mpr (fun c hc => ⟨by simpa using List.any_eq_false.mp ha c hc, by simpa using List.any_eq_false.mp hb c hc⟩)
              rw [this] at hf; exact absurd hf (by simp)
          rw [List.drop_zero, this]; rfl
      · refine Ev.step (fun k => by rw [impl_firstFree.f]) ?_
        exact Ev.pos hcond (Ev.vbind hfit (Ev.neg (by simp) (Ev.pos (by omega) (Ev.val rfl))))
  | succ n ih =>
    intro s hn hinv
    have hfit := fits_f l s hl
    have hcond : l.length ≤ 1048576 ∧ s.size ≤ 1048576 ∧ 0 ≤ (long : Int) ∧ (long : Int) ≤ 1048576 := ⟨hl, by omega, by omega, by omega⟩
    by_cases hf : fitB l s = true ∧ s.size ≠ 0
    · obtain ⟨hf, hs0⟩ := hf
      rw [hf] at hfit
      have hrep : strings_Repeat.f ⟨#[48]⟩ ((long : Int) - (s.size : Int)) = some ⟨(Lib.repeatL [48] (n + 1)).toArray⟩ := by
        unfold strings_Repeat.f
        rw [if_pos ⟨by omega, by omega, by decide⟩, show ((long : Int) - (s.size : Int)).toNat = n + 1 by omega]
      have hzs : (⟨(Lib.repeatL [48] (n + 1)).toArray⟩ : ByteArray).size ≤ 1099511627776 := by
        have e := repeat_zero s (n + 1)
        have : (s ++ (⟨(Lib.repeatL [48] (n + 1)).toArray⟩ : ByteArray)).size = s.size + (n + 1) := by
          rw [e, size_data, zerosT_data, List.length_append, List.length_replicate]; rfl
        rw [size_append] at this
        omega
      refine ⟨_, first_zeros l hl hp (n + 1) s (by omega) hf, ?_⟩
      refine Ev.step (fun k => by rw [impl_firstFree.f]) ?_
      refine Ev.pos hcond (Ev.vbind hfit (Ev.pos ⟨rfl, hs0⟩ (Ev.vbind hrep (Ev.pos hzs (Ev.val ?_)))))
      rw [repeat_zero]
    · have hcon := containsS_ev l s hl
      have im : ∀ q, Ev (fun k => if hasB s l = true then some ((⟨#[]⟩ : ByteArray), false) else firstO (fun d => impl_firstFree.f k l (moreD s d) (long : Int)) 10 0) q → Ev (fun k => impl_firstFree.f k l s (long : Int)) q := by
        intro q hq
        refine Ev.step (fun k => by rw [impl_firstFree.f]) ?_
        exact Ev.pos hcond (Ev.vbind hfit (Ev.neg hf (Ev.neg (by omega) (Ev.bind hcon hq))))
      obtain ⟨v, hv, hva⟩ := area_any l s hl hp
      cases hm : hasB s l with
      | true =>
        rw [hm] at im
        refine ⟨(⟨#[]⟩, false), ?_, im _ (Ev.pos rfl (Ev.val rfl))⟩
        have ha : (l.any fun c => begB c s) = true := List.any_eq_true.mpr ⟨s, hasB_iff.mp hm, begB_self s⟩
        rw [ha, bne_iff_ne] at hva
        refine Ev.step (fun k => by rw [spec_plFirst.f]) ?_
        exact Ev.bind hv (Ev.neg hva (Ev.val rfl))
      | false =>
        rw [hm] at im
        have hno : ∀ c ∈ l, begB c s = false := fun c hc => by
          cases hh : begB c s with
          | false => rfl
          | true => have := hinv c hc hh; subst this; exact absurd hc (has_not.mp hm)
        have ha : (l.any fun c => begB c s) = false := List.any_eq_false.mpr (fun c hc => by rw [hno c hc]; simp)
        rw [ha, bne_eq_false_iff_eq] at hva
        obtain ⟨r, h1, h2⟩ := first_loop l s n (long : Int) (by omega) (by omega) (fun d hd => ih (moreD s d) (by rw [moreD_size s d hd]; omega) (fun c hc hh => by
          rcases beg_snoc hd hh with h | h
          · rw [hno c hc] at h; exact absurd h (by simp)
          · exact h)) 10 0 (by omega)
        refine ⟨r, ?_, im _ (Ev.neg (by simp) h2)⟩
        refine Ev.step (fun k => by rw [spec_plFirst.f]) ?_
        exact Ev.bind hv (Ev.pos hva (Ev.neg (by omega) h1))
end
end Go.Proofs.YtphdlbdmdokfaaaDoor.PA
