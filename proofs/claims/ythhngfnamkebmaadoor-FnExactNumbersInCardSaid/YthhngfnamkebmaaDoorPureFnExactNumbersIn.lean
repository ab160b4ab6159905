/- It is proved that the law FnExactNumbersIn, as a plain function, returns true: the program and the reference tell the same number of numbers that a code begins. No condition. -/
import Derived.Test.YthhngfnamkebmaaDoorPAx11
import Derived.Test.YthhngfnamkebmaaDoorQHas
namespace Go.Proofs.YthhngfnamkebmaaDoor.Pure
open Go.RowKit Go.Proofs.YthhngfnamkebmaaDoor.PA Go.Proofs.YthhngfnamkebmaaDoorW.PrintWords Go.Proofs.YthhngfnamkebmaaDoorW.PrintLast
/-- THE ONE PURE STATEMENT of the law. -/
def laws_FnExactNumbersIn.Said : Prop := ∀ (a0 : List ByteArray) (a1 : ByteArray) (a2 : Int), (a0.length ≤ maxLen ∧ ∀ y ∈ a0, y.size ≤ maxLen) → (a1.size ≤ maxLen) → ((Lit.int .i64 a2).wf = true) → ∃ k, laws_FnExactNumbersIn.f k a0 a1 a2 = some true
theorem key (l : List ByteArray) (c : ByteArray) (n : Int) (h1 : l.length ≤ 1048576) (h2 : ∀ y ∈ l, y.size ≤ 1048576) :
    ∃ r : Int × Bool, Ev (fun k => spec_NumbersIn.f k l c n) r ∧ Ev (fun k => impl_NumbersIn.f k l c n) r := by
  have hg := plGood_ev l h1 h2
  have hi := isCodePlan_ev l h1 h2
  have hh : Ev (fun k => spec_plHas.f k l c) (goodB l && hasB c l) := by
    unfold spec_plHas.f
    refine Ev.bind hg ?_
    cases goodB l with
    | true => exact Ev.pos rfl (Ev.bind (hasS_ev l c h1) (Ev.val (by simp)))
    | false => exact Ev.neg (by simp) (Ev.val rfl)
  unfold spec_NumbersIn.f impl_NumbersIn.f
  cases g : goodB l with
  | false =>
    rw [g] at hg hi hh
    refine ⟨(0, false), Ev.bind hh (Ev.neg (by simp) ?_), Ev.bind hi (Ev.neg (by simp) (Ev.val rfl))⟩
    refine Ev.step (fun k => by rw [spec_NumbersIn.j0]) ?_
    exact Ev.pos rfl (Ev.val rfl)
  | true =>
    rw [g] at hg hi hh
    have hc1 := containsS_ev l c h1
    cases hc : hasB c l with
    | true =>
      rw [hc] at hh hc1
      have hs := code_size (good_code g (hasB_iff.mp hc))
      cases hn : decide (1 ≤ n) && decide (n ≤ 6) with
      | false =>
        refine ⟨(0, false), Ev.bind hh (Ev.pos (by simp) (Ev.vbind (plLong_f n) ?_)), Ev.bind hi (Ev.pos rfl (Ev.bind hc1 (Ev.pos rfl (Ev.vbind (codeLong_f n) ?_))))⟩
        · rw [hn]
          refine Ev.step (fun k => by rw [spec_NumbersIn.j0]) ?_
          exact Ev.pos rfl (Ev.val rfl)
        · rw [hn]; exact Ev.neg (by simp) (Ev.val rfl)
      | true =>
        have hn' : 1 ≤ n ∧ n ≤ 6 := by simpa using hn
        obtain ⟨m, rfl⟩ := Int.eq_ofNat_of_zero_le (show 0 ≤ n by omega)
        refine ⟨(roomV c m, true), Ev.bind hh (Ev.pos (by simp) (Ev.vbind (plLong_f _) ?_)), Ev.bind hi (Ev.pos rfl (Ev.bind hc1 (Ev.pos rfl (Ev.vbind (codeLong_f _) ?_))))⟩
        · rw [hn]
          refine Ev.step (fun k => by rw [spec_NumbersIn.j0]) ?_
          refine Ev.neg (by simp) ?_
          unfold roomV
          by_cases h : m < c.size
          · rw [if_pos h]; exact Ev.pos (by omega) (Ev.val rfl)
          · rw [if_neg h]
            refine Ev.neg (by omega) ?_
            rw [wrap_in (by omega) (by omega), show (m : Int) - (c.size : Int) = ((m - c.size : Nat) : Int) by omega]
            exact Ev.bind (plTens_ev _ (by omega)) (Ev.val rfl)
        · rw [hn]; exact Ev.pos rfl (Ev.bind (room_ev c m (by omega)) (Ev.val rfl))
    | false =>
      rw [hc] at hh hc1
      refine ⟨(0, false), Ev.bind hh (Ev.neg (by simp) ?_), Ev.bind hi (Ev.pos rfl (Ev.bind hc1 (Ev.neg (by simp) (Ev.val rfl))))⟩
      refine Ev.step (fun k => by rw [spec_NumbersIn.j0]) ?_
      exact Ev.pos rfl (Ev.val rfl)
theorem FnExactNumbersIn : laws_FnExactNumbersIn.Said := by
  intro l c n ⟨hl, hs⟩ _ _
  refine Ev.rounds ?_
  obtain ⟨v, hv, hc⟩ := szStringS_ev hl hs
  unfold laws_FnExactNumbersIn.f
  refine Ev.ite (fun _ => Ev.val rfl) (fun _ => Ev.bind hv ?_)
  rcases hc with hc | ⟨h1, h2⟩
  · exact Ev.pos hc (Ev.val rfl)
  · refine Ev.ite (fun _ => Ev.val rfl) (fun _ => ?_)
    have ht := toStringS_ev (l := l) (by omega)
    obtain ⟨r, hr, hq⟩ := key l c n h1 h2
    refine Ev.bind ht (Ev.bind hr (Ev.bind ht (Ev.bind hq (Ev.pos rfl ?_))))
    refine Ev.step (fun k => by rw [laws_FnExactNumbersIn.j0]) ?_
    exact Ev.neg (by simp) (Ev.bind ht (Ev.bind (eqStringS_ev (by omega)) (Ev.pos (by simp) (Ev.val rfl))))
end Go.Proofs.YthhngfnamkebmaaDoor.Pure
