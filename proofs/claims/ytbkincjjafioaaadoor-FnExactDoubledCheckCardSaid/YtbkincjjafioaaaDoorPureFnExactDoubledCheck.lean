/- It is proved that the law FnExactDoubledCheck, as a plain function, returns true: the program's doubled check is the reference's. No condition. -/
import Derived.Test.YtbkincjjafioaaaDoorPAx3
import Derived.Test.YtbkincjjafioaaaDoorQDoubled
namespace Go.Proofs.YtbkincjjafioaaaDoor.Pure
open Go.RowKit Go.Proofs.YtbkincjjafioaaaDoor.PA Go.Proofs.YtbkincjjafioaaaDoorW.PrintWords Go.Proofs.YtbkincjjafioaaaDoorW.PrintLast
/-- THE ONE PURE STATEMENT of the law. -/
def laws_FnExactDoubledCheck.Said : Prop := ∀ (a0 : ByteArray), (a0.size ≤ maxLen) → ∃ k, laws_FnExactDoubledCheck.f k a0 = some true
theorem sign_same : ∀ c : Fin 10, (⟨#[48, 49, 50, 51, 52, 53, 54, 55, 56, 57]⟩ : ByteArray).extract c.val (c.val + 1) = (⟨#[48, 49, 50, 51, 52, 53, 54, 55, 56, 57, 88]⟩ : ByteArray).extract c.val (c.val + 1) := by decide +kernel
theorem FnExactDoubledCheck : laws_FnExactDoubledCheck.Said := by
  intro s _
  refine Ev.rounds ?_
  unfold laws_FnExactDoubledCheck.f
  refine Ev.ite (fun _ => Ev.val rfl) (fun h1 => ?_)
  have hz : (s ++ (⟨#[48]⟩ : ByteArray)).size = s.size + 1 := by rw [size_append]; rfl
  obtain ⟨v, e1, e2⟩ := doubled_ev (s ++ (⟨#[48]⟩ : ByteArray)) (by omega)
  have hg := ckLong_ev s 1 11 (by omega)
  have hi := isDigits_f s 1 11 (by omega)
  have hc : ∃ c : Nat, c < 10 ∧ Int.tmod (wrap64 (10 - Int.tmod v 10)) 10 = (c : Int) := by
    have h1 : -10 < Int.tmod v 10 ∧ Int.tmod v 10 < 10 := ⟨Int.lt_tmod_of_pos v (by decide), Int.tmod_lt_of_pos v (by decide)⟩
    rw [wrap_in (by omega) (by omega)]
    have h2 : 0 ≤ Int.tmod (10 - Int.tmod v 10) 10 ∧ Int.tmod (10 - Int.tmod v 10) 10 < 10 := ⟨Int.tmod_nonneg _ (by omega), Int.tmod_lt_of_pos _ (by decide)⟩
    exact ⟨(Int.tmod (10 - Int.tmod v 10) 10).toNat, by omega, by omega⟩
  obtain ⟨c, hc, ec⟩ := hc
  have : ∃ r : ByteArray × Bool, Ev (fun k => spec_DoubledCheck.f k s) r ∧ Ev (fun k => impl_DoubledCheck.f k s) r := by
    unfold spec_DoubledCheck.f impl_DoubledCheck.f
    cases g : digitsB s 1 11 with
    | false =>
      rw [g] at hg hi
      exact ⟨(⟨#[]⟩, false), Ev.bind hg (Ev.neg (by simp) (Ev.val rfl)), Ev.vbind hi (Ev.neg (by simp) (Ev.val rfl))⟩
    | true =>
      rw [g] at hg hi
      refine ⟨((⟨#[48, 49, 50, 51, 52, 53, 54, 55, 56, 57, 88]⟩ : ByteArray).extract c (c + 1), true), Ev.bind hg (Ev.pos rfl (Ev.pos (by omega) (Ev.bind e1 ?_))), Ev.vbind hi (Ev.pos rfl (Ev.pos (by omega) (Ev.bind e2 ?_)))⟩
      · rw [ec, wrap_nat (by omega), Int.toNat_natCast, Int.toNat_natCast]
        exact Ev.pos (by omega) (Ev.pos (by omega) (Ev.pos (by omega) (Ev.val rfl)))
      · rw [ec, wrap_nat (by omega), Int.toNat_natCast, Int.toNat_natCast]
        exact Ev.pos (by omega) (Ev.pos (by omega) (Ev.pos (by omega) (Ev.val (by rw [sign_same ⟨c, hc⟩]))))
  obtain ⟨r, hr, hq⟩ := this
  exact Ev.bind hr (Ev.bind hq (Ev.pos rfl (Ev.neg (by simp) (Ev.val rfl))))
end Go.Proofs.YtbkincjjafioaaaDoor.Pure
