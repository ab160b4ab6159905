/- Doubled sums: the reference's and the program's are one. No condition but bounds. -/
import Derived.Test.YtbkincjjafioaaaDoorPAx0
import Derived.Test.YtbkincjjafioaaaDoorPAx1
import Derived.Test.YtbkincjjafioaaaDoorPAx2
import Derived.Test.YtbkincjjafioaaaDoorQOver
namespace Go.Proofs.YtbkincjjafioaaaDoor.PA
open Go.RowKit Go.Proofs.YtbkincjjafioaaaDoorW.PrintWords
set_option linter.unusedVariables false

theorem ckDigits_l0 (s : ByteArray) (hs : s.size ≤ 4611686018427387903) : ∀ (d i : Nat), i + d = s.size → Ev (fun k => spec_ckDigits.l0 k s (i : Int)) ((s.data.toList.drop i).all digB)
  | 0, i, h => by
    refine Ev.step (fun k => by rw [spec_ckDigits.l0]) (Ev.neg (by omega) (Ev.val ?_))
    rw [List.drop_of_length_le (by rw [← size_data]; omega)]; rfl
  | d + 1, i, h => by
    have hi : i < s.data.toList.length := by rw [← size_data]; omega
    refine Ev.step (fun k => by rw [spec_ckDigits.l0]) (Ev.pos (by omega) (Ev.pos (by omega) ?_))
    rw [bt_nat (by omega), List.drop_eq_getElem_cons hi, List.all_cons, wrap_nat (by omega)]
    unfold digB
    refine Ev.ite (fun e => Ev.val ?_) (fun e => Ev.ite (fun e2 => Ev.val ?_) (fun e2 => ?_))
    · simp only [show ¬ 48 ≤ (s.data.toList[i]).toNat by omega, decide_false, Bool.false_and]
    · simp only [show ¬ (s.data.toList[i]).toNat ≤ 57 by omega, decide_false, Bool.and_false, Bool.false_and]
    · simp only [show 48 ≤ (s.data.toList[i]).toNat by omega, show (s.data.toList[i]).toNat ≤ 57 by omega, decide_true, Bool.true_and]
      exact ckDigits_l0 s hs d (i + 1) (by omega)
theorem ckLong_ev (s : ByteArray) (lo hi : Int) (hs : s.size ≤ 4611686018427387903) : Ev (fun k => spec_ckLong.f k s lo hi) (digitsB s lo hi) := by
  unfold spec_ckLong.f digitsB
  refine Ev.vbind (l1In_f _ _ _) ?_
  cases decide (lo ≤ (s.size : Int)) && decide ((s.size : Int) ≤ hi) with
  | true =>
    have h := ckDigits_l0 s hs s.size 0 (by omega)
    rw [List.drop_zero] at h
    exact Ev.pos rfl (Ev.bind (g := fun k => spec_ckDigits.f k s) h (Ev.val rfl))
  | false => exact Ev.neg (by simp) (Ev.val rfl)
theorem doubled_l0 (s : ByteArray) (hs : s.size ≤ 4611686018427387903) : ∀ (d i : Nat) (x : Int), i + d = s.size →
    ∃ v, Ev (fun k => spec_ckDoubled.l0 k s x (i : Int)) v ∧ Ev (fun k => impl_doubledSum.l0 k s x (s.size : Int) (i : Int)) v
  | 0, i, x, h => by
    refine ⟨x, ?_, ?_⟩
    · refine Ev.step (fun k => by rw [spec_ckDoubled.l0]) ?_
      exact Ev.neg (by omega) (Ev.val rfl)
    · refine Ev.step (fun k => by rw [impl_doubledSum.l0]) ?_
      exact Ev.neg (by omega) (Ev.val rfl)
  | d + 1, i, x, h => by
    have hj : wrap64 (wrap64 ((s.size : Int) - 1) - (i : Int)) = ((s.size - 1 - i : Nat) : Int) := by
      rw [wrap_in (n := (s.size : Int) - 1) (by omega) (by omega), wrap_in (by omega) (by omega)]; omega
    generalize hb : bt s ((s.size - 1 - i : Nat) : Int) = b
    have hc : ∃ c : Int, c = (b - 48) % 256 ∧ 0 ≤ c ∧ c < 256 := ⟨_, rfl, by omega, by omega⟩
    obtain ⟨c, hc, hc0, hc1⟩ := hc
    by_cases ho : Int.tmod (i : Int) 2 = 1
    · obtain ⟨v, h1, h2⟩ := doubled_l0 s hs d (i + 1) (wrap64 (x + (2 * c / 10 + 2 * c % 10))) (by omega)
      refine ⟨v, ?_, ?_⟩
      · refine Ev.step (fun k => by rw [spec_ckDoubled.l0]) ?_
        rw [hj, hb, ← hc]
        refine Ev.pos (by omega) (Ev.pos (by omega) (Ev.pos (by omega) (Ev.pos ho ?_)))
        rw [wrap_nat (by omega)]
        exact h1
      · refine Ev.step (fun k => by rw [impl_doubledSum.l0]) ?_
        rw [hj, hb]
        refine Ev.pos (by omega) (Ev.pos (by omega) (Ev.pos (by omega) (Ev.vbind (a := c) (by rw [hc]; rfl) (Ev.pos ho (Ev.vbind (a := 2 * c / 10 + 2 * c % 10) ?_ ?_)))))
        · unfold impl_doubled.f
          rw [wrap_in (n := 2 * c) (by omega) (by omega), Int.tdiv_eq_ediv_of_nonneg (by omega), Int.tmod_eq_emod_of_nonneg (by omega), wrap_in (n := 2 * c / 10) (by omega) (by omega), wrap_in (by omega) (by omega)]
        · rw [wrap_nat (by omega)]
          exact h2
    · obtain ⟨v, h1, h2⟩ := doubled_l0 s hs d (i + 1) (wrap64 (x + c)) (by omega)
      refine ⟨v, ?_, ?_⟩
      · refine Ev.step (fun k => by rw [spec_ckDoubled.l0]) ?_
        rw [hj, hb, ← hc]
        refine Ev.pos (by omega) (Ev.pos (by omega) (Ev.pos (by omega) (Ev.neg ho ?_)))
        rw [wrap_nat (by omega)]
        exact h1
      · refine Ev.step (fun k => by rw [impl_doubledSum.l0]) ?_
        rw [hj, hb]
        refine Ev.pos (by omega) (Ev.pos (by omega) (Ev.pos (by omega) (Ev.vbind (a := c) (by rw [hc]; rfl) (Ev.neg ho ?_))))
        rw [wrap_nat (by omega)]
        exact h2
theorem doubled_ev (s : ByteArray) (hs : s.size ≤ 4611686018427387903) : ∃ v, Ev (fun k => spec_ckDoubled.f k s) v ∧ Ev (fun k => impl_doubledSum.f k s) v := doubled_l0 s hs s.size 0 0 (by omega)
end Go.Proofs.YtbkincjjafioaaaDoor.PA
