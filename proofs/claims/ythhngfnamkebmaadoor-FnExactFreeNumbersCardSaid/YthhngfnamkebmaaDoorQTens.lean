/- Powers of ten, room, sums: the reference's and the program's are one. No condition but bounds. -/
import Derived.Test.YthhngfnamkebmaaDoorPAx0
import Derived.Test.YthhngfnamkebmaaDoorPAx7
import Derived.Test.YthhngfnamkebmaaDoorPAx8
import Derived.Test.YthhngfnamkebmaaDoorQBase
namespace Go.Proofs.YthhngfnamkebmaaDoor.PA
open Go.RowKit Go.Proofs.YthhngfnamkebmaaDoorW.PrintWords
set_option linter.unusedVariables false

def p10 : Nat → Int
  | 0 => 1
  | n + 1 => p10 n * 10
theorem p10_le : ∀ n, n ≤ 12 → 1 ≤ p10 n ∧ p10 n ≤ 1000000000000 := by decide
theorem plTens_l0 : ∀ (d i : Nat), i + d ≤ 12 → Ev (fun k => spec_plTens.l0 k (d : Int) (p10 i)) (p10 (i + d))
  | 0, i, h => by
    refine Ev.step (fun k => by rw [spec_plTens.l0]) ?_
    exact Ev.neg (by omega) (Ev.val rfl)
  | d + 1, i, h => by
    have := p10_le i (by omega)
    refine Ev.step (fun k => by rw [spec_plTens.l0]) ?_
    refine Ev.pos (by omega) ?_
    rw [wrap_in (n := ((d + 1 : Nat) : Int) - 1) (by omega) (by omega), wrap_in (by omega) (by omega), show ((d + 1 : Nat) : Int) - 1 = (d : Int) by omega]
    have := plTens_l0 d (i + 1) (by omega)
    rwa [show i + 1 + d = i + (d + 1) by omega] at this
theorem plTens_ev (n : Nat) (h : n ≤ 12) : Ev (fun k => spec_plTens.f k (n : Int)) (p10 n) := by
  have := plTens_l0 n 0 (by omega)
  rw [Nat.zero_add] at this
  exact this
theorem power_l0 (n : Nat) (hn : n ≤ 12) : ∀ (d i : Nat), i + d = n → Ev (fun k => impl_power.l0 k (p10 i) (n : Int) (i : Int)) (p10 n)
  | 0, i, h => by
    refine Ev.step (fun k => by rw [impl_power.l0]) ?_
    refine Ev.neg (by omega) (Ev.val ?_)
    rw [show i = n by omega]
  | d + 1, i, h => by
    have := p10_le i (by omega)
    refine Ev.step (fun k => by rw [impl_power.l0]) ?_
    refine Ev.pos (by omega) ?_
    rw [wrap_nat (by omega), wrap_in (by omega) (by omega)]
    exact power_l0 n hn d (i + 1) (by omega)
theorem power_ev (n : Nat) (h : n ≤ 12) : Ev (fun k => impl_power.f k (n : Int)) (p10 n) := power_l0 n h n 0 (by omega)
end Go.Proofs.YthhngfnamkebmaaDoor.PA
