/- What part of all numbers a plan takes: the reference's and the program's sums and their greatest divisor are one. No condition but bounds. -/
import Derived.Test.YthhngfnamkebmaaDoorPAx0
import Derived.Test.YthhngfnamkebmaaDoorPAx7
import Derived.Test.YthhngfnamkebmaaDoorPAx9
import Derived.Test.YthhngfnamkebmaaDoorQHas
namespace Go.Proofs.YthhngfnamkebmaaDoor.PA
open Go.RowKit Go.Proofs.YthhngfnamkebmaaDoorW.PrintWords
set_option linter.unusedVariables false

/-- what codes take of all numbers of six digits -/
def partV (l : List ByteArray) : Int := (l.map (fun c => p10 (6 - c.size))).sum
theorem partV_succ {l : List ByteArray} {i : Nat} (h : i < l.length) : partV (l.take (i + 1)) = partV (l.take i) + p10 (6 - l[i].size) := by
  unfold partV
  rw [take_succ_get h, List.map_append, List.sum_append]; simp
theorem partV_le {l : List ByteArray} : ∀ i, i ≤ l.length → 0 ≤ partV (l.take i) ∧ partV (l.take i) ≤ 1000000000000 * (i : Int)
  | 0, _ => by simp [partV]
  | i + 1, h => by
    have := partV_le (l := l) i (by omega)
    have hp := p10_le (6 - l[i].size) (by omega)
    rw [partV_succ (by omega)]
    omega
section
variable (l : List ByteArray) (hl : l.length ≤ 20) (hs : ∀ y ∈ l, y.size ≤ 6)
include hl hs
theorem plPart_l0 : ∀ (d i : Nat), i + d = l.length → Ev (fun k => spec_plPart.l0 k (partV (l.take i)) l (l.length : Int) (i : Int)) (partV l)
  | 0, i, h => by
    refine Ev.step (fun k => by rw [spec_plPart.l0]) ?_
    refine Ev.neg (by omega) (Ev.val ?_)
    rw [List.take_of_length_le (by omega)]
  | d + 1, i, h => by
    have hi : i < l.length := by omega
    have hy := hs _ (List.getElem_mem hi)
    refine Ev.step (fun k => by rw [spec_plPart.l0]) ?_
    refine Ev.pos (by omega) (Ev.pos (by omega) (Ev.pos (by omega) ?_))
    rw [rdS_nat hi, wrap_nat (by omega), wrap_in (n := 6 - (l[i].size : Int)) (by omega) (by omega), show 6 - (l[i].size : Int) = ((6 - l[i].size : Nat) : Int) by omega]
    refine Ev.bind (plTens_ev _ (by omega)) ?_
    have hp := partV_le (l := l) (i + 1) (by omega)
    rw [← partV_succ hi, wrap_in (by omega) (by omega)]
    exact plPart_l0 d (i + 1) (by omega)
theorem plPart_ev : Ev (fun k => spec_plPart.f k l) (partV l) := plPart_l0 l hl hs l.length 0 (by omega)
omit hl in
theorem room6 (c : ByteArray) (hc : c ∈ l) : roomV c 6 = p10 (6 - c.size) := by
  have := hs c hc
  unfold roomV
  rw [if_neg (by omega)]
theorem partOf_l0 (a : Int) (r : Int × Int × Bool) (hg : Ev (fun k => (impl_gcd.f k (partV l) a).bind fun t197 => (if t197 = 0 then (none) else (some (wrap64 (Int.tdiv (partV l) t197), wrap64 (Int.tdiv a t197), true)))) r) : ∀ (d i : Nat), i + d = l.length → Ev (fun k => impl_PartOf.l0 k (partV (l.take i)) a l (l.length : Int) (i : Int)) r
  | 0, i, h => by
    refine Ev.step (fun k => by rw [impl_PartOf.l0]) ?_
    refine Ev.neg (by omega) ?_
    rw [List.take_of_length_le (by omega)]
    exact hg
  | d + 1, i, h => by
    have hi : i < l.length := by omega
    refine Ev.step (fun k => by rw [impl_PartOf.l0]) ?_
    refine Ev.pos (by omega) (Ev.pos (by omega) (Ev.pos (by omega) ?_))
    rw [rdS_nat hi, wrap_nat (by omega)]
    refine Ev.bind (room_ev _ 6 (by omega)) ?_
    have hp := partV_le (l := l) (i + 1) (by omega)
    rw [room6 l hs _ (List.getElem_mem hi), ← partV_succ hi, wrap_in (by omega) (by omega)]
    exact partOf_l0 a r hg d (i + 1) (by omega)
end
theorem euclid (x y : Int) : ∀ (n a b : Nat), b < n → 0 < a + b → ∃ g : Int, g ≠ 0 ∧ Ev (fun k => impl_gcd.l0 k (a : Int) (b : Int)) g ∧ Ev (fun k => spec_PartOf.l0 k x y (a : Int) (b : Int)) (wrap64 (Int.tdiv x g), wrap64 (Int.tdiv y g), true)
  | 0, a, b, h, _ => by omega
  | n + 1, a, 0, _, h => by
    refine ⟨(a : Int), by omega, ?_, ?_⟩
    · refine Ev.step (fun k => by rw [impl_gcd.l0]) ?_
      exact Ev.pos (by omega) (Ev.val rfl)
    · refine Ev.step (fun k => by rw [spec_PartOf.l0]) ?_
      exact Ev.neg (by omega) (Ev.neg (by omega) (Ev.val rfl))
  | n + 1, a, b + 1, h, _ => by
    have hm : a % (b + 1) < b + 1 := Nat.mod_lt _ (by omega)
    obtain ⟨g, hg, h1, h2⟩ := euclid x y n (b + 1) (a % (b + 1)) (by omega) (by omega)
    have e : Int.tmod (a : Int) ((b + 1 : Nat) : Int) = ((a % (b + 1) : Nat) : Int) := by rw [Int.tmod_eq_emod_of_nonneg (by omega)]; omega
    refine ⟨g, hg, ?_, ?_⟩
    · refine Ev.step (fun k => by rw [impl_gcd.l0]) ?_
      refine Ev.neg (by omega) ?_
      rw [e]; exact h1
    · refine Ev.step (fun k => by rw [spec_PartOf.l0]) ?_
      refine Ev.pos (by omega) (Ev.neg (by omega) ?_)
      rw [e]; exact h2
end Go.Proofs.YthhngfnamkebmaaDoor.PA
