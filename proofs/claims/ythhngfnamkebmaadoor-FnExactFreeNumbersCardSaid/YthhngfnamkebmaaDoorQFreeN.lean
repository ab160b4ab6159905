/- How many numbers are free: the reference's loop. No condition but bounds. -/
import Derived.Test.YthhngfnamkebmaaDoorPAx0
import Derived.Test.YthhngfnamkebmaaDoorPAx12
import Derived.Test.YthhngfnamkebmaaDoorQFree
namespace Go.Proofs.YthhngfnamkebmaaDoor.PA
open Go.RowKit Go.Proofs.YthhngfnamkebmaaDoorW.PrintWords
set_option linter.unusedVariables false

theorem partN_drop {n : Nat} {l : List ByteArray} {i : Nat} (h : i < l.length) : partN n (l.drop i) = p10 (n - l[i].size) + partN n (l.drop (i + 1)) := by
  unfold partN
  rw [List.drop_eq_getElem_cons h, List.map_cons, List.sum_cons]
section
variable (l : List ByteArray) (hl : l.length ≤ 20) (hs : ∀ y ∈ l, y.size ≤ 6) (n : Nat) (hn : n ≤ 6)
include hl hs hn
theorem freeN_l0 : ∀ (d i : Nat) (x : Int), i + d = l.length → -1000000000000 * (i : Int) ≤ x → x ≤ 1000000000000 →
    ((∀ c ∈ l.drop i, c.size ≤ n) → Ev (fun k => spec_FreeNumbers.l0 k (n : Int) x l (l.length : Int) (i : Int)) (x - partN n (l.drop i), true)) ∧
    ((¬ ∀ c ∈ l.drop i, c.size ≤ n) → Ev (fun k => spec_FreeNumbers.l0 k (n : Int) x l (l.length : Int) (i : Int)) (0, false))
  | 0, i, x, h, _, _ => by
    rw [List.drop_of_length_le (by omega)]
    refine ⟨fun _ => ?_, fun hh => absurd (by simp) hh⟩
    refine Ev.step (fun k => by rw [spec_FreeNumbers.l0]) ?_
    exact Ev.neg (by omega) (Ev.val (by simp [partN]))
  | d + 1, i, x, h, hx1, hx2 => by
    have hi : i < l.length := by omega
    have hy := hs _ (List.getElem_mem hi)
    have hd : l.drop i = l[i] :: l.drop (i + 1) := List.drop_eq_getElem_cons hi
    have hp := p10_le (n - l[i].size) (by omega)
    have hall : (∀ c ∈ l.drop i, c.size ≤ n) ↔ l[i].size ≤ n ∧ ∀ c ∈ l.drop (i + 1), c.size ≤ n := by rw [hd]; exact List.forall_mem_cons
    by_cases hz : l[i].size ≤ n
    · obtain ⟨h1, h2⟩ := freeN_l0 d (i + 1) (x - p10 (n - l[i].size)) (by omega) (by omega) (by omega)
      have go : ∀ r, Ev (fun k => spec_FreeNumbers.l0 k (n : Int) (x - p10 (n - l[i].size)) l (l.length : Int) ((i + 1 : Nat) : Int)) r → Ev (fun k => spec_FreeNumbers.l0 k (n : Int) x l (l.length : Int) (i : Int)) r := by
        intro r hr
        refine Ev.step (fun k => by rw [spec_FreeNumbers.l0]) ?_
        refine Ev.pos (by omega) (Ev.pos (by omega) (Ev.pos (by omega) ?_))
        rw [rdS_nat hi, wrap_nat (by omega)]
        refine Ev.neg (by omega) ?_
        rw [wrap_in (n := (n : Int) - (l[i].size : Int)) (by omega) (by omega), show (n : Int) - (l[i].size : Int) = ((n - l[i].size : Nat) : Int) by omega]
        refine Ev.bind (plTens_ev _ (by omega)) ?_
        rw [wrap_in (by omega) (by omega)]
        exact hr
      refine ⟨fun hh => ?_, fun hh => go _ (h2 (fun e => hh (hall.mpr ⟨hz, e⟩)))⟩
      refine Ev.eq (go _ (h1 (hall.mp hh).2)) ?_
      rw [partN_drop hi, show x - p10 (n - l[i].size) - partN n (l.drop (i + 1)) = x - (p10 (n - l[i].size) + partN n (l.drop (i + 1))) by omega]
    · refine ⟨fun hh => absurd (hall.mp hh).1 hz, fun _ => ?_⟩
      refine Ev.step (fun k => by rw [spec_FreeNumbers.l0]) ?_
      refine Ev.pos (by omega) (Ev.pos (by omega) (Ev.pos (by omega) ?_))
      rw [rdS_nat hi]
      exact Ev.pos (by omega) (Ev.val rfl)
end
end Go.Proofs.YthhngfnamkebmaaDoor.PA
