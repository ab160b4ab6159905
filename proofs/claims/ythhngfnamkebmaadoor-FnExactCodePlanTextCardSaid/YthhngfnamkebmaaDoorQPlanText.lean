/- A plan's text: the reference's loop writes what strings.Join writes. No condition but bounds. -/
import Derived.Test.YthhngfnamkebmaaDoorPAx0
import Derived.Test.YthhngfnamkebmaaDoorPAx13
import Derived.Test.YthhngfnamkebmaaDoorQHas
import Derived.Lib.Join
namespace Go.Proofs.YthhngfnamkebmaaDoor.PA
open Go.RowKit Go.Proofs.YthhngfnamkebmaaDoorW.PrintWords
set_option linter.unusedVariables false

/-- the texts, joined by commas -/
def commaT (l : List ByteArray) : ByteArray := ⟨(Lib.join (l.map (·.data.toList)) [44]).toArray⟩
theorem join_take_succ {l : List ByteArray} {i : Nat} (h : i + 1 < l.length) : Lib.join ((l.take (i + 2)).map (·.data.toList)) [44] = Lib.join ((l.take (i + 1)).map (·.data.toList)) [44] ++ [44] ++ l[i + 1].data.toList := by
  cases l with
  | nil => simp at h
  | cons a l =>
    have h' : i < l.length := by simpa using h
    simp only [List.take_succ_cons, List.map_cons, Lib.join_cons]
    rw [take_succ_get h', List.map_append]
    simp [Lib.joinTail]
theorem plText_l0 (l : List ByteArray) (hl : l.length ≤ 20) (hs : ∀ y ∈ l, y.size ≤ 6) : ∀ (d i : Nat), i + d = l.length → (commaT (l.take i)).size ≤ 7 * i → Ev (fun k => spec_plText.l0 k (commaT (l.take i)) l (l.length : Int) (i : Int)) (commaT l)
  | 0, i, h, _ => by
    refine Ev.step (fun k => by rw [spec_plText.l0]) ?_
    refine Ev.neg (by omega) (Ev.val ?_)
    rw [List.take_of_length_le (by omega)]
  | d + 1, i, h, hz => by
    have hi : i < l.length := by omega
    have hy := hs _ (List.getElem_mem hi)
    refine Ev.step (fun k => by rw [spec_plText.l0]) ?_
    refine Ev.pos (by omega) (Ev.pos (by omega) (Ev.pos (by omega) ?_))
    rw [rdS_nat hi, wrap_nat (by omega)]
    cases i with
    | zero =>
      refine Ev.neg (by omega) (Ev.pos (by omega) ?_)
      have e : commaT (l.take 0) ++ l[0] = commaT (l.take 1) := by
        apply ba_ext
        rw [data_append]
        cases l with
        | nil => simp at hi
        | cons a l => simp [commaT, Lib.join_nil, Lib.join_one]
      rw [e]
      refine plText_l0 l hl hs d 1 (by omega) ?_
      rw [← e, size_append]; omega
    | succ i =>
      refine Ev.pos (by omega) (Ev.pos (by omega) (Ev.pos ?_ ?_))
      · rw [size_append]; show (commaT (List.take (i + 1) l)).size + 1 + _ ≤ _; omega
      · have e : (commaT (l.take (i + 1)) ++ (⟨#[44]⟩ : ByteArray)) ++ l[i + 1] = commaT (l.take (i + 2)) := by
          apply ba_ext
          rw [data_append, data_append]
          show Lib.join _ _ ++ [44] ++ _ = Lib.join _ _
          rw [join_take_succ hi]
        rw [e]
        refine plText_l0 l hl hs d (i + 2) (by omega) ?_
        rw [← e, size_append, size_append]; show (commaT (List.take (i + 1) l)).size + 1 + _ ≤ _; omega
theorem comma_size (l : List ByteArray) (hs : ∀ y ∈ l, y.size ≤ 6) : ∀ i, i ≤ l.length → (commaT (l.take i)).size ≤ 7 * i
  | 0, _ => Nat.le_refl _
  | 1, h => by
    have hy := hs _ (List.getElem_mem (show 0 < l.length by omega))
    cases l with
    | nil => simp at h
    | cons a l =>
      have e : commaT ((a :: l).take 1) = a := ba_ext (by simp [commaT, Lib.join_one])
      rw [e]; exact Nat.le_trans hy (by decide)
  | i + 2, h => by
    have ih := comma_size l hs (i + 1) (by omega)
    have hy := hs _ (List.getElem_mem (show i + 1 < l.length by omega))
    have e := join_take_succ (l := l) (i := i) (by omega)
    have : (commaT (l.take (i + 2))).size = (commaT (l.take (i + 1))).size + 1 + (l[i + 1]'(by omega)).size := by
      show (Lib.join _ _).length = (Lib.join _ _).length + 1 + _
      rw [e, List.length_append, List.length_append]; rfl
    omega
theorem plText_ev (l : List ByteArray) (hl : l.length ≤ 20) (hs : ∀ y ∈ l, y.size ≤ 6) : Ev (fun k => spec_plText.f k l) (commaT l) := by
  have := plText_l0 l hl hs l.length 0 (by omega) (Nat.le_refl _)
  exact this
end Go.Proofs.YthhngfnamkebmaaDoor.PA
