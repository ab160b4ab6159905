/- Texts joined by commas, one after the other. No condition. -/
import Derived.Test.YtbkincjjafioaaaDoorQBase
import Derived.Lib.Join
namespace Go.Proofs.YtbkincjjafioaaaDoor.PA
open Go.RowKit Go.Proofs.YtbkincjjafioaaaDoorW.PrintWords
set_option linter.unusedVariables false

/-- the texts, joined by commas -/
def commaT (l : List ByteArray) : ByteArray := ⟨(Lib.join (l.map (·.data.toList)) [44]).toArray⟩
theorem join_take_succ {l : List ByteArray} {i : Nat} (h : i + 1 < l.length) : Lib.join ((l.take (i + 2)).map (·.data.toList)) [44] = Lib.join ((l.take (i + 1)).map (·.data.toList)) [44] ++ [44] ++ l[i + 1].data.toList := by
  cases l with
  | nil => simp at h
  | cons a l =>
    have h' : i < l.length := by simpa using h
    simp only [List.take_succ_cons, List.map_cons, Lib.join_cons]
    rw [take_succ_get h', List.map_append]
    simp [Lib.joinTail]
theorem comma_size (l : List ByteArray) (hs : ∀ y ∈ l, y.size ≤ 6) : ∀ i, i ≤ l.length → (commaT (l.take i)).size ≤ 7 * i
  | 0, _ => Nat.le_refl _
  | 1, h => by
    have hy := hs _ (List.getElem_mem (show 0 < l.length by omega))
    cases l with
    | nil => simp at h
    | cons a l =>
      have e : commaT ((a :: l).take 1) = a := ba_ext (by simp [commaT, Lib.join_one])
      rw [e]; exact Nat.le_trans hy (by decide)
  | i + 2, h => by
    have ih := comma_size l hs (i + 1) (by omega)
    have hy := hs _ (List.getElem_mem (show i + 1 < l.length by omega))
    have e := join_take_succ (l := l) (i := i) (by omega)
    have : (commaT (l.take (i + 2))).size = (commaT (l.take (i + 1))).size + 1 + (l[i + 1]'(by omega)).size := by
      show (Lib.join _ _).length = (Lib.join _ _).length + 1 + _
      rw [e, List.length_append, List.length_append]; rfl
    omega
theorem app_nil (a : ByteArray) : a ++ (⟨#[]⟩ : ByteArray) = a := ba_ext (by rw [data_append]; exact List.append_nil _)
theorem app_assoc (a b c : ByteArray) : a ++ b ++ c = a ++ (b ++ c) := ba_ext (by simp only [data_append, List.append_assoc])
theorem comma_zero (l : List ByteArray) : commaT (l.take 0) = ⟨#[]⟩ := rfl
theorem comma_one {l : List ByteArray} (h : 0 < l.length) : commaT (l.take 1) = l[0] := by
  apply ba_ext
  cases l with
  | nil => simp at h
  | cons a l => simp [commaT, Lib.join_one]
theorem comma_more {l : List ByteArray} {i : Nat} (h : i + 1 < l.length) : commaT (l.take (i + 2)) = (commaT (l.take (i + 1)) ++ (⟨#[44]⟩ : ByteArray)) ++ l[i + 1] := by
  apply ba_ext
  rw [data_append, data_append]
  show Lib.join _ _ = Lib.join _ _ ++ [44] ++ _
  rw [join_take_succ h]
end Go.Proofs.YtbkincjjafioaaaDoor.PA
