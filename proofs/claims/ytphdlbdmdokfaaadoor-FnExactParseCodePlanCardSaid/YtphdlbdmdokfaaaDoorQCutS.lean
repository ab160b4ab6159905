/- The reference's own way to cut a text gives the library's pieces. No condition but bounds. -/
import Derived.Test.YtphdlbdmdokfaaaDoorPAx0
import Derived.Test.YtphdlbdmdokfaaaDoorPAx5
import Derived.Test.YtphdlbdmdokfaaaDoorQCut
namespace Go.Proofs.YtphdlbdmdokfaaaDoor.PA
open Go.RowKit Go.Proofs.YtphdlbdmdokfaaaDoorW.PrintWords
set_option linter.unusedVariables false

theorem l1Split_l0 (s : ByteArray) (c : UInt8) (hs : s.size ≤ 1073741824) : ∀ (d i a : Nat) (x : List ByteArray), i + d = s.size → a ≤ i → x.length ≤ i → Ev (fun k => spec_l1Split.l0 k s (c.toNat : Int) x (a : Int) (i : Int)) (x ++ (cutL c ((s.data.toList.take i).drop a) (s.data.toList.drop i)).map fun l => ⟨l.toArray⟩)
  | 0, i, a, x, h, ha, hx => by
    refine Ev.step (fun k => by rw [spec_l1Split.l0]) ?_
    refine Ev.neg (by omega) (Ev.pos (by omega) (Ev.pos (by omega) (Ev.pos (by omega) (Ev.val ?_))))
    have e : s.extract a s.size = ⟨((s.data.toList.take i).drop a).toArray⟩ := ba_ext (by rw [data_extract, show i = s.size by omega])
    rw [List.drop_of_length_le (i := i) (by rw [← size_data]; omega), cutL, List.map_cons, List.map_nil, Int.toNat_natCast, e]
  | d + 1, i, a, x, h, ha, hx => by
    have hi : i < s.data.toList.length := by rw [← size_data]; omega
    refine Ev.step (fun k => by rw [spec_l1Split.l0]) ?_
    refine Ev.pos (by omega) (Ev.pos (by omega) ?_)
    rw [bt_nat (by omega), wrap_nat (by omega), List.drop_eq_getElem_cons hi]
    by_cases e : s.data.toList[i] = c
    · refine Ev.pos (by rw [e]) (Ev.pos (by omega) (Ev.pos (by omega) (Ev.pos (by omega) (Ev.pos (by omega) ?_))))
      have ih := l1Split_l0 s c hs d (i + 1) (i + 1) (x ++ [s.extract a i]) (by omega) (Nat.le_refl _) (by simp; omega)
      have e1 : (s.data.toList.take (i + 1)).drop (i + 1) = [] := List.drop_of_length_le (by rw [List.length_take]; omega)
      rw [e1] at ih
      rw [cutL, if_pos e, List.map_cons]
      have e2 : (⟨((s.data.toList.take i).drop a).toArray⟩ : ByteArray) = s.extract a i := ba_ext (by rw [data_extract])
      rw [e2]
      simpa using ih
    · refine Ev.neg (fun h => e ?_) ?_
      · exact UInt8.toNat_inj.mp (by omega)
      · have ih := l1Split_l0 s c hs d (i + 1) a x (by omega) (by omega) (by omega)
        rw [cutL, if_neg e]
        rw [take_succ_get hi, List.drop_append_of_le_length (by rw [List.length_take]; omega)] at ih
        exact ih
theorem l1Split_ev (s : ByteArray) (c : UInt8) (hs : s.size ≤ 1073741824) : Ev (fun k => spec_l1Split.f k s (c.toNat : Int)) (cutT c s) := by
  have := l1Split_l0 s c hs s.size 0 0 [] (by omega) (Nat.le_refl _) (Nat.le_refl _)
  unfold spec_l1Split.f cutT
  simpa using this
end Go.Proofs.YtphdlbdmdokfaaaDoor.PA
