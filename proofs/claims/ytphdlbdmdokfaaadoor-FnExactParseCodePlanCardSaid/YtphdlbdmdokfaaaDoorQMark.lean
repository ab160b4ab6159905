/- The laws' marks: marking a row writes texts that the holder then finds. No condition but bounds. -/
import Derived.Test.YtphdlbdmdokfaaaDoorPAx0
import Derived.Test.YtphdlbdmdokfaaaDoorPAx2
import Derived.Test.YtphdlbdmdokfaaaDoorPAx4
import Derived.Test.YtphdlbdmdokfaaaDoorQBase
namespace Go.Proofs.YtphdlbdmdokfaaaDoor.PA
open Go.RowKit Go.Proofs.YtphdlbdmdokfaaaDoorW.PrintWords
set_option linter.unusedVariables false

theorem num1_size (z : Int) : (strOfNums [z]).size = 1 := rfl
theorem markText_l0 : ∀ (f n : Nat) (x : ByteArray), n ≤ f → x.size + n ≤ 4611686018427387903 → ∃ t, Ev (fun k => laws_markText.l0 k (n : Int) x) t
  | f, 0, x, _, h => by
    refine ⟨(⟨#[109]⟩ : ByteArray) ++ x, ?_⟩
    refine Ev.step (fun k => by rw [laws_markText.l0]) ?_
    exact Ev.neg (by omega) (Ev.pos (by omega) (Ev.val rfl))
  | 0, n + 1, x, hf, _ => by omega
  | f + 1, n + 1, x, hf, h => by
    have hz : (strOfNums [wrap64 (48 + Int.tmod ((n + 1 : Nat) : Int) 10) % 256] ++ x).size = x.size + 1 := by rw [size_append, num1_size]; omega
    have hd : wrap64 (Int.tdiv ((n + 1 : Nat) : Int) 10) = (((n + 1) / 10 : Nat) : Int) := by
      rw [Int.tdiv_eq_ediv_of_nonneg (by omega), wrap_in (by omega) (by omega)]; omega
    obtain ⟨t, ht⟩ := markText_l0 f ((n + 1) / 10) (strOfNums [wrap64 (48 + Int.tmod ((n + 1 : Nat) : Int) 10) % 256] ++ x) (by omega) (by rw [hz]; omega)
    refine ⟨t, ?_⟩
    refine Ev.step (fun k => by rw [laws_markText.l0]) ?_
    refine Ev.pos (by omega) (Ev.vbind rfl (Ev.pos (by rw [num1_size]; omega) ?_))
    rw [hd]
    exact ht
theorem markText_ex (n : Nat) (hn : n ≤ 1099511627776) : ∃ t, Ev (fun k => laws_markText.f k (n : Int)) t := by
  unfold laws_markText.f
  by_cases h : (n : Int) ≤ 0
  · exact ⟨_, Ev.pos h (Ev.val rfl)⟩
  · obtain ⟨t, ht⟩ := markText_l0 n n ⟨#[]⟩ (Nat.le_refl _) (by show 0 + n ≤ _; omega)
    exact ⟨t, Ev.neg h ht⟩
open Classical in
noncomputable def markT (n : Nat) : ByteArray := if h : ∃ t, Ev (fun k => laws_markText.f k (n : Int)) t then h.choose else ⟨#[]⟩
theorem markT_ev (n : Nat) (hn : n ≤ 1099511627776) : Ev (fun k => laws_markText.f k (n : Int)) (markT n) := by
  have h := markText_ex n hn
  unfold markT
  rw [dif_pos h]
  exact h.choose_spec
/-- the marks of so many places -/
noncomputable def marksT (n m : Nat) : List ByteArray := (List.range m).map (fun j => markT (n + j))
theorem marksT_len (n m : Nat) : (marksT n m).length = m := by simp [marksT]
theorem mark_l0 (n m : Nat) (hn : n + m ≤ 1099511627776) : ∀ (d i : Nat) (x : List ByteArray), i + d = m → x.length = m → x.take i = (marksT n m).take i → Ev (fun k => laws_markStringS.l0 k x ((n + i : Nat) : Int) (i : Int)) (((n + m : Nat) : Int), marksT n m)
  | 0, i, x, h, hx, ht => by
    refine Ev.step (fun k => by rw [laws_markStringS.l0]) ?_
    refine Ev.neg (by omega) (Ev.val ?_)
    rw [List.take_of_length_le (by omega), List.take_of_length_le (by rw [marksT_len]; omega)] at ht
    rw [ht, show n + i = n + m by omega]
  | d + 1, i, x, h, hx, ht => by
    refine Ev.step (fun k => by rw [laws_markStringS.l0]) ?_
    refine Ev.pos (by omega) (Ev.bind (markT_ev (n + i) (by omega)) (Ev.pos (by omega) ?_))
    rw [wrap_nat (by omega), wrap_nat (by omega), Int.toNat_natCast]
    refine mark_l0 n m hn d (i + 1) _ (by omega) (by simpa using hx) ?_
    rw [take_succ_get (by simp; omega), take_succ_get (show i < (marksT n m).length by rw [marksT_len]; omega), List.take_set_of_le (Nat.le_refl _), ht]
    simp [marksT]
theorem markStringS_ev (l : List ByteArray) (n : Nat) (hn : n + l.length ≤ 1099511627776) : Ev (fun k => laws_markStringS.f k l (n : Int)) (((n + l.length : Nat) : Int), marksT n l.length) :=
  mark_l0 n l.length hn l.length 0 l (by omega) rfl (by simp)
theorem held_l0 (n m : Nat) (hn : n + m ≤ 1099511627776) : ∀ (d i : Nat), i + d = m → Ev (fun k => laws_heldStringS.l0 k (marksT n m) ((n + i : Nat) : Int) (i : Int)) ((n + m : Nat) : Int)
  | 0, i, h => by
    refine Ev.step (fun k => by rw [laws_heldStringS.l0]) ?_
    refine Ev.neg (by rw [marksT_len]; omega) (Ev.val ?_)
    rw [show n + i = n + m by omega]
  | d + 1, i, h => by
    refine Ev.step (fun k => by rw [laws_heldStringS.l0]) ?_
    refine Ev.pos (by rw [marksT_len]; omega) (Ev.pos (by omega) (Ev.bind (markT_ev (n + i) (by omega)) ?_))
    rw [rdS_nat (by rw [marksT_len]; omega), wrap_nat (by omega), wrap_nat (by omega)]
    refine Ev.pos (by simp [marksT]) ?_
    exact held_l0 n m hn d (i + 1) (by omega)
theorem heldStringS_ev (n m : Nat) (hn : n + m ≤ 1099511627776) : Ev (fun k => laws_heldStringS.f k (marksT n m) (n : Int)) ((n + m : Nat) : Int) :=
  held_l0 n m hn m 0 (by omega)
end Go.Proofs.YtphdlbdmdokfaaaDoor.PA
