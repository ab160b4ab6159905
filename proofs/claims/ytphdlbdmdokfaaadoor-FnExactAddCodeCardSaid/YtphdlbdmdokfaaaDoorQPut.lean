/- The reference's sorted list of texts: a text is put in its place. No condition but bounds. -/
import Derived.Test.YtphdlbdmdokfaaaDoorPAx0
import Derived.Test.YtphdlbdmdokfaaaDoorPAx8
import Derived.Test.YtphdlbdmdokfaaaDoorQOrder
import Derived.Test.YtphdlbdmdokfaaaDoorQStrs
namespace Go.Proofs.YtphdlbdmdokfaaaDoor.PA
open Go.RowKit Go.Proofs.YtphdlbdmdokfaaaDoorW.PrintWords
set_option linter.unusedVariables false

theorem insB_cons_ge {x y : ByteArray} {r : List ByteArray} (h : ltB y x = false) : insB x (y :: r) = if y = x then y :: r else x :: y :: r := by
  rw [insB, if_neg (by simp [h])]
theorem put_tail (l : List ByteArray) (x : ByteArray) (hl : l.length ≤ 1048576) (i : Nat) (hi : i ≤ l.length) (own : ∀ m : List ByteArray, m.length ≤ 1048576 → spec_l1OwnS.f m = some m) (h1 : ∀ y ∈ l.take i, ltB y x = true) (h2 : ∀ y ∈ l.drop i, ltB y x = false) :
    Ev (fun k => (if (i : Int) < (l.length : Int) then (if 0 ≤ (i : Int) then (if (rdOf ByteArray.empty l (i : Int)).toList = x.toList then (some l) else (if (i : Int) ≤ (l.length : Int) then ((spec_l1OwnS.f (l.take ((i : Int) : Int).toNat)).bind fun t270 => (if t270.length < 8796093022208 then ((some (t270 ++ [x] : List ByteArray)).bind fun y273 => ((some (l.drop ((i : Int) : Int).toNat : List ByteArray)).bind fun y276 => (if y273.length + y276.length < 8796093022208 then (some (y273 ++ y276)) else (none)))) else (none))) else (none))) else (none)) else (if 0 ≤ (i : Int) then (if (i : Int) ≤ (l.length : Int) then ((spec_l1OwnS.f (l.take ((i : Int) : Int).toNat)).bind fun t287 => (if t287.length < 8796093022208 then ((some (t287 ++ [x] : List ByteArray)).bind fun y290 => ((some (l.drop ((i : Int) : Int).toNat : List ByteArray)).bind fun y293 => (if y290.length + y293.length < 8796093022208 then (some (y290 ++ y293)) else (none)))) else (none))) else (none)) else (none)))) (insB x l) := by
  rw [insB_take i h1, Int.toNat_natCast, own _ (by simp; omega)]
  have hlen : (l.take i ++ [x]).length + (l.drop i).length = l.length + 1 := by simp; omega
  have hput : (l.take i).length < 8796093022208 := by simp; omega
  by_cases hlt : i < l.length
  · have hd : l.drop i = l[i] :: l.drop (i + 1) := List.drop_eq_getElem_cons hlt
    have hge : ltB l[i] x = false := h2 _ (hd ▸ List.mem_cons_self ..)
    refine Ev.pos (by omega) (Ev.pos (by omega) ?_)
    rw [rdS_nat hlt]
    by_cases e : l[i] = x
    · refine Ev.pos (by rw [e]) (Ev.val ?_)
      rw [hd, insB_cons_ge hge, if_pos e, ← hd, List.take_append_drop]
    · refine Ev.neg (fun h => e (toList_inj.mp h)) (Ev.pos (by omega) (Ev.vbind rfl (Ev.pos hput (Ev.vbind rfl (Ev.vbind rfl (Ev.pos (by omega) (Ev.val ?_)))))))
      rw [show insB x (l.drop i) = x :: l.drop i by rw [hd, insB_cons_ge hge, if_neg e]]
      simp
  · have hd : l.drop i = [] := List.drop_of_length_le (by omega)
    refine Ev.neg (by omega) (Ev.pos (by omega) (Ev.pos (by omega) (Ev.vbind rfl (Ev.pos hput (Ev.vbind rfl (Ev.vbind rfl (Ev.pos (by omega) (Ev.val ?_))))))))
    rw [hd]; simp [insB]
theorem own_f (m : List ByteArray) (h : m.length ≤ 1048576) : spec_l1OwnS.f m = some m := by
  unfold spec_l1OwnS.f
  rw [Option.bind_some, if_pos (by simp; omega)]; rfl
theorem wdPut_l0 (l : List ByteArray) (x : ByteArray) (hl : l.length ≤ 1048576) (hu : Up l) : ∀ (i : Nat), i ≤ l.length → (∀ y ∈ l.drop i, ltB y x = false) → Ev (fun k => spec_wdPut.l0 k l x (i : Int)) (insB x l)
  | 0, hi, h2 => by
    refine Ev.step (fun k => by rw [spec_wdPut.l0]) ?_
    refine Ev.neg (by omega) ?_
    exact put_tail l x hl 0 hi own_f (by simp) h2
  | i + 1, hi, h2 => by
    refine Ev.step (fun k => by rw [spec_wdPut.l0]) ?_
    have hj : wrap64 (((i + 1 : Nat) : Int) - 1) = (i : Int) := by rw [wrap_in (by omega) (by omega)]; omega
    rw [hj]
    refine Ev.pos (by omega) (Ev.pos (by omega) (Ev.pos (by omega) ?_))
    rw [rdS_nat (show i < l.length by omega)]
    refine Ev.ite (fun e => ?_) (fun e => ?_)
    · exact put_tail l x hl (i + 1) hi own_f (up_take_lt hu (by omega) hi e) h2
    · refine wdPut_l0 l x hl hu i (by omega) (fun y hy => ?_)
      rw [List.drop_eq_getElem_cons (show i < l.length by omega)] at hy
      rcases List.mem_cons.mp hy with rfl | hy
      · exact Bool.eq_false_iff.mpr e
      · exact h2 y hy
theorem wdPut_ev (l : List ByteArray) (x : ByteArray) (hl : l.length ≤ 1048576) (hu : Up l) : Ev (fun k => spec_wdPut.f k l x) (insB x l) :=
  wdPut_l0 l x hl hu l.length (Nat.le_refl _) (by rw [List.drop_of_length_le (Nat.le_refl _)]; simp)
end Go.Proofs.YtphdlbdmdokfaaaDoor.PA
