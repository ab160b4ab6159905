/- The laws' own helpers over lists of texts: copying keeps them, sizes are counted, equality is equality. No condition but bounds. -/
import Derived.Test.YtphdlbdmdokfaaaDoorPAx0
import Derived.Test.YtphdlbdmdokfaaaDoorPAx1
import Derived.Test.YtphdlbdmdokfaaaDoorPAx2
import Derived.Test.YtphdlbdmdokfaaaDoorQBase
namespace Go.Proofs.YtphdlbdmdokfaaaDoor.PA
open Go.RowKit Go.Proofs.YtphdlbdmdokfaaaDoorW.PrintWords
set_option linter.unusedVariables false

theorem toStringS_l0 (l : List ByteArray) (hl : l.length ≤ 4611686018427387903) : ∀ (d i : Nat) (x : List ByteArray), i + d = l.length → x.length = l.length → x.take i = l.take i → Ev (fun k => laws_toStringS.l0 k l x (i : Int)) l
  | 0, i, x, h, hx, ht => by
    refine Ev.step (fun k => rfl) ?_
    refine Ev.neg (by omega) (Ev.val ?_)
    rw [List.take_of_length_le (by omega), List.take_of_length_le (by omega)] at ht
    rw [ht]
  | d + 1, i, x, h, hx, ht => by
    refine Ev.step (fun k => rfl) ?_
    refine Ev.pos (by omega) (Ev.pos (by omega) (Ev.pos (by omega) ?_))
    rw [rdS_nat (show i < l.length by omega), wrap_nat (by omega), Int.toNat_natCast]
    refine toStringS_l0 l hl d (i + 1) _ (by omega) (by simpa using hx) ?_
    rw [take_succ_get (by simp; omega), take_succ_get (show i < l.length by omega), List.take_set_of_le (Nat.le_refl _), ht]
    simp
theorem toStringS_ev {l : List ByteArray} (hl : l.length ≤ 17592186044416) : Ev (fun k => laws_toStringS.f k l) l := by
  unfold laws_toStringS.f
  refine Ev.pos (by omega) (Ev.pos (by omega) ?_)
  exact toStringS_l0 l (by omega) l.length 0 _ (by omega) (by simp) (by simp)

theorem eqStringS_l0 (a b : List ByteArray) (hab : a.length = b.length) (hl : a.length ≤ 4611686018427387903) : ∀ (d i : Nat), i + d = a.length → a.take i = b.take i → Ev (fun k => laws_eqStringS.l0 k a b (i : Int)) (decide (a = b))
  | 0, i, h, ht => by
    refine Ev.step (fun k => rfl) ?_
    refine Ev.neg (by omega) (Ev.val ?_)
    rw [List.take_of_length_le (by omega), List.take_of_length_le (by omega)] at ht
    simp [ht]
  | d + 1, i, h, ht => by
    refine Ev.step (fun k => rfl) ?_
    refine Ev.pos (by omega) (Ev.pos (by omega) (Ev.pos (by omega) ?_))
    rw [rdS_nat (show i < a.length by omega), rdS_nat (show i < b.length by omega), wrap_nat (by omega)]
    refine Ev.ite (fun e => ?_) (fun e => Ev.val ?_)
    · refine eqStringS_l0 a b hab hl d (i + 1) (by omega) ?_
      rw [take_succ_get (by omega), take_succ_get (by omega), ht, toList_inj.mp e]
    · have : ¬ a = b := fun e2 => e (by subst e2; rfl)
      simp [this]
theorem eqStringS_ev {a b : List ByteArray} (hl : a.length ≤ 4611686018427387903) : Ev (fun k => laws_eqStringS.f k a b) (decide (a = b)) := by
  unfold laws_eqStringS.f
  refine Ev.ite (fun e => ?_) (fun e => Ev.val ?_)
  · exact eqStringS_l0 a b (by omega) hl a.length 0 (by omega) (by simp)
  · have : ¬ a = b := fun e2 => e (by rw [e2])
    simp [this]

theorem szStringS_l0 (l : List ByteArray) (hl : l.length ≤ 1048576) (hs : ∀ y ∈ l, y.size ≤ maxLen) : ∀ (d i : Nat) (x : Int), i + d = l.length → 0 ≤ x → x ≤ 1048576 → (∀ y ∈ l.take i, y.size ≤ 1048576) →
    ∃ v, Ev (fun k => laws_szStringS.l0 k l x (i : Int)) v ∧ (v < 0 ∨ ∀ y ∈ l, y.size ≤ 1048576)
  | 0, i, x, h, h0, hx, ht => by
    refine ⟨x, Ev.step (fun k => rfl) (Ev.neg (by omega) (Ev.val rfl)), .inr ?_⟩
    rwa [List.take_of_length_le (by omega)] at ht
  | d + 1, i, x, h, h0, hx, ht => by
    have hi : i < l.length := by omega
    have hm := hs l[i] (List.getElem_mem hi)
    unfold maxLen at hm
    by_cases e : wrap64 (x - (l[i].size : Int)) < 0
    · refine ⟨-1, Ev.step (fun k => rfl) (Ev.pos (by omega) (Ev.pos (by omega) ?_)), .inl (by omega)⟩
      rw [rdS_nat hi]
      exact Ev.pos e (Ev.val rfl)
    · have hw : wrap64 (x - (l[i].size : Int)) = x - (l[i].size : Int) := wrap_in (by omega) (by omega)
      obtain ⟨v, hv, hp⟩ := szStringS_l0 l hl hs d (i + 1) (x - (l[i].size : Int)) (by omega) (by omega) (by omega) (by
        rw [take_succ_get hi]
        intro y hy
        rcases List.mem_append.mp hy with hy | hy
        · exact ht y hy
        · rw [List.mem_singleton.mp hy]; omega)
      refine ⟨v, Ev.step (fun k => rfl) (Ev.pos (by omega) (Ev.pos (by omega) ?_)), hp⟩
      rw [rdS_nat hi, wrap_nat (by omega)]
      refine Ev.neg e ?_
      rw [hw]
      exact hv
theorem szStringS_ev {l : List ByteArray} (hl : l.length ≤ maxLen) (hs : ∀ y ∈ l, y.size ≤ maxLen) : ∃ v, Ev (fun k => laws_szStringS.f k l 1048576) v ∧ (v < 0 ∨ (l.length ≤ 1048576 ∧ ∀ y ∈ l, y.size ≤ 1048576)) := by
  unfold maxLen at hl
  by_cases e : wrap64 (1048576 - (l.length : Int)) < 0
  · exact ⟨-1, by unfold laws_szStringS.f; exact Ev.pos e (Ev.val rfl), .inl (by omega)⟩
  · have hw : wrap64 (1048576 - (l.length : Int)) = 1048576 - (l.length : Int) := wrap_in (by omega) (by omega)
    rw [hw] at e
    obtain ⟨v, hv, hp⟩ := szStringS_l0 l (by omega) hs l.length 0 (1048576 - (l.length : Int)) (by omega) (by omega) (by omega) (by simp)
    refine ⟨v, ?_, hp.imp id (fun h => ⟨by omega, h⟩)⟩
    unfold laws_szStringS.f
    rw [hw]
    exact Ev.neg e hv
end Go.Proofs.YtphdlbdmdokfaaaDoor.PA
