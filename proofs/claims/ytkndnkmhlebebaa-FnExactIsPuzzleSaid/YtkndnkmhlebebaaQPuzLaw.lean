/- The laws' own helpers over puzzles: copying keeps them, sizes are counted, equality is equality. No condition but bounds. -/
import Derived.Test.YtkndnkmhlebebaaPAx0
import Derived.Test.YtkndnkmhlebebaaPAx4
import Derived.Test.YtkndnkmhlebebaaPAx5
import Derived.Test.YtkndnkmhlebebaaPAx6
import Derived.Test.YtkndnkmhlebebaaPAx7
import Derived.Test.YtkndnkmhlebebaaQBase
namespace Go.Proofs.Ytkndnkmhlebebaa.PA
open Go.RowKit Go.Proofs.YtkndnkmhlebebaaW.PrintWords
set_option linter.unusedVariables false

def conv (x : S58) : S61 := ⟨x.f0, x.f1, x.f2⟩
theorem rdT_natL {l : List S58} {i : Nat} (h : i < l.length) : rd_T58 l (i : Int) = l[i] := by simp [rd_T58, h]
theorem rdT_natI {l : List S61} {i : Nat} (h : i < l.length) : rd_T61 l (i : Int) = l[i] := by simp [rd_T61, h]
theorem toClueS_l0 (l : List S58) (hl : l.length ≤ 4611686018427387903) : ∀ (d i : Nat) (x : List S61), i + d = l.length → x.length = l.length → x.take i = (l.map conv).take i → Ev (fun k => laws_toClueS.l0 k l x (i : Int)) (l.map conv)
  | 0, i, x, h, hx, ht => by
    refine Ev.step (fun k => by rw [laws_toClueS.l0]) ?_
    refine Ev.neg (by omega) (Ev.val ?_)
    rw [List.take_of_length_le (by omega), List.take_of_length_le (by simp; omega)] at ht
    rw [ht]
  | d + 1, i, x, h, hx, ht => by
    refine Ev.step (fun k => by rw [laws_toClueS.l0]) ?_
    refine Ev.pos (by omega) (Ev.pos (by omega) (Ev.vbind rfl (Ev.pos (by omega) ?_)))
    rw [rdT_natL (show i < l.length by omega), wrap_nat (by omega), Int.toNat_natCast]
    refine toClueS_l0 l hl d (i + 1) _ (by omega) (by simpa using hx) ?_
    rw [take_succ_get (by simp; omega), take_succ_get (show i < (l.map conv).length by simp; omega), List.take_set_of_le (Nat.le_refl _), ht]
    simp [conv]
theorem toClueS_ev {l : List S58} (hl : l.length ≤ 1048576) : Ev (fun k => laws_toClueS.f k l) (l.map conv) := by
  unfold laws_toClueS.f
  refine Ev.pos (by omega) (Ev.pos (by omega) ?_)
  exact toClueS_l0 l (by omega) l.length 0 _ (by omega) (by simp) (by simp)
theorem toPuzzle_ev {d : Int} {l : List S58} (hl : l.length ≤ 1048576) : Ev (fun k => laws_toPuzzle.f k d l) (d, l.map conv) := by
  unfold laws_toPuzzle.f
  exact Ev.bind (toClueS_ev hl) (Ev.val rfl)
theorem S_ext {a b : S61} (h0 : a.f0 = b.f0) (h1 : a.f1 = b.f1) (h2 : a.f2 = b.f2) : a = b := by
  cases a; cases b; simp at h0 h1 h2; simp [h0, h1, h2]
theorem eqClueS_l0 (a : List S61) (hl : a.length ≤ 4611686018427387903) : ∀ (d i : Nat), i + d = a.length → Ev (fun k => laws_eqClueS.l0 k a a (i : Int)) true
  | 0, i, h => by
    refine Ev.step (fun k => by rw [laws_eqClueS.l0]) ?_
    exact Ev.neg (by omega) (Ev.val rfl)
  | d + 1, i, h => by
    refine Ev.step (fun k => by rw [laws_eqClueS.l0]) ?_
    refine Ev.pos (by omega) (Ev.pos (by omega) (Ev.pos (by omega) ?_))
    rw [wrap_nat (by omega)]
    refine Ev.vbind (a := true) (by unfold laws_eqClue.f; rw [if_pos rfl, if_pos rfl, if_pos rfl]) (Ev.pos rfl ?_)
    exact eqClueS_l0 a hl d (i + 1) (by omega)
theorem eqPuzzle_ev {d : Int} {a : List S61} (hl : a.length ≤ 1048576) : Ev (fun k => laws_eqPuzzle.f k d a d a) true := by
  unfold laws_eqPuzzle.f laws_eqClueS.f
  exact Ev.pos rfl (Ev.bind (Ev.pos rfl (eqClueS_l0 a (by omega) a.length 0 (by omega))) (Ev.pos rfl (Ev.val rfl)))
theorem szPuzzle_f {d : Int} {l : List S58} (hl : l.length ≤ maxLen) : ∃ v, laws_szPuzzle.f d l 1048576 = some v ∧ (v < 0 ∨ l.length ≤ 1048576) := by
  unfold maxLen at hl
  unfold laws_szPuzzle.f laws_szClueS.f
  have hw : wrap64 (1048576 - (l.length : Int)) = 1048576 - (l.length : Int) := wrap_in (by omega) (by omega)
  rw [hw]
  by_cases e : 1048576 - (l.length : Int) < 0
  · rw [if_pos e, Option.bind_some, if_pos (by omega)]; exact ⟨-1, rfl, .inl (by omega)⟩
  · rw [if_neg e, Option.bind_some, if_neg e]; exact ⟨_, rfl, .inr (by omega)⟩
end Go.Proofs.Ytkndnkmhlebebaa.PA
