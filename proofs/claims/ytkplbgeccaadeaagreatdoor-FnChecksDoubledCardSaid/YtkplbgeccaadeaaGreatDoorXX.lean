/- Small plain facts that the contracts by hand lean on: the first element that answers yes; limits of rounds. No condition. -/
import Derived.Test.YtkplbgeccaadeaaGreatDoorWWords
namespace Go.Proofs.YtkplbgeccaadeaaGreatDoor.PA
open Go.RowKit Go.Proofs.YtkplbgeccaadeaaGreatDoorW.PrintWords
set_option linter.unusedVariables false
/-- the index of the first element that answers yes, or -1 -/
def idxO {α : Type} (pf : α → Option Bool) : List α → Int → Option Int
  | [], _ => some (-1)
  | x :: xs, i => (pf x).bind fun b => if b = true then some i else idxO pf xs (i + 1)
/-- does some element answer yes -/
def anyO {α : Type} (pf : α → Option Bool) : List α → Option Bool
  | [] => some false
  | x :: xs => (pf x).bind fun b => if b = true then some true else anyO pf xs
theorem idxO_any {α : Type} (pf : α → Option Bool) : ∀ (l : List α) (i : Int), 0 ≤ i → ∀ r, anyO pf l = some r → ∃ j, idxO pf l i = some j ∧ decide (0 ≤ j) = r
  | [], i, hi, r, h => ⟨-1, rfl, by simp [anyO] at h; subst h; decide⟩
  | x :: xs, i, hi, r, h => by
    simp only [anyO] at h
    obtain ⟨b, hb, h⟩ := Option.bind_eq_some_iff.mp h
    simp only [idxO, hb, Option.bind_some]
    cases b with
    | true => simp at h; subst h; exact ⟨i, by simp, by simpa using hi⟩
    | false => simp at h ⊢; obtain ⟨j, hj, e⟩ := idxO_any pf xs (i + 1) (by omega) r h; exact ⟨j, hj, by simpa using e⟩
theorem anyO_pure {α : Type} (p : α → Bool) (pf : α → Option Bool) : ∀ (l : List α), (∀ x ∈ l, pf x = some (p x)) → anyO pf l = some (l.any p)
  | [], _ => rfl
  | x :: xs, h => by
    simp only [anyO, h x (List.mem_cons_self ..), Option.bind_some, List.any_cons]
    cases hp : p x with
    | true => simp
    | false => simp; exact anyO_pure p pf xs (fun y hy => h y (List.mem_cons_of_mem _ hy))
theorem drop_cons {α : Type} {l : List α} {k : Nat} (h : k < l.length) : l.drop k = l[k] :: l.drop (k + 1) := List.drop_eq_getElem_cons h
/-- an address that holds a cell is a plain one, below the heap's end -/
theorem addr_of_cell {w : World} {a : Addr} {v : Value} (h : w.cell? a = some v) : a = ⟨a.block, a.off, none⟩ ∧ a.block < w.heap.size := by
  obtain ⟨b, o, s⟩ := a
  unfold World.cell? at h
  simp only at h
  cases hb : w.heap[b]? with
  | none => rw [hb] at h; cases h
  | some x =>
    rw [hb] at h
    refine ⟨?_, (Array.getElem?_eq_some_iff.mp hb).1⟩
    cases s with
    | none => rfl
    | some s => cases x <;> simp at h
theorem add_plain (b o j : Nat) : (⟨b, o, none⟩ : Addr).add j = ⟨b, o + j, none⟩ := by
  unfold Addr.add
  by_cases h : j = 0
  · subst h; rfl
  · rw [if_neg h]
/-- a list of texts that is read, cell by cell: no element, or a plain address -/
theorem str_cells {w : World} {A : Option Addr} {l : List ByteArray} (h : Kd.C Kd.string w A l.length l) : l = [] ∨ ∃ b o, A = some ⟨b, o, none⟩ ∧ b < w.heap.size ∧ ∀ (j : Nat) x, l[j]? = some x → w.cell? ⟨b, o + j, none⟩ = some (.string x) := by
  cases l with
  | nil => exact .inl rfl
  | cons y l =>
    refine .inr ?_
    obtain ⟨ad, hA, h0⟩ := Kd.at_string h 0 (by omega) (by simp)
    rw [show (0 : Int).toNat = 0 from rfl] at h0
    have h0' : w.cell? ad = some (.string (rdOf ByteArray.empty (y :: l) 0)) := by simpa [Addr.add] using h0
    obtain ⟨e, hb⟩ := addr_of_cell h0'
    refine ⟨ad.block, ad.off, by rw [hA, ← e], hb, fun j x hj => ?_⟩
    have hlt : j < (y :: l).length := (List.getElem?_eq_some_iff.mp hj).1
    obtain ⟨ad', hA', hc⟩ := Kd.at_string h (j : Int) (by omega) (by omega)
    rw [hA] at hA'
    injection hA' with hA'
    subst hA'
    rw [Int.toNat_natCast] at hc
    rw [← add_plain, ← e, hc]
    congr 2
    rw [List.getElem?_eq_getElem hlt] at hj
    injection hj with hj
    subst hj
    simp only [rdOf, Int.toNat_natCast, List.getD_eq_getElem?_getD, List.getElem?_eq_getElem hlt, Option.getD_some]
theorem isEmpty_bne (l : List UInt8) : l.isEmpty = !(l != []) := by cases l <;> rfl
/-- facts carried to a later world (a squeezed print's words) -/
theorem qb {W0 W : World} {g : Nat} {o : Obj} (h : Aside0 (W0.heap[g]? = some o)) (k : W0.heap[g]? = some o → W.heap[g]? = some o := by (intro hq_; (with_reducible repeat (first | refine blk_drewN ?_ _ | refine blk_drew ?_ | refine blk_alloc ?_ _)); exact hq_)) : W.heap[g]? = some o := k h.out
theorem qbb {W0 W w1 : World} {g : Nat} {o : Obj} (h : Aside0 (W0.heap[g]? = some o)) (hb : Below W.heap.size W w1) (k : W0.heap[g]? = some o → W.heap[g]? = some o := by (intro hq_; (with_reducible repeat (first | refine blk_drewN ?_ _ | refine blk_drew ?_ | refine blk_alloc ?_ _)); exact hq_)) : Aside0 (w1.heap[g]? = some o) := ⟨blk_below (k h.out) hb⟩
theorem qw {u W0 W : World} (h : Aside0 (Below u.heap.size u W0)) (k : Below u.heap.size u W0 → Below u.heap.size u W := by (intro hq_; repeat (first | (with_reducible first | exact hq_ | apply below_alloc | apply pw_below_drewN | apply below_drew1 | refine below_set ?_ (Aside0.out (by assumption))) | exact hq_))) : Below u.heap.size u W := k h.out
theorem qr {α : Type} {d : Kd α} {e base : Nat} {ok : Nat → Prop} {W0 W : World} {v : Value} {xs : List α} (h : d.R e W0 base ok v xs) (k : d.R e W0 base ok v xs → d.R e W base ok v xs := by (intro hq_; (with_reducible repeat (first | apply Kd.R_alloc | apply Kd.R_drewN | apply Kd.R_drew)); exact hq_)) : d.R e W base ok v xs := k h
theorem bc {W : World} {g t : Nat} {cs : Array Value} {v : Option Value} (h : Aside0 (W.heap[g]? = some (.cells cs t (0, 0)))) (i : Nat) (e : cs[i]? = v := by rfl) : W.cell? ⟨g, i, none⟩ = v := (blk_cell h.out i).trans e
theorem leO_add {α : Type} {g : Nat → Option α} (m : ∀ k, LeO (g k) (g (k + 1))) {k : Nat} {r : α} (h : g k = some r) : ∀ j, g (k + j) = some r
  | 0 => h
  | j + 1 => m _ _ (leO_add m h j)
end Go.Proofs.YtkplbgeccaadeaaGreatDoor.PA
