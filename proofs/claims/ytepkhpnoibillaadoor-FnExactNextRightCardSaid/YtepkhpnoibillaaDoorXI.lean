/- Facts about a range over the ten digits' text: where the iterator stands, what lies beside it; a text with one digit more. No condition. -/
import Derived.Test.YtepkhpnoibillaaDoorWWords
import Derived.Lib.OthersKept
import Derived.Laws.RangeAny
namespace Go.Proofs.YtepkhpnoibillaaDoor.PA
open Go.RowKit Go.Proofs.YtepkhpnoibillaaDoorW.PrintWords
set_option linter.unusedVariables false

theorem below_iterAt {B : Nat} {w W : World} {it pos : Nat} {s : ByteArray} (h : Below B w W) (hi : B ≤ it) : Below B w (W.iterAt it s pos) :=
  ⟨h.os, h.tape, h.output, by rw [Go.Lib.iterAt_size]; exact h.size, fun k hk => (Go.Lib.iterAt_other W it k s pos (by omega)).trans (h.block k hk)⟩
theorem own_iterAt {W : World} {base e n : Nat} {v : Value} {xs : List Value} {it pos pos' : Nat} {s : ByteArray} (h : W.ownsRow base e 1 v n xs) (hi : W.heap[it]? = some (.stringIter s pos)) : (W.iterAt it s pos').ownsRow base e 1 v n xs := by
  refine ⟨h.1, ?_⟩
  rcases h.2 with h0 | ⟨g, cap, cur, hv, hg, hb, hn, hc, hs, ht⟩
  · exact .inl h0
  · refine .inr ⟨g, cap, cur, hv, hg, ?_, hn, hc, hs, ht⟩
    have hne : g ≠ it := fun e => by rw [e, hi] at hb; cases hb
    rw [Go.Lib.iterAt_other W it g s pos' hne]
    exact hb
theorem own_not_iter {W : World} {base e n : Nat} {v : Value} {xs : List Value} {it pos : Nat} {s : ByteArray} (h : W.ownsRow base e 1 v n xs) (hi : W.heap[it]? = some (.stringIter s pos)) : some it ≠ v.ownBlock := by
  rcases h.2 with ⟨rfl, _⟩ | ⟨g, cap, cur, rfl, hg, hb, _⟩
  · simp [Value.ownBlock]
  · intro e
    have : it = g := by simpa [Value.ownBlock] using e
    rw [← this, hi] at hb
    cases hb
def digS : ByteArray := ⟨#[48, 49, 50, 51, 52, 53, 54, 55, 56, 57]⟩
def moreD (a1 : ByteArray) (d : Nat) : ByteArray := a1 ++ digS.extract d (d + 1)
def moreS (a1 : ByteArray) (m : Nat) : List ByteArray := (List.range m).map (moreD a1)
theorem moreS_succ (a1 : ByteArray) (m : Nat) : moreS a1 (m + 1) = moreS a1 m ++ [moreD a1 m] := by simp [moreS, List.range_succ]
/-- the first d, of so many, at which something answers with yes -/
def firstO (g : Nat → Option (ByteArray × Bool)) : Nat → Nat → Option (ByteArray × Bool)
  | 0, _ => some (⟨#[]⟩, false)
  | m + 1, d => (g d).bind fun r => if r.2 = true then some (r.1, true) else firstO g m (d + 1)
theorem firstO_leO {g h : Nat → Option (ByteArray × Bool)} (hg : ∀ d, LeO (g d) (h d)) : ∀ m d, LeO (firstO g m d) (firstO h m d)
  | 0, d => LeO.refl _
  | m + 1, d => LeO.bind (hg d) (fun r => LeO.ite (LeO.refl _) (firstO_leO hg m (d + 1)))
end Go.Proofs.YtepkhpnoibillaaDoor.PA
