/- How many codes are free: the reference counts its sorted list of starts, the program its set. No condition but bounds. -/
import Derived.Test.YthhngfnamkebmaaDoorPAx0
import Derived.Test.YthhngfnamkebmaaDoorPAx8
import Derived.Test.YthhngfnamkebmaaDoorPAx15
import Derived.Test.YthhngfnamkebmaaDoorQPart
import Derived.Test.YthhngfnamkebmaaDoorQPut
namespace Go.Proofs.YthhngfnamkebmaaDoor.PA
open Go.RowKit Go.Proofs.YthhngfnamkebmaaDoorW.PrintWords
set_option linter.unusedVariables false

def keyS (s : ByteArray) : Lit := .string s.data.toList
/-- the keys that were put into the set, and the sorted list, hold the same texts -/
structure Alike (ks : List Lit) (B : List ByteArray) : Prop where
  up : Up B
  keys : ∀ x ∈ ks, WideAt.IsKeyLit x
  mem : ∀ s, (ks.foldl Go.Maps.addKey []).any (fun y => y.sameKey (keyS s)) = true ↔ s ∈ B
  len : (ks.foldl Go.Maps.addKey []).length = B.length
theorem Alike.nil : Alike [] [] := ⟨List.Pairwise.nil, by simp, by simp, rfl⟩
theorem same_key (a b : ByteArray) : (keyS a).sameKey (keyS b) = true ↔ b = a := by
  unfold keyS Lit.sameKey
  rw [beq_iff_eq]
  exact ⟨fun h => (ba_ext h).symm, fun h => by rw [h]⟩
theorem Alike.put {ks : List Lit} {B : List ByteArray} (h : Alike ks B) (x : ByteArray) : Alike (ks ++ [keyS x]) (insB x B) := by
  refine ⟨up_insB h.up, ?_, ?_, ?_⟩
  · intro y hy
    rcases List.mem_append.mp hy with hy | hy
    · exact h.keys y hy
    · rw [List.mem_singleton.mp hy]; trivial
  · intro s
    rw [List.foldl_append, List.foldl_cons, List.foldl_nil, Go.Maps.addKey, mem_insB]
    by_cases hx : x ∈ B
    · rw [if_pos ((h.mem x).mpr hx), h.mem]
      exact ⟨.inr, fun e => e.elim (fun e => e ▸ hx) id⟩
    · rw [if_neg (fun e => hx ((h.mem x).mp e)), List.any_append, Bool.or_eq_true, h.mem]
      simp only [List.any_cons, List.any_nil, Bool.or_false, same_key]
      exact Or.comm
  · rw [List.foldl_append, List.foldl_cons, List.foldl_nil, Go.Maps.addKey]
    by_cases hx : x ∈ B
    · rw [if_pos ((h.mem x).mpr hx), insB_in h.up hx, h.len]
    · rw [if_neg (fun e => hx ((h.mem x).mp e)), len_insB hx, List.length_append, h.len]; rfl
theorem Alike.size {ks : List Lit} {B : List ByteArray} (h : Alike ks B) : Go.Maps.size (impl_freeCodes.S (H := Unit) ks) = B.length := by
  unfold impl_freeCodes.S
  rw [Go.Maps.size_setOf _ _ h.keys, h.len]
theorem len_insB_le (x : ByteArray) (B : List ByteArray) (hu : Up B) : (insB x B).length ≤ B.length + 1 := by
  by_cases hx : x ∈ B
  · rw [insB_in hu hx]; omega
  · rw [len_insB hx]; omega
section
variable (l : List ByteArray) (hl : l.length ≤ 20) (hs : ∀ y ∈ l, y.size ≤ 6) (n : Nat) (hn : n ≤ 6)
include hl hs hn
theorem free_l0 : ∀ (d i : Nat) (x : Int) (B : List ByteArray) (ks : List Lit), i + d = l.length → Alike ks B → B.length ≤ i → -1000000000000 * (i : Int) ≤ x → x ≤ 1000000000000 →
    ∃ v, Ev (fun k => spec_plFree.l0 k (n : Int) x B l (l.length : Int) (i : Int)) v ∧ Ev (fun k => impl_freeCodes.go k (n : Int) (l.drop i) x ks) v
  | 0, i, x, B, ks, h, ha, _, _, _ => by
    refine ⟨wrap64 (x - (B.length : Int)), ?_, ?_⟩
    · refine Ev.step (fun k => by rw [spec_plFree.l0]) ?_
      exact Ev.neg (by omega) (Ev.val rfl)
    · rw [List.drop_of_length_le (by omega)]
      unfold impl_freeCodes.go
      exact Ev.val (by rw [ha.size])
  | d + 1, i, x, B, ks, h, ha, hB, hx1, hx2 => by
    have hi : i < l.length := by omega
    have hy := hs _ (List.getElem_mem hi)
    have hd : l.drop i = l[i] :: l.drop (i + 1) := List.drop_eq_getElem_cons hi
    have hr := room_ev l[i] n (by omega)
    by_cases hz : l[i].size ≤ n
    · have hp := p10_le (n - l[i].size) (by omega)
      have hrv : roomV l[i] n = p10 (n - l[i].size) := by unfold roomV; rw [if_neg (by omega)]
      rw [hrv] at hr
      obtain ⟨v, h1, h2⟩ := free_l0 d (i + 1) (x - p10 (n - l[i].size)) B ks (by omega) ha (by omega) (by omega) (by omega)
      refine ⟨v, ?_, ?_⟩
      · refine Ev.step (fun k => by rw [spec_plFree.l0]) ?_
        refine Ev.pos (by omega) (Ev.pos (by omega) (Ev.pos (by omega) ?_))
        rw [rdS_nat hi, wrap_nat (by omega)]
        refine Ev.pos (by omega) ?_
        rw [wrap_in (n := (n : Int) - (l[i].size : Int)) (by omega) (by omega), show (n : Int) - (l[i].size : Int) = ((n - l[i].size : Nat) : Int) by omega]
        refine Ev.bind (plTens_ev _ (by omega)) ?_
        rw [wrap_in (by omega) (by omega)]
        exact h1
      · rw [hd]
        unfold impl_freeCodes.go
        refine Ev.bind hr (Ev.neg (by omega) ?_)
        rw [wrap_in (by omega) (by omega)]
        exact h2
    · have hrv : roomV l[i] n = 0 := by unfold roomV; rw [if_pos (by omega)]
      rw [hrv] at hr
      obtain ⟨v, h1, h2⟩ := free_l0 d (i + 1) x (insB (l[i].extract 0 n) B) (ks ++ [keyS (l[i].extract 0 n)]) (by omega) (ha.put _) (by have := len_insB_le (l[i].extract 0 n) B ha.up; omega) (by omega) (by omega)
      refine ⟨v, ?_, ?_⟩
      · refine Ev.step (fun k => by rw [spec_plFree.l0]) ?_
        refine Ev.pos (by omega) (Ev.pos (by omega) (Ev.pos (by omega) ?_))
        rw [rdS_nat hi, wrap_nat (by omega)]
        refine Ev.neg (by omega) (Ev.pos (by omega) (Ev.pos (by omega) ?_))
        rw [Int.toNat_natCast]
        exact Ev.bind (wdPut_ev B _ (by omega) ha.up) h1
      · rw [hd]
        unfold impl_freeCodes.go
        refine Ev.bind hr (Ev.pos (by omega) (Ev.pos (by omega) ?_))
        rw [Int.sub_zero, wrap_in (by omega) (by omega), Int.toNat_natCast]
        exact h2
theorem freeCodes_of (p v : Int) (hp : p = p10 n) (h : Ev (fun k => impl_freeCodes.go k (n : Int) l p []) v) : Ev (fun k => impl_freeCodes.f k l (n : Int)) v := by
  subst hp
  unfold impl_freeCodes.f
  exact Ev.pos ⟨by omega, fun c hc => by have := hs c hc; omega⟩ (Ev.bind (power_ev n (by omega)) h)
theorem free_ev : ∃ v, Ev (fun k => spec_plFree.f k l (n : Int)) v ∧ Ev (fun k => impl_freeCodes.f k l (n : Int)) v := by
  have hp := p10_le n (by omega)
  obtain ⟨v, h1, h2⟩ := free_l0 l hl hs n hn l.length 0 (p10 n) [] [] (by omega) Alike.nil (by simp) (by omega) (by omega)
  rw [List.drop_zero] at h2
  exact ⟨v, Ev.bind (plTens_ev n (by omega)) h1, freeCodes_of l hl hs n hn _ _ rfl h2⟩
end
/-- where no code is longer, what is left is a plain difference -/
def partN (n : Nat) (l : List ByteArray) : Int := (l.map (fun c => p10 (n - c.size))).sum
theorem go_short (n : Nat) (hn : n ≤ 6) (l : List ByteArray) : ∀ (x : Int), l.length ≤ 20 → (∀ c ∈ l, c.size ≤ n) → -20000000000000 + 1000000000000 * (l.length : Int) ≤ x → x ≤ 1000000000000 → Ev (fun k => impl_freeCodes.go k (n : Int) l x []) (x - partN n l) := by
  induction l with
  | nil =>
    intro x _ _ h1 h2
    unfold impl_freeCodes.go
    refine Ev.val ?_
    rw [Alike.nil.size]
    simp only [List.length_nil] at h1 ⊢
    rw [wrap_in (by omega) (by omega)]
    simp [partN]
  | cons c l ih =>
    intro x hl hs h1 h2
    have hc := hs c (List.mem_cons_self ..)
    have hp := p10_le (n - c.size) (by omega)
    have hr := room_ev c n (by omega)
    rw [show roomV c n = p10 (n - c.size) by unfold roomV; rw [if_neg (by omega)]] at hr
    simp only [List.length_cons] at hl h1
    unfold impl_freeCodes.go
    refine Ev.bind hr (Ev.neg (by omega) ?_)
    rw [wrap_in (by omega) (by omega)]
    refine Ev.eq (ih (x - p10 (n - c.size)) (by omega) (fun y hy => hs y (List.mem_cons_of_mem _ hy)) (by omega) (by omega)) ?_
    simp only [partN, List.map_cons, List.sum_cons]
    omega
end Go.Proofs.YthhngfnamkebmaaDoor.PA
