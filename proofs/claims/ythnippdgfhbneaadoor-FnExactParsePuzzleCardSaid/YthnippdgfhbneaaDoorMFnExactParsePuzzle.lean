/- The plain facts that the law FnExactParsePuzzle's proof leans on, in one text: each part has its own sentence. No condition but bounds. -/
import Derived.Test.YthnippdgfhbneaaDoorPAx0
import Derived.Test.YthnippdgfhbneaaDoorPAx1
import Derived.Test.YthnippdgfhbneaaDoorPAx2
import Derived.Test.YthnippdgfhbneaaDoorPAx3
import Derived.Test.YthnippdgfhbneaaDoorPAx4
import Derived.Test.YthnippdgfhbneaaDoorPAx5
import Derived.Test.YthnippdgfhbneaaDoorPAx6
import Derived.Test.YthnippdgfhbneaaDoorPAx7
import Derived.Lib.Strings
import Derived.Test.YthnippdgfhbneaaDoorWWords
import Derived.Test.YthnippdgfhbneaaDoorWMore
import Derived.Test.YthnippdgfhbneaaDoorXX
import Derived.Lib.SplitLaws
import Derived.Lib.IndexBytes
import Derived.Lib.Join
import Derived.Lib.IndexLaws
/-! Plain facts that the laws' pure proofs share: answers from some number of rounds on, numbers without wrap, strings as lists of bytes. No condition. -/
namespace Go.Proofs.YthnippdgfhbneaaDoor.PA
open Go.RowKit Go.Proofs.YthnippdgfhbneaaDoorW.PrintWords
set_option linter.unusedVariables false

theorem Ev.pos {α : Type} {c : Prop} [Decidable c] {a b : Nat → Option α} {r : α} (hc : c) (h : Ev a r) : Ev (fun k => if c then a k else b k) r := Ev.congr (fun k => if_pos hc) h
theorem Ev.neg {α : Type} {c : Prop} [Decidable c] {a b : Nat → Option α} {r : α} (hc : ¬ c) (h : Ev b r) : Ev (fun k => if c then a k else b k) r := Ev.congr (fun k => if_neg hc) h
theorem Ev.ite {α : Type} {c : Prop} [Decidable c] {a b : Nat → Option α} {r : α} (h1 : c → Ev a r) (h2 : ¬ c → Ev b r) : Ev (fun k => if c then a k else b k) r := by
  by_cases hc : c
  · exact Ev.pos hc (h1 hc)
  · exact Ev.neg hc (h2 hc)
theorem Ev.val {α : Type} {o : Option α} {r : α} (h : o = some r) : Ev (fun _ => o) r := ⟨0, fun _ _ => h⟩
theorem Ev.vbind {α β : Type} {o : Option α} {f : Nat → α → Option β} {a : α} {r : β} (h : o = some a) (k : Ev (fun n => f n a) r) : Ev (fun n => o.bind (f n)) r := Ev.bind (g := fun _ => o) (Ev.val h) k
theorem Ev.unique {α : Type} {g : Nat → Option α} {a b : α} (h : Ev g a) (k : Ev g b) : a = b := by
  obtain ⟨K, h⟩ := h
  obtain ⟨K', k⟩ := k
  exact Option.some.inj ((h (max K K') (Nat.le_max_left _ _)).symm.trans (k (max K K') (Nat.le_max_right _ _)))
theorem Ev.eq {α : Type} {g : Nat → Option α} {a b : α} (h : Ev g a) (e : a = b) : Ev g b := e ▸ h

theorem wrap_nat {i : Nat} (h : i < 4611686018427387904) : wrap64 ((i : Int) + 1) = ((i + 1 : Nat) : Int) := by unfold wrap64; omega
theorem wrap_in {n : Int} (h : -9223372036854775808 ≤ n) (h2 : n ≤ 9223372036854775807) : wrap64 n = n := by unfold wrap64; omega
theorem rd_nat {l : List Int} {i : Nat} (h : i < l.length) : rd l (i : Int) = l[i] := by simp [rd, h]
theorem rdS_nat {l : List ByteArray} {i : Nat} (h : i < l.length) : rdOf ByteArray.empty l (i : Int) = l[i] := by simp [rdOf, h]
theorem bt_nat {s : ByteArray} {i : Nat} (h : i < s.size) : bt s (i : Int) = ((s.data.toList[i]'(by simpa using h)).toNat : Int) := by
  unfold bt
  rw [dif_pos (by simpa using h)]
  rfl
theorem toList_data (s : ByteArray) : s.toList = s.data.toList := Go.Lib.toList_data s
theorem size_data (s : ByteArray) : s.size = s.data.toList.length := rfl
theorem ba_ext {a b : ByteArray} (h : a.data.toList = b.data.toList) : a = b := by
  cases a with
  | mk a => cases b with
    | mk b => exact congrArg ByteArray.mk (Array.toList_inj.mp h)
theorem toList_inj {a b : ByteArray} : a.toList = b.toList ↔ a = b := ⟨fun h => ba_ext (by rw [← toList_data, ← toList_data, h]), fun h => by rw [h]⟩
theorem toList_mk (l : List UInt8) : (⟨l.toArray⟩ : ByteArray).toList = l := by rw [toList_data]
theorem data_extract (s : ByteArray) (a b : Nat) : (s.extract a b).data.toList = (s.data.toList.take b).drop a := by
  rw [ByteArray.data_extract, Array.toList_extract, List.extract_eq_take_drop, List.drop_take]
theorem data_append (a b : ByteArray) : (a ++ b).data.toList = a.data.toList ++ b.data.toList := by
  rw [ByteArray.data_append, Array.toList_append]
theorem size_append (a b : ByteArray) : (a ++ b).size = a.size + b.size := by rw [size_data, data_append, List.length_append]; rfl
theorem take_succ_get {α : Type} {l : List α} {i : Nat} (h : i < l.length) : l.take (i + 1) = l.take i ++ [l[i]] := by
  rw [List.take_add_one, List.getElem?_eq_getElem h]; rfl

/-- digits alone -/
def digB (c : UInt8) : Bool := decide (48 ≤ c.toNat) && decide (c.toNat ≤ 57)
def digitsB (s : ByteArray) (lo hi : Int) : Bool := decide (lo ≤ (s.size : Int)) && decide ((s.size : Int) ≤ hi) && s.data.toList.all digB
theorem contains_dig (c : UInt8) : ([48, 49, 50, 51, 52, 53, 54, 55, 56, 57] : List UInt8).contains c = digB c := by
  have h : ∀ n : Fin 256, ([48, 49, 50, 51, 52, 53, 54, 55, 56, 57] : List UInt8).contains (UInt8.ofNat n.val) = digB (UInt8.ofNat n.val) := by decide +kernel
  have := h ⟨c.toNat, c.toNat_lt⟩
  simpa using this
end Go.Proofs.YthnippdgfhbneaaDoor.PA

/-! A text cut at one byte: the library's pieces, told along the text. No condition. -/
namespace Go.Proofs.YthnippdgfhbneaaDoor.PA
open Go.RowKit Go.Proofs.YthnippdgfhbneaaDoorW.PrintWords
set_option linter.unusedVariables false

/-- the pieces between a byte, the first with something ahead of it -/
def cutL (c : UInt8) : List UInt8 → List UInt8 → List (List UInt8)
  | p, [] => [p]
  | p, b :: l => if b = c then p :: cutL c [] l else cutL c (p ++ [b]) l
theorem cutL_head (c : UInt8) : ∀ (l p : List UInt8), ∃ q r, cutL c [] l = q :: r ∧ cutL c p l = (p ++ q) :: r
  | [], p => ⟨[], [], rfl, by simp [cutL]⟩
  | b :: l, p => by
    by_cases h : b = c
    · exact ⟨[], cutL c [] l, by simp [cutL, h], by simp [cutL, h]⟩
    · obtain ⟨q, r, e1, e2⟩ := cutL_head c l [b]
      obtain ⟨q', r', e3, e4⟩ := cutL_head c l (p ++ [b])
      rw [e1] at e3
      injection e3 with e5 e6
      subst e5 e6
      refine ⟨[b] ++ q, r, ?_, ?_⟩
      · rw [cutL, if_neg h]; exact e2
      · rw [cutL, if_neg h, e4, List.append_assoc]
theorem splitK_cut (c : UInt8) : ∀ (l : List UInt8), Lib.splitK [c] 0 (Lib.count l [c]) l = cutL c [] l
  | [] => by rw [Lib.count_one]; rfl
  | b :: l => by
    have ih := splitK_cut c l
    by_cases h : b = c
    · subst h
      have hix : Lib.index (b :: l) [b] = 0 := by rw [Lib.index]; simp [List.isPrefixOf]
      rw [Lib.count_cons_eq, Nat.add_comm, Lib.splitK, hix]
      simp only [cutL, if_true]
      rw [if_neg (by decide), ← ih]
      rfl
    · have hp : ([c] : List UInt8).isPrefixOf (b :: l) = false := by simp [List.isPrefixOf, Ne.symm h]
      have hix : Lib.index (b :: l) [c] = if Lib.index l [c] == -1 then -1 else Lib.index l [c] + 1 := by rw [Lib.index, hp]; simp
      obtain ⟨q, r, e1, e2⟩ := cutL_head c l [b]
      have hcut : cutL c [] (b :: l) = ([b] ++ q) :: r := by rw [cutL, if_neg h]; exact e2
      rw [Lib.count_cons_ne b c l h, hcut]
      rw [e1] at ih
      cases hk : Lib.count l [c] with
      | zero =>
        rw [hk, Lib.splitK] at ih
        injection ih with i1 i2
        subst i1 i2
        rfl
      | succ k =>
        rw [hk, Lib.splitK] at ih
        rw [Lib.splitK, hix]
        by_cases hm : Lib.index l [c] = -1
        · rw [Lib.count_miss hm] at hk; omega
        · have hge := Lib.index_ge l [c]
          rw [if_neg (fun e => hm (beq_iff_eq.1 e))] at ih
          rw [if_neg (fun e => hm (beq_iff_eq.1 e)), if_neg (fun e => by have := beq_iff_eq.1 e; omega)]
          injection ih with i1 i2
          obtain ⟨j, hj⟩ : ∃ j : Nat, Lib.index l [c] = j := ⟨(Lib.index l [c]).toNat, by omega⟩
          rw [hj] at i1 i2 ⊢
          have e3 : ((j : Int) + 1).toNat = j + 1 := by omega
          rw [e3]
          simp only [Int.toNat_natCast, List.length_singleton, Nat.add_zero] at i1 i2 ⊢
          rw [show j + 1 + 1 = (j + 1) + 1 from rfl, List.drop_succ_cons, List.take_succ_cons, i1, i2]
          rfl
/-- the pieces as texts -/
def cutT (c : UInt8) (s : ByteArray) : List ByteArray := (cutL c [] s.data.toList).map fun l => ⟨l.toArray⟩
theorem split_cut (c : UInt8) (s : ByteArray) : Lib.splitB ⟨#[c]⟩ 0 (Lib.countB s ⟨#[c]⟩) s = cutT c s := by
  have h := Lib.splitB_data ⟨#[c]⟩ 0 (Lib.countB s ⟨#[c]⟩) s
  have h2 := splitK_cut c s.data.toList
  unfold cutT
  rw [← h2]
  have e : (Lib.splitB ⟨#[c]⟩ 0 (Lib.countB s ⟨#[c]⟩) s).map (fun x => (⟨x.data.toList.toArray⟩ : ByteArray)) = Lib.splitB ⟨#[c]⟩ 0 (Lib.countB s ⟨#[c]⟩) s := by
    have : (fun x : ByteArray => (⟨x.data.toList.toArray⟩ : ByteArray)) = id := by funext x; exact ba_ext (by simp)
    rw [this, List.map_id]
  rw [← e]
  have h3 := congrArg (List.map fun l => (⟨l.toArray⟩ : ByteArray)) h
  rw [List.map_map] at h3
  exact h3
theorem cutL_len (c : UInt8) : ∀ (l p : List UInt8), ((cutL c p l).map List.length).sum + (cutL c p l).length = p.length + l.length + 1
  | [], p => by simp [cutL]
  | b :: l, p => by
    by_cases h : b = c
    · have ih := cutL_len c l []
      simp only [cutL, h, if_true, List.map_cons, List.sum_cons, List.length_cons, List.length_nil] at ih ⊢
      omega
    · have ih := cutL_len c l (p ++ [b])
      simp only [cutL, h, if_false, List.length_append, List.length_cons, List.length_nil] at ih ⊢
      omega
theorem sum_le {l : List (List UInt8)} {m : Nat} (h : ∀ x ∈ l, x.length ≤ m) : (l.map List.length).sum ≤ m * l.length := by
  induction l with
  | nil => simp
  | cons a l ih =>
    have h1 := h a (by simp)
    have h2 := ih (fun x hx => h x (by simp [hx]))
    simp only [List.map_cons, List.sum_cons, List.length_cons, Nat.mul_add, Nat.mul_one]
    omega
theorem cutT_small (c : UInt8) (s : ByteArray) (n m : Nat) (h1 : (cutT c s).length ≤ n) (h2 : ∀ x ∈ cutT c s, x.size ≤ m) : s.size + 1 ≤ m * n + n := by
  have hl := cutL_len c s.data.toList []
  have hlen : (cutT c s).length = (cutL c [] s.data.toList).length := by unfold cutT; rw [List.length_map]
  have hs := sum_le (l := cutL c [] s.data.toList) (m := m) (fun x hx => h2 ⟨x.toArray⟩ (List.mem_map.mpr ⟨x, hx, rfl⟩))
  have hmul : m * (cutL c [] s.data.toList).length ≤ m * n := Nat.mul_le_mul_left m (by omega)
  rw [size_data]
  simp only [List.length_nil] at hl
  omega
theorem cutT_len (c : UInt8) (s : ByteArray) : (cutT c s).length ≤ s.size + 1 := by
  have hl := cutL_len c s.data.toList []
  unfold cutT
  rw [List.length_map, size_data]
  simp only [List.length_nil] at hl
  omega
theorem mem_le_sum : ∀ {l : List Nat} {n : Nat}, n ∈ l → n ≤ l.sum
  | a :: l, n, h => by
    rw [List.sum_cons]
    rcases List.mem_cons.mp h with rfl | h
    · omega
    · have := mem_le_sum h; omega
theorem cutT_size (c : UInt8) (s : ByteArray) : ∀ x ∈ cutT c s, x.size ≤ s.size := by
  intro x hx
  have hl := cutL_len c s.data.toList []
  unfold cutT at hx
  obtain ⟨l, hm, rfl⟩ := List.mem_map.mp hx
  have h1 : l.length ≤ ((cutL c [] s.data.toList).map List.length).sum := mem_le_sum (List.mem_map.mpr ⟨l, hm, rfl⟩)
  have h2 : 1 ≤ (cutL c [] s.data.toList).length := List.length_pos_iff.mpr (fun e => by rw [e] at hm; simp at hm)
  simp only [List.length_nil] at hl
  show l.length ≤ _
  rw [size_data]
  omega
end Go.Proofs.YthnippdgfhbneaaDoor.PA

/-! Texts joined by commas, one after the other. No condition. -/
namespace Go.Proofs.YthnippdgfhbneaaDoor.PA
open Go.RowKit Go.Proofs.YthnippdgfhbneaaDoorW.PrintWords
set_option linter.unusedVariables false

/-- the texts, joined by commas -/
def commaT (l : List ByteArray) : ByteArray := ⟨(Lib.join (l.map (·.data.toList)) [44]).toArray⟩
theorem join_take_succ {l : List ByteArray} {i : Nat} (h : i + 1 < l.length) : Lib.join ((l.take (i + 2)).map (·.data.toList)) [44] = Lib.join ((l.take (i + 1)).map (·.data.toList)) [44] ++ [44] ++ l[i + 1].data.toList := by
  cases l with
  | nil => simp at h
  | cons a l =>
    have h' : i < l.length := by simpa using h
    simp only [List.take_succ_cons, List.map_cons, Lib.join_cons]
    rw [take_succ_get h', List.map_append]
    simp [Lib.joinTail]
theorem comma_size (l : List ByteArray) (hs : ∀ y ∈ l, y.size ≤ 6) : ∀ i, i ≤ l.length → (commaT (l.take i)).size ≤ 7 * i
  | 0, _ => Nat.le_refl _
  | 1, h => by
    have hy := hs _ (List.getElem_mem (show 0 < l.length by omega))
    cases l with
    | nil => simp at h
    | cons a l =>
      have e : commaT ((a :: l).take 1) = a := ba_ext (by simp [commaT, Lib.join_one])
      rw [e]; exact Nat.le_trans hy (by decide)
  | i + 2, h => by
    have ih := comma_size l hs (i + 1) (by omega)
    have hy := hs _ (List.getElem_mem (show i + 1 < l.length by omega))
    have e := join_take_succ (l := l) (i := i) (by omega)
    have : (commaT (l.take (i + 2))).size = (commaT (l.take (i + 1))).size + 1 + (l[i + 1]'(by omega)).size := by
      show (Lib.join _ _).length = (Lib.join _ _).length + 1 + _
      rw [e, List.length_append, List.length_append]; rfl
    omega
theorem app_nil (a : ByteArray) : a ++ (⟨#[]⟩ : ByteArray) = a := ba_ext (by rw [data_append]; exact List.append_nil _)
theorem app_assoc (a b c : ByteArray) : a ++ b ++ c = a ++ (b ++ c) := ba_ext (by simp only [data_append, List.append_assoc])
theorem comma_zero (l : List ByteArray) : commaT (l.take 0) = ⟨#[]⟩ := rfl
theorem comma_one {l : List ByteArray} (h : 0 < l.length) : commaT (l.take 1) = l[0] := by
  apply ba_ext
  cases l with
  | nil => simp at h
  | cons a l => simp [commaT, Lib.join_one]
theorem comma_more {l : List ByteArray} {i : Nat} (h : i + 1 < l.length) : commaT (l.take (i + 2)) = (commaT (l.take (i + 1)) ++ (⟨#[44]⟩ : ByteArray)) ++ l[i + 1] := by
  apply ba_ext
  rw [data_append, data_append]
  show Lib.join _ _ = Lib.join _ _ ++ [44] ++ _
  rw [join_take_succ h]
end Go.Proofs.YthnippdgfhbneaaDoor.PA

/-! Cutting at a byte and joining by it undo one another. No condition but that the parts hold no such byte. -/
namespace Go.Proofs.YthnippdgfhbneaaDoor.PA
open Go.RowKit Go.Proofs.YthnippdgfhbneaaDoorW.PrintWords
set_option linter.unusedVariables false

theorem cut_none (c : UInt8) : ∀ (l p : List UInt8), c ∉ l → cutL c p l = [p ++ l]
  | [], p, _ => by simp [cutL]
  | b :: l, p, h => by
    have h1 : ¬ b = c := fun e => h (by simp [e])
    rw [cutL, if_neg h1, cut_none c l (p ++ [b]) (fun e => h (by simp [e]))]
    simp
theorem cut_mid (c : UInt8) (r : List UInt8) : ∀ (l p : List UInt8), c ∉ l → cutL c p (l ++ c :: r) = (p ++ l) :: cutL c [] r
  | [], p, _ => by simp [cutL]
  | b :: l, p, h => by
    have h1 : ¬ b = c := fun e => h (by simp [e])
    rw [List.cons_append, cutL, if_neg h1, cut_mid c r l (p ++ [b]) (fun e => h (by simp [e]))]
    simp
theorem join_cons2 (x y : List UInt8) (r : List (List UInt8)) (c : UInt8) : Lib.join (x :: y :: r) [c] = x ++ c :: Lib.join (y :: r) [c] := by
  rw [Lib.join_cons, Lib.join_cons]
  simp [Lib.joinTail]
theorem cut_join (c : UInt8) : ∀ (L : List (List UInt8)), L ≠ [] → (∀ x ∈ L, c ∉ x) → cutL c [] (Lib.join L [c]) = L
  | [], h, _ => absurd rfl h
  | [x], _, h => by rw [Lib.join_one, cut_none c x [] (h x (by simp))]; simp
  | x :: y :: r, _, h => by
    rw [join_cons2, cut_mid c _ x [] (h x (by simp)), cut_join c (y :: r) (by simp) (fun z hz => h z (List.mem_cons_of_mem _ hz))]
    rfl
theorem join_cut (c : UInt8) : ∀ (l p : List UInt8), Lib.join (cutL c p l) [c] = p ++ l
  | [], p => by simp [cutL, Lib.join_one]
  | b :: l, p => by
    by_cases h : b = c
    · obtain ⟨q, r, e, _⟩ := cutL_head c l []
      rw [cutL, if_pos h, e, join_cons2, ← e, join_cut c l [], h]
      simp
    · rw [cutL, if_neg h, join_cut c l (p ++ [b])]
      simp
theorem mk_list (L : List ByteArray) : (L.map (·.data.toList)).map (fun l => (⟨l.toArray⟩ : ByteArray)) = L := by
  rw [List.map_map]
  have : ((fun l => (⟨l.toArray⟩ : ByteArray)) ∘ (·.data.toList)) = id := by funext x; exact ba_ext (by simp)
  rw [this, List.map_id]
theorem cutT_data (c : UInt8) (s : ByteArray) : (cutT c s).map (·.data.toList) = cutL c [] s.data.toList := by
  unfold cutT
  rw [List.map_map]
  have : ((·.data.toList) ∘ (fun l => (⟨l.toArray⟩ : ByteArray))) = id := by funext x; simp
  rw [this, List.map_id]
theorem comma_cut (s : ByteArray) : commaT (cutT 44 s) = s := by
  apply ba_ext
  show Lib.join ((cutT 44 s).map (·.data.toList)) [44] = _
  rw [cutT_data, join_cut]
  rfl
theorem cut_comma {L : List ByteArray} (h0 : L ≠ []) (h : ∀ x ∈ L, (44 : UInt8) ∉ x.data.toList) : cutT 44 (commaT L) = L := by
  unfold cutT
  show (cutL 44 [] (Lib.join (L.map (·.data.toList)) [44])).map _ = _
  rw [cut_join 44 _ (by simpa using h0) (by simpa using h), mk_list]
theorem join_no (b c : UInt8) (hbc : b ≠ c) : ∀ (L : List (List UInt8)), (∀ x ∈ L, b ∉ x) → b ∉ Lib.join L [c]
  | [], _ => by simp [Lib.join_nil]
  | [x], h => by rw [Lib.join_one]; exact h x (by simp)
  | x :: y :: r, h => by
    rw [join_cons2]
    have h1 := h x (by simp)
    have h2 := join_no b c hbc (y :: r) (fun z hz => h z (List.mem_cons_of_mem _ hz))
    simp only [List.mem_append, List.mem_cons, not_or]
    exact ⟨h1, hbc, h2⟩
theorem comma_no (b : UInt8) (hb : b ≠ 44) {L : List ByteArray} (h : ∀ x ∈ L, b ∉ x.data.toList) : b ∉ (commaT L).data.toList :=
  join_no b 44 hb _ (by simpa using h)
theorem join_len (c : UInt8) : ∀ (L : List (List UInt8)), (∀ x ∈ L, x.length ≤ 2) → (Lib.join L [c]).length ≤ 3 * L.length
  | [], _ => by simp [Lib.join_nil]
  | [x], h => by
    have := h x (by simp)
    rw [Lib.join_one]; simp only [List.length_cons, List.length_nil]; omega
  | x :: y :: r, h => by
    have h1 := h x (by simp)
    have h2 := join_len c (y :: r) (fun z hz => h z (List.mem_cons_of_mem _ hz))
    rw [join_cons2]
    simp only [List.length_append, List.length_cons] at h2 ⊢
    omega
theorem comma_len {L : List ByteArray} (h : ∀ x ∈ L, x.size ≤ 2) : (commaT L).size ≤ 3 * L.length := by
  have := join_len 44 (L.map (·.data.toList)) (by
    intro x hx
    obtain ⟨y, hy, rfl⟩ := List.mem_map.mp hx
    exact h y hy)
  rw [List.length_map] at this
  exact this
/-- cut in two -/
theorem cutT_two (c : UInt8) (a b : ByteArray) (ha : c ∉ a.data.toList) (hb : c ∉ b.data.toList) : cutT c ((a ++ (⟨#[c]⟩ : ByteArray)) ++ b) = [a, b] := by
  unfold cutT
  rw [data_append, data_append]
  rw [show a.data.toList ++ (⟨#[c]⟩ : ByteArray).data.toList ++ b.data.toList = a.data.toList ++ c :: b.data.toList by simp, cut_mid c _ _ [] ha, cut_none c _ [] hb]
  simp only [List.nil_append, List.map_cons, List.map_nil]
theorem cutT_pair {c : UInt8} {s a b : ByteArray} (h : cutT c s = [a, b]) : s = (a ++ (⟨#[c]⟩ : ByteArray)) ++ b := by
  apply ba_ext
  have e := cutT_data c s
  rw [h] at e
  have e2 := join_cut c s.data.toList []
  rw [← e] at e2
  simp only [List.map_cons, List.map_nil, join_cons2, Lib.join_one, List.nil_append] at e2
  rw [data_append, data_append, ← e2]
  simp
theorem index_mid (c : UInt8) (r : List UInt8) : ∀ (l : List UInt8), c ∉ l → Lib.indexByte (l ++ c :: r) c = (l.length : Int)
  | [], _ => by simp [Lib.indexByte]
  | b :: l, h => by
    have h1 : ¬ b = c := fun e => h (by simp [e])
    have ih := index_mid c r l (fun e => h (by simp [e]))
    rw [List.cons_append, Lib.indexByte, if_neg (by simpa using h1), ih, if_neg (by simp)]
    simp
theorem cut_ex (s : ByteArray) (c : UInt8) (hs : s.size ≤ 1048576) : ∃ a b g, strings_Cut.f s ⟨#[c]⟩ = some (a, b, g) ∧ a.size ≤ s.size ∧ b.size ≤ s.size - 1 := by
  unfold strings_Cut.f stringslite_Cut.f stringslite_Index.f
  rw [if_pos (show (⟨#[c]⟩ : ByteArray).size = 1 from rfl)]
  simp only [Option.bind_some]
  have e : (⟨#[c]⟩ : ByteArray).data.toList.headD 0 = c := rfl
  rw [e]
  have h0 := Lib.indexByte_ge s.data.toList c
  have e1 : ((⟨#[c]⟩ : ByteArray).size : Int) = 1 := rfl
  rw [e1]
  by_cases hi : Lib.indexByte s.data.toList c ≥ 0
  · obtain ⟨o, ho⟩ : ∃ o : Nat, Lib.indexByte s.data.toList c = o := ⟨_, (Int.toNat_of_nonneg hi).symm⟩
    have h1 := (Lib.indexByte_some ho).1
    have h2 : o < s.size := by
      have := List.getElem?_eq_some_iff.mp h1
      obtain ⟨h, _⟩ := this
      exact h
    rw [ho, wrap_nat (by omega), if_pos (by omega), if_pos (by omega), if_pos (by omega), if_pos (by omega), if_pos (by omega)]
    refine ⟨_, _, _, rfl, ?_, ?_⟩
    · rw [ByteArray.size_extract]; omega
    · rw [ByteArray.size_extract]; omega
  · rw [if_neg hi]
    exact ⟨_, _, _, rfl, Nat.le_refl _, Nat.zero_le _⟩
theorem cut_two (c : UInt8) (a b : ByteArray) (ha : c ∉ a.data.toList) (hs : a.size + b.size ≤ 1048576) : strings_Cut.f ((a ++ (⟨#[c]⟩ : ByteArray)) ++ b) ⟨#[c]⟩ = some (a, b, true) := by
  unfold strings_Cut.f stringslite_Cut.f stringslite_Index.f
  rw [if_pos (show (⟨#[c]⟩ : ByteArray).size = 1 from rfl)]
  simp only [Option.bind_some]
  have e : (⟨#[c]⟩ : ByteArray).data.toList.headD 0 = c := rfl
  have e1 : ((⟨#[c]⟩ : ByteArray).size : Int) = 1 := rfl
  have e2 : ((a ++ (⟨#[c]⟩ : ByteArray)) ++ b).data.toList = a.data.toList ++ c :: b.data.toList := by rw [data_append, data_append]; simp
  have e3 : ((a ++ (⟨#[c]⟩ : ByteArray)) ++ b).size = a.size + 1 + b.size := by rw [size_append, size_append]; rfl
  rw [e, e1, e2, index_mid c _ _ ha, e3]
  rw [show (a.data.toList.length : Int) = (a.size : Int) from rfl, wrap_nat (by omega), if_pos (by omega), if_pos (by omega), if_pos (by omega), if_pos (by omega), if_pos (by omega)]
  simp only [Option.bind_some, Int.toNat_natCast]
  have x1 : ((a ++ (⟨#[c]⟩ : ByteArray)) ++ b).extract 0 a.size = a := by
    apply ba_ext
    rw [data_extract, e2]
    show ((a.data.toList ++ c :: b.data.toList).take a.data.toList.length).drop 0 = a.data.toList
    rw [List.drop_zero, List.take_left' rfl]
  have x2 : ((a ++ (⟨#[c]⟩ : ByteArray)) ++ b).extract (a.size + 1) (a.size + 1 + b.size) = b := by
    apply ba_ext
    rw [data_extract, e2]
    show ((a.data.toList ++ c :: b.data.toList).take (a.data.toList.length + 1 + b.data.toList.length)).drop (a.data.toList.length + 1) = b.data.toList
    rw [List.take_of_length_le (by simp only [List.length_append, List.length_cons]; omega), show a.data.toList ++ c :: b.data.toList = (a.data.toList ++ [c]) ++ b.data.toList by simp]
    exact List.drop_left' (by simp only [List.length_append, List.length_cons, List.length_nil])
  rw [x1, x2]
end Go.Proofs.YthnippdgfhbneaaDoor.PA

/-! Small numbers' digits: the reference and the program write the same. No condition but bounds. -/
namespace Go.Proofs.YthnippdgfhbneaaDoor.PA
open Go.RowKit Go.Proofs.YthnippdgfhbneaaDoorW.PrintWords
set_option linter.unusedVariables false

/-- a small number's digits -/
def decB (n : Int) : ByteArray := ⟨(Lib.decDigits n.toNat).toArray⟩
theorem num_small : ∀ n : Fin 100, spec_l1Num.f 3 (n.val : Int) = some (decB (n.val : Int)) := by decide +kernel
theorem dec_size : ∀ n : Fin 100, (decB (n.val : Int)).size ≤ 2 := by decide +kernel
theorem l1Num_ev (n : Int) (h0 : 0 ≤ n) (h1 : n < 100) : Ev (fun k => spec_l1Num.f k n) (decB n) := by
  obtain ⟨m, rfl⟩ := Int.eq_ofNat_of_zero_le h0
  refine ⟨3, fun k hk => ?_⟩
  have := leO_add (fun k => spec_l1Num.mono (m : Int) k) (num_small ⟨m, by omega⟩) (k - 3)
  rwa [show 3 + (k - 3) = k by omega] at this
theorem itoa_f (n : Int) (h0 : 0 ≤ n) (h1 : n < 100) : strconv_Itoa.f n = some (decB n) := by
  unfold strconv_Itoa.f
  rw [if_pos ⟨h0, h1⟩]; rfl
theorem dec_le (n : Int) (h0 : 0 ≤ n) (h1 : n < 100) : (decB n).size ≤ 6 := by
  obtain ⟨m, rfl⟩ := Int.eq_ofNat_of_zero_le h0
  have := dec_size ⟨m, by omega⟩
  simp only at this
  omega
end Go.Proofs.YthnippdgfhbneaaDoor.PA

/-! Is a number within bounds: the reference's and the program's own. No condition. -/
namespace Go.Proofs.YthnippdgfhbneaaDoor.PA
open Go.RowKit Go.Proofs.YthnippdgfhbneaaDoorW.PrintWords
set_option linter.unusedVariables false

theorem l1In_f (a b c : Int) : spec_l1In.f a b c = some (decide (b ≤ a) && decide (a ≤ c)) := by
  unfold spec_l1In.f
  by_cases h : a ≥ b
  · rw [if_pos h]; simp [show b ≤ a from h]
  · rw [if_neg h]; simp [show ¬ b ≤ a from h]
theorem in_f (a b c : Int) : impl_in.f a b c = some (decide (b ≤ a) && decide (a ≤ c)) := by
  unfold impl_in.f
  by_cases h : a ≥ b
  · rw [if_pos h]; simp [show b ≤ a from h]
  · rw [if_neg h]; simp [show ¬ b ≤ a from h]
end Go.Proofs.YthnippdgfhbneaaDoor.PA

/-! A short numeral read: the reference's reader and the library's, at what a number under a hundred is written as. No condition but bounds. -/
namespace Go.Proofs.YthnippdgfhbneaaDoor.PA
open Go.RowKit Go.Proofs.YthnippdgfhbneaaDoorW.PrintWords
set_option linter.unusedVariables false

/-- digits' value, something read ahead of them -/
def digN (n : Nat) (l : List UInt8) : Nat := l.foldl (fun n b => 10 * n + (b.toNat - 48)) n
def readL (l : List UInt8) : Int := if l.length = 0 ∨ 6 < l.length ∨ (l.head? = some 48 ∧ 1 < l.length) ∨ l.all digB = false then -1 else (digN 0 l : Int)
theorem digN_nil (n : Nat) : digN n [] = n := by unfold digN; rw [List.foldl_nil]
theorem digN_cons (n : Nat) (b : UInt8) (l : List UInt8) : digN n (b :: l) = digN (10 * n + (b.toNat - 48)) l := by unfold digN; rw [List.foldl_cons]
/-- what the reference's reader tells -/
def readV (x : ByteArray) : Int := readL x.data.toList
def p10 : Nat → Nat
  | 0 => 1
  | n + 1 => 10 * p10 n
theorem p10_le : ∀ i : Fin 6, p10 i.val ≤ 100000 := by decide
theorem dig_step (n b : Nat) (hn : n ≤ 100000) (h1 : 48 ≤ b) (h2 : b ≤ 57) : wrap64 (wrap64 (10 * (n : Int)) + ((b : Int) - 48) % 256) = ((10 * n + (b - 48) : Nat) : Int) := by
  rw [wrap_in (n := 10 * (n : Int)) (by omega) (by omega), show ((b : Int) - 48) % 256 = (b : Int) - 48 by omega, wrap_in (by omega) (by omega)]
  omega
theorem read_step (x : ByteArray) (hx : x.size ≤ 6) (i n : Nat) (hi : i < x.size) (hn : n < p10 i)
    (ih : ∀ m, m < p10 (i + 1) → Ev (fun k => spec_l1Read.l0 k x (m : Int) ((i + 1 : Nat) : Int)) (if (x.data.toList.drop (i + 1)).all digB = true then (digN m (x.data.toList.drop (i + 1)) : Int) else -1)) :
    Ev (fun k => spec_l1Read.l0 k x (n : Int) (i : Int)) (if (x.data.toList.drop i).all digB = true then (digN n (x.data.toList.drop i) : Int) else -1) := by
  have hl : i < x.data.toList.length := hi
  have hp : p10 i ≤ 100000 := p10_le ⟨i, by omega⟩
  have hbt := bt_nat hi
  rw [List.drop_eq_getElem_cons hl]
  generalize hb : x.data.toList[i] = b at hbt ⊢
  generalize x.data.toList.drop (i + 1) = r at ih ⊢
  have hb2 := b.toNat_lt
  refine Ev.step (fun k => by rw [spec_l1Read.l0]) ?_
  refine Ev.pos (by omega) (Ev.pos (by omega) ?_)
  rw [hbt]
  refine Ev.ite (fun h1 => Ev.val ?_) (fun h1 => Ev.ite (fun h2 => Ev.val ?_) (fun h2 => ?_))
  · have hd : digB b = false := by unfold digB; rw [decide_eq_false (show ¬ 48 ≤ b.toNat by omega), Bool.false_and]
    rw [List.all_cons, hd, Bool.false_and, if_neg (by decide)]
  · have hd : digB b = false := by unfold digB; rw [decide_eq_false (show ¬ b.toNat ≤ 57 by omega), Bool.and_false]
    rw [List.all_cons, hd, Bool.false_and, if_neg (by decide)]
  · have z1 : n ≤ 100000 := by omega
    have z2 : 48 ≤ b.toNat := by omega
    have z3 : b.toNat ≤ 57 := by omega
    have z4 : i < 4611686018427387904 := by omega
    rw [dig_step n b.toNat z1 z2 z3]
    rw [wrap_nat z4]
    have hd : digB b = true := by unfold digB; rw [decide_eq_true (show 48 ≤ b.toNat by omega), decide_eq_true (show b.toNat ≤ 57 by omega), Bool.and_true]
    have h9 : 10 * n + (b.toNat - 48) < p10 (i + 1) := by show _ < 10 * p10 i; omega
    refine Ev.eq (ih _ h9) ?_
    rw [List.all_cons, hd, Bool.true_and, digN_cons]
theorem read_l0 (x : ByteArray) (hx : x.size ≤ 6) (d : Nat) : ∀ (i n : Nat), i + d = x.size → n < p10 i → Ev (fun k => spec_l1Read.l0 k x (n : Int) (i : Int)) (if (x.data.toList.drop i).all digB = true then (digN n (x.data.toList.drop i) : Int) else -1) := by
  induction d with
  | zero =>
    intro i n h hn
    refine Ev.step (fun k => by rw [spec_l1Read.l0]) ?_
    refine Ev.neg (by omega) (Ev.val ?_)
    rw [List.drop_of_length_le (show x.data.toList.length ≤ i from by show x.size ≤ i; omega), List.all_nil, if_pos rfl, digN_nil]
  | succ d ih =>
    intro i n h hn
    exact read_step x hx i n (by omega) hn (fun m hm => ih (i + 1) m (by omega) hm)
theorem l1Read_ev (x : ByteArray) (hx : x.size ≤ 1073741824) : Ev (fun k => spec_l1Read.f k x) (readV x) := by
  unfold spec_l1Read.f readV readL
  have hz : x.data.toList.length = x.size := rfl
  by_cases h1 : 1 ≤ x.size ∧ x.size ≤ 6
  · refine Ev.vbind (show spec_l1In.f (x.size : Int) 1 6 = some true by unfold spec_l1In.f; rw [if_pos (by omega)]; simp; omega) (Ev.pos rfl (Ev.pos (by omega) ?_))
    have hb : bt x 0 = ((x.data.toList[0]'(by rw [hz]; omega)).toNat : Int) := bt_nat (s := x) (i := 0) (by omega)
    have hh : x.data.toList.head? = some (x.data.toList[0]'(by rw [hz]; omega)) := by rw [List.head?_eq_getElem?, List.getElem?_eq_getElem]
    have main : Ev (fun k => spec_l1Read.j0 k x false) (if x.data.toList.all digB = true then (digN 0 x.data.toList : Int) else -1) := by
      refine Ev.step (fun k => by rw [spec_l1Read.j0]) ?_
      exact Ev.neg (by simp) (read_l0 x h1.2 x.size 0 0 (by omega) (by decide))
    have bad : Ev (fun k => spec_l1Read.j0 k x true) (-1) := by
      refine Ev.step (fun k => by rw [spec_l1Read.j0]) ?_
      exact Ev.pos rfl (Ev.val rfl)
    have good : ¬ (x.data.toList.head? = some 48 ∧ 1 < x.data.toList.length) → Ev (fun k => spec_l1Read.j0 k x false) (if x.data.toList.length = 0 ∨ 6 < x.data.toList.length ∨ (x.data.toList.head? = some 48 ∧ 1 < x.data.toList.length) ∨ x.data.toList.all digB = false then -1 else (digN 0 x.data.toList : Int)) := by
      intro hn
      refine Ev.eq main ?_
      cases ha : x.data.toList.all digB
      · rw [if_neg (by simp), if_pos (by simp)]
      · rw [if_pos rfl, if_neg]
        rintro (h | h | h | h)
        · omega
        · omega
        · exact hn h
        · simp at h
    refine Ev.ite (fun h2 => ?_) (fun h2 => good (fun h => h2 ?_))
    · have h3 : x.data.toList[0]'(by rw [hz]; omega) = 48 := by
        rw [hb] at h2
        exact UInt8.toNat_inj.mp (by show _ = 48; omega)
      by_cases h4 : 1 < x.size
      · rw [show decide ((x.size : Int) > 1) = true by simp; omega]
        refine Ev.eq bad ?_
        rw [if_pos (.inr (.inr (.inl ⟨by rw [hh, h3], by omega⟩)))]
      · rw [show decide ((x.size : Int) > 1) = false by simp; omega]
        exact good (fun h => h4 (by omega))
    · rw [hb]
      have := h.1
      rw [hh] at this
      rw [Option.some.inj this]
      rfl
  · have e : spec_l1In.f (x.size : Int) 1 6 = some false := by
      unfold spec_l1In.f
      by_cases h2 : (x.size : Int) ≥ 1
      · rw [if_pos h2]; simp; omega
      · rw [if_neg h2]
    refine Ev.vbind e (Ev.neg (by simp) ?_)
    refine Ev.step (fun k => by rw [spec_l1Read.j0]) ?_
    refine Ev.pos rfl (Ev.val ?_)
    rw [if_pos (by omega)]
theorem digN_ge : ∀ (l : List UInt8) (n : Nat), n ≤ digN n l
  | [], n => Nat.le_refl _
  | b :: l, n => by
    have := digN_ge l (10 * n + (b.toNat - 48))
    rw [digN_cons]
    omega
theorem dec_1 : ∀ a : Fin 10, Lib.decDigits a.val = [UInt8.ofNat (48 + a.val)] := by decide +kernel
theorem dec_2 : ∀ a b : Fin 10, 1 ≤ a.val → Lib.decDigits (10 * a.val + b.val) = [UInt8.ofNat (48 + a.val), UInt8.ofNat (48 + b.val)] := by decide +kernel
theorem dig_of {b : UInt8} (h : digB b = true) : ∃ a : Fin 10, b = UInt8.ofNat (48 + a.val) ∧ b.toNat - 48 = a.val := by
  simp only [digB, Bool.and_eq_true, decide_eq_true_eq] at h
  refine ⟨⟨b.toNat - 48, by omega⟩, ?_, rfl⟩
  show b = UInt8.ofNat (48 + (b.toNat - 48))
  rw [show 48 + (b.toNat - 48) = b.toNat by omega]
  simp
theorem read_1 (a : UInt8) (h : digB a = true) : [a] = Lib.decDigits (digN 0 [a]) := by
  obtain ⟨x, e, ev⟩ := dig_of h
  have hn : digN 0 [a] = x.val := by rw [digN_cons, digN_nil, ev, Nat.mul_zero, Nat.zero_add]
  rw [hn, dec_1 x, ← e]
theorem read_2 (a b : UInt8) (ha : digB a = true) (hb : digB b = true) (h0 : a ≠ 48) : [a, b] = Lib.decDigits (digN 0 [a, b]) := by
  obtain ⟨x, e, ev⟩ := dig_of ha
  obtain ⟨y, f, fv⟩ := dig_of hb
  have hx : 1 ≤ x.val := by
    rcases Nat.eq_zero_or_pos x.val with h | h
    · exact absurd (by rw [e, h]; rfl) h0
    · exact h
  have hn : digN 0 [a, b] = 10 * x.val + y.val := by rw [digN_cons, digN_cons, digN_nil, ev, fv, Nat.mul_zero, Nat.zero_add]
  rw [hn, dec_2 x y hx, ← e, ← f]
theorem read_3 (a b c : UInt8) (r : List UInt8) (ha : digB a = true) (h0 : a ≠ 48) : 100 ≤ digN 0 (a :: b :: c :: r) := by
  obtain ⟨x, e, ev⟩ := dig_of ha
  have hx : 1 ≤ x.val := by
    rcases Nat.eq_zero_or_pos x.val with h | h
    · exact absurd (by rw [e, h]; rfl) h0
    · exact h
  rw [digN_cons, digN_cons, digN_cons, ev]
  have := digN_ge r (10 * (10 * (10 * 0 + x.val) + (b.toNat - 48)) + (c.toNat - 48))
  omega
theorem readL_dec (l : List UInt8) (h0 : 0 ≤ readL l) (h1 : readL l < 100) : l = Lib.decDigits (readL l).toNat := by
  have key : ¬ (l.length = 0 ∨ 6 < l.length ∨ (l.head? = some 48 ∧ 1 < l.length) ∨ l.all digB = false) ∧ readL l = (digN 0 l : Int) := by
    unfold readL at h0 ⊢
    split at h0
    · omega
    · rename_i hc
      exact ⟨hc, if_neg hc⟩
  obtain ⟨hc, e⟩ := key
  rw [e] at h1 ⊢
  rw [Int.toNat_natCast]
  clear h0 e
  have c1 : l.length ≠ 0 := fun e => hc (.inl e)
  have c3 : ¬ (l.head? = some 48 ∧ 1 < l.length) := fun e => hc (.inr (.inr (.inl e)))
  have c4 : l.all digB = true := by
    cases h : l.all digB
    · exact absurd (.inr (.inr (.inr h))) hc
    · rfl
  clear hc
  cases l with
  | nil => exact absurd rfl c1
  | cons a l =>
    rw [List.all_cons, Bool.and_eq_true] at c4
    cases l with
    | nil => exact read_1 a c4.1
    | cons b l =>
      have h0 : a ≠ 48 := fun e => c3 ⟨by rw [e]; rfl, by simp only [List.length_cons]; omega⟩
      have c5 := c4.2
      rw [List.all_cons, Bool.and_eq_true] at c5
      cases l with
      | nil => exact read_2 a b c4.1 c5.1 h0
      | cons c r =>
        have := read_3 a b c r c4.1 h0
        omega
theorem read_dec {x : ByteArray} (h0 : 0 ≤ readV x) (h1 : readV x < 100) : x = decB (readV x) :=
  ba_ext (readL_dec x.data.toList h0 h1)
theorem readL_of : ∀ n : Fin 100, readL (Lib.decDigits n.val) = (n.val : Int) := by decide +kernel
theorem readV_dec {v : Int} (h0 : 0 ≤ v) (h1 : v < 100) : readV (decB v) = v := by
  have := readL_of ⟨v.toNat, by omega⟩
  show readL (Lib.decDigits v.toNat) = v
  rw [this]; show ((v.toNat : Nat) : Int) = v; omega
theorem dec_dig : ∀ n : Fin 100, (Lib.decDigits n.val).all digB = true := by decide +kernel
theorem decB_no {v : Int} (h0 : 0 ≤ v) (h1 : v < 100) {c : UInt8} (hc : digB c = false) : c ∉ (decB v).data.toList := by
  intro hm
  have := List.all_eq_true.mp (dec_dig ⟨v.toNat, by omega⟩) c hm
  rw [hc] at this; simp at this
theorem atoi_of : ∀ n : Fin 100, Lib.atoiAll (Lib.decDigits n.val) = .ok (n.val : Int) := by decide +kernel
theorem atoi_dec {v : Int} (h0 : 0 ≤ v) (h1 : v < 100) : strconv_Atoi.f (decB v) = some (v, false) := by
  have hz := (dec_le v h0 h1)
  unfold strconv_Atoi.f
  rw [if_pos (by omega)]
  have := atoi_of ⟨v.toNat, by omega⟩
  have e : atoiV (decB v) = v := by
    unfold atoiV
    show (match Lib.atoiAll (Lib.decDigits v.toNat) with | .ok v => v | .«syntax» => 0 | .range => _) = v
    rw [this]; show ((v.toNat : Nat) : Int) = v; omega
  rw [e]
end Go.Proofs.YthnippdgfhbneaaDoor.PA

/-! The reference's own way to cut a text gives the library's pieces. No condition but bounds. -/
namespace Go.Proofs.YthnippdgfhbneaaDoor.PA
open Go.RowKit Go.Proofs.YthnippdgfhbneaaDoorW.PrintWords
set_option linter.unusedVariables false

theorem l1Split_l0 (s : ByteArray) (c : UInt8) (hs : s.size ≤ 1073741824) : ∀ (d i a : Nat) (x : List ByteArray), i + d = s.size → a ≤ i → x.length ≤ i → Ev (fun k => spec_l1Split.l0 k s (c.toNat : Int) x (a : Int) (i : Int)) (x ++ (cutL c ((s.data.toList.take i).drop a) (s.data.toList.drop i)).map fun l => ⟨l.toArray⟩)
  | 0, i, a, x, h, ha, hx => by
    refine Ev.step (fun k => by rw [spec_l1Split.l0]) ?_
    refine Ev.neg (by omega) (Ev.pos (by omega) (Ev.pos (by omega) (Ev.pos (by omega) (Ev.val ?_))))
    have e : s.extract a s.size = ⟨((s.data.toList.take i).drop a).toArray⟩ := ba_ext (by rw [data_extract, show i = s.size by omega])
    rw [List.drop_of_length_le (i := i) (by rw [← size_data]; omega), cutL, List.map_cons, List.map_nil, Int.toNat_natCast, e]
  | d + 1, i, a, x, h, ha, hx => by
    have hi : i < s.data.toList.length := by rw [← size_data]; omega
    refine Ev.step (fun k => by rw [spec_l1Split.l0]) ?_
    refine Ev.pos (by omega) (Ev.pos (by omega) ?_)
    rw [bt_nat (by omega), wrap_nat (by omega), List.drop_eq_getElem_cons hi]
    by_cases e : s.data.toList[i] = c
    · refine Ev.pos (by rw [e]) (Ev.pos (by omega) (Ev.pos (by omega) (Ev.pos (by omega) (Ev.pos (by omega) ?_))))
      have ih := l1Split_l0 s c hs d (i + 1) (i + 1) (x ++ [s.extract a i]) (by omega) (Nat.le_refl _) (by simp; omega)
      have e1 : (s.data.toList.take (i + 1)).drop (i + 1) = [] := List.drop_of_length_le (by rw [List.length_take]; omega)
      rw [e1] at ih
      rw [cutL, if_pos e, List.map_cons]
      have e2 : (⟨((s.data.toList.take i).drop a).toArray⟩ : ByteArray) = s.extract a i := ba_ext (by rw [data_extract])
      rw [e2]
      simpa using ih
    · refine Ev.neg (fun h => e ?_) ?_
      · exact UInt8.toNat_inj.mp (by omega)
      · have ih := l1Split_l0 s c hs d (i + 1) a x (by omega) (by omega) (by omega)
        rw [cutL, if_neg e]
        rw [take_succ_get hi, List.drop_append_of_le_length (by rw [List.length_take]; omega)] at ih
        exact ih
theorem l1Split_ev (s : ByteArray) (c : UInt8) (hs : s.size ≤ 1073741824) : Ev (fun k => spec_l1Split.f k s (c.toNat : Int)) (cutT c s) := by
  have := l1Split_l0 s c hs s.size 0 0 [] (by omega) (Nat.le_refl _) (Nat.le_refl _)
  unfold spec_l1Split.f cutT
  simpa using this
end Go.Proofs.YthnippdgfhbneaaDoor.PA

/-! Puzzles: the reference and the program ask for the same. No condition but bounds. -/
namespace Go.Proofs.YthnippdgfhbneaaDoor.PA
open Go.RowKit Go.Proofs.YthnippdgfhbneaaDoorW.PrintWords
set_option linter.unusedVariables false

theorem clue_same (d a b c : Int) : impl_IsClue.f d a b c = spec_pzClue.f d a b c := by
  unfold impl_IsClue.f spec_pzClue.f
  simp only [in_f, l1In_f]
def clueB (d : Int) (x : S51) : Bool := ((spec_pzClue.f d x.f0 x.f1 x.f2).getD false)
theorem clue_f (d : Int) (x : S51) : spec_pzClue.f d x.f0 x.f1 x.f2 = some (clueB d x) := by
  unfold clueB
  suffices h : ∃ v, spec_pzClue.f d x.f0 x.f1 x.f2 = some v by obtain ⟨v, h⟩ := h; rw [h]; rfl
  unfold spec_pzClue.f
  simp only [l1In_f, Option.bind_some]
  repeat' split
  all_goals exact ⟨_, rfl⟩
def puzB (d : Int) (l : List S51) : Bool := decide (2 ≤ d) && decide (d ≤ 3) && decide ((l.length : Int) ≤ 6) && l.all (clueB d)
theorem rdT_nat {l : List S51} {i : Nat} (h : i < l.length) : rd_T51 l (i : Int) = l[i] := by simp [rd_T51, h]
theorem pzGood_l0 (d : Int) (l : List S51) (hl : l.length ≤ 1048576) : ∀ (e i : Nat), i + e = l.length → Ev (fun k => spec_pzGood.l0 k l (l.length : Int) (i : Int) d l) ((l.drop i).all (clueB d))
  | 0, i, h => by
    refine Ev.step (fun k => by rw [spec_pzGood.l0]) ?_
    refine Ev.neg (by omega) (Ev.val ?_)
    rw [List.drop_of_length_le (by omega)]; rfl
  | e + 1, i, h => by
    have hi : i < l.length := by omega
    refine Ev.step (fun k => by rw [spec_pzGood.l0]) ?_
    refine Ev.pos (by omega) (Ev.pos (by omega) (Ev.pos (by omega) ?_))
    rw [rdT_nat hi, wrap_nat (by omega), List.drop_eq_getElem_cons hi, List.all_cons]
    refine Ev.vbind (clue_f d _) ?_
    have ih := pzGood_l0 d l hl e (i + 1) (by omega)
    cases clueB d l[i] with
    | true => exact Ev.pos rfl (by rw [Bool.true_and]; exact ih)
    | false => exact Ev.neg (by simp) (Ev.val rfl)
theorem pzGood_ev (d : Int) (l : List S51) (hl : l.length ≤ 1048576) : Ev (fun k => spec_pzGood.f k d l) (puzB d l) := by
  unfold spec_pzGood.f spec_pzDigits.f puzB
  rw [l1In_f, Option.bind_some]
  refine Ev.vbind rfl ?_
  cases decide (2 ≤ d) && decide (d ≤ 3) with
  | false =>
    refine Ev.neg (by simp) ?_
    refine Ev.step (fun k => by rw [spec_pzGood.j0]) ?_
    exact Ev.pos rfl (Ev.val rfl)
  | true =>
    refine Ev.pos rfl ?_
    refine Ev.step (fun k => by rw [spec_pzGood.j0]) ?_
    by_cases h : (l.length : Int) > 6
    · exact Ev.pos (decide_eq_true h) (Ev.val (by simp [show ¬ (l.length : Int) ≤ 6 by omega]))
    · refine Ev.neg (by simp [h]) ?_
      have := pzGood_l0 d l hl l.length 0 (by omega)
      rw [List.drop_zero] at this
      exact Ev.eq this (by simp [show (l.length : Int) ≤ 6 by omega])
theorem isPuzzle_f (d : Int) (l : List S51) (hl : l.length ≤ 1048576) : impl_IsPuzzle.f d l = some (puzB d l) := by
  unfold impl_IsPuzzle.f puzB
  have hany : anyO (fun x => (impl_IsClue.f d x.f0 x.f1 x.f2).map (!·)) l = some (l.any (fun x => !clueB d x)) := by
    refine anyO_pure _ _ l (fun x _ => ?_)
    rw [clue_same, clue_f]; rfl
  rw [hany, Option.bind_some, if_pos (by omega)]
  have e : l.any (fun x => !clueB d x) = !l.all (clueB d) := by
    clear hany hl
    induction l with
    | nil => rfl
    | cons a l ih => rw [List.any_cons, List.all_cons, ih, Bool.not_and]
  rw [e, Bool.not_not]
end Go.Proofs.YthnippdgfhbneaaDoor.PA

/-! A puzzle's text: the reference and the program write the same. No condition but bounds. -/
namespace Go.Proofs.YthnippdgfhbneaaDoor.PA
open Go.RowKit Go.Proofs.YthnippdgfhbneaaDoorW.PrintWords
set_option linter.unusedVariables false

/-- a clue that is right has small numbers -/
theorem clue_facts {d : Int} {x : S51} (hd : d ≤ 3) (hd0 : 2 ≤ d) (h : clueB d x = true) : (0 ≤ x.f0 ∧ x.f0 ≤ 5) ∧ (0 ≤ x.f1 ∧ x.f1 ≤ 9) ∧ (0 ≤ x.f2 ∧ x.f2 ≤ 27) := by
  have hc := clue_f d x
  rw [h] at hc
  unfold spec_pzClue.f at hc
  simp only [l1In_f, Option.bind_some, wrap_in (show -9223372036854775808 ≤ d - 1 by omega) (show d - 1 ≤ 9223372036854775807 by omega)] at hc
  repeat' split at hc
  all_goals first
    | (simp only [Option.some.injEq, Bool.and_eq_true, decide_eq_true_eq] at *; omega)
    | (exact absurd hc (by simp))
/-- a clue's text -/
def clueT (x : S51) : ByteArray := (((decB x.f0 ++ (⟨#[46]⟩ : ByteArray)) ++ decB x.f1) ++ (⟨#[46]⟩ : ByteArray)) ++ decB x.f2
theorem dec_one : ∀ n : Fin 10, (decB (n.val : Int)).size ≤ 1 := by decide +kernel
theorem dec_le1 (n : Int) (h0 : 0 ≤ n) (h1 : n < 10) : (decB n).size ≤ 1 := by
  obtain ⟨m, rfl⟩ := Int.eq_ofNat_of_zero_le h0
  have := dec_one ⟨m, by omega⟩
  simp only at this
  omega
theorem dec_le2 (n : Int) (h0 : 0 ≤ n) (h1 : n < 100) : (decB n).size ≤ 2 := by
  obtain ⟨m, rfl⟩ := Int.eq_ofNat_of_zero_le h0
  have := dec_size ⟨m, by omega⟩
  simp only at this
  omega
/-- bounds that a clue's text needs -/
def CluOk (x : S51) : Prop := (0 ≤ x.f0 ∧ x.f0 ≤ 5) ∧ (0 ≤ x.f1 ∧ x.f1 ≤ 9) ∧ (0 ≤ x.f2 ∧ x.f2 ≤ 27)
theorem clue_sizes {x : S51} (h : CluOk x) : (decB x.f0).size ≤ 1 ∧ (decB x.f1).size ≤ 1 ∧ (decB x.f2).size ≤ 2 :=
  ⟨dec_le1 _ h.1.1 (by have := h.1.2; omega), dec_le1 _ h.2.1.1 (by have := h.2.1.2; omega), dec_le2 _ h.2.2.1 (by have := h.2.2.2; omega)⟩
theorem dot_size : (⟨#[46]⟩ : ByteArray).size = 1 := rfl
theorem com_size : (⟨#[44]⟩ : ByteArray).size = 1 := rfl
theorem clueT_le {x : S51} (h : CluOk x) : (clueT x).size ≤ 6 := by
  obtain ⟨h0, h1, h2⟩ := clue_sizes h
  unfold clueT
  rw [size_append, size_append, size_append, size_append, dot_size]
  omega
section
variable (l : List S51) (hl : l.length ≤ 20) (hs : ∀ y ∈ l, CluOk y)
include hl hs
omit hl in
theorem clues_le : ∀ y ∈ l.map clueT, y.size ≤ 6 := by
  intro y hy
  obtain ⟨n, hn, rfl⟩ := List.mem_map.mp hy
  exact clueT_le (hs n hn)
theorem pzText_l0 (p : ByteArray) (hp : p.size ≤ 1000) : ∀ (d i : Nat), i + d = l.length → Ev (fun k => spec_pzText.l0 k (p ++ commaT ((l.map clueT).take i)) l (l.length : Int) (i : Int)) (p ++ commaT (l.map clueT))
  | 0, i, h => by
    refine Ev.step (fun k => by rw [spec_pzText.l0]) ?_
    refine Ev.neg (by omega) (Ev.val ?_)
    rw [List.take_of_length_le (by simp; omega)]
  | d + 1, i, h => by
    have hi : i < l.length := by omega
    have hy := hs _ (List.getElem_mem hi)
    have hz := comma_size (l.map clueT) (clues_le l hs) i (by simp; omega)
    have hz2 := clueT_le hy
    obtain ⟨z0, z1, z2⟩ := clue_sizes hy
    have hg : (l.map clueT)[i]'(by simpa using hi) = clueT l[i] := by simp
    have ih := pzText_l0 p hp d (i + 1) (by omega)
    have n0 := l1Num_ev _ hy.1.1 (by have := hy.1.2; omega)
    have n1 := l1Num_ev _ hy.2.1.1 (by have := hy.2.1.2; omega)
    have n2 := l1Num_ev _ hy.2.2.1 (by have := hy.2.2.2; omega)
    refine Ev.step (fun k => by rw [spec_pzText.l0]) ?_
    refine Ev.pos (by omega) (Ev.pos (by omega) (Ev.pos (by omega) ?_))
    rw [rdT_nat hi, wrap_nat (by omega)]
    have b1 : (decB (l[i]).f0).size + 1 ≤ 9223372036854775807 := by omega
    have b2 : (decB (l[i]).f0 ++ (⟨#[46]⟩ : ByteArray)).size + (decB (l[i]).f1).size ≤ 9223372036854775807 := by rw [size_append, dot_size]; omega
    have b3 : ((decB (l[i]).f0 ++ (⟨#[46]⟩ : ByteArray)) ++ decB (l[i]).f1).size + 1 ≤ 9223372036854775807 := by rw [size_append, size_append, dot_size]; omega
    have b4 : (((decB (l[i]).f0 ++ (⟨#[46]⟩ : ByteArray)) ++ decB (l[i]).f1) ++ (⟨#[46]⟩ : ByteArray)).size + (decB (l[i]).f2).size ≤ 9223372036854775807 := by rw [size_append, size_append, size_append, dot_size]; omega
    cases i with
    | zero =>
      have e : p ++ commaT ((l.map clueT).take 0) ++ clueT l[0] = p ++ commaT ((l.map clueT).take 1) := by
        rw [comma_one (by simpa using hi), hg, comma_zero, app_nil]
      rw [← e] at ih
      refine Ev.neg (by omega) (Ev.bind n0 (Ev.pos b1 (Ev.bind n1 (Ev.pos b2 (Ev.pos b3 (Ev.bind n2 (Ev.pos b4 (Ev.pos ?_ ih))))))))
      show (p ++ commaT ((l.map clueT).take 0)).size + (clueT l[0]).size ≤ 9223372036854775807
      rw [size_append]; omega
    | succ i =>
      have e : p ++ commaT ((l.map clueT).take (i + 1)) ++ (⟨#[44]⟩ : ByteArray) ++ clueT l[i + 1] = p ++ commaT ((l.map clueT).take (i + 2)) := by
        rw [comma_more (by simpa using hi), hg]
        simp only [app_assoc]
      rw [← e] at ih
      refine Ev.pos (by omega) (Ev.pos (by rw [size_append]; omega) (Ev.bind n0 (Ev.pos b1 (Ev.bind n1 (Ev.pos b2 (Ev.pos b3 (Ev.bind n2 (Ev.pos b4 (Ev.pos ?_ ih)))))))))
      show (p ++ commaT ((l.map clueT).take (i + 1)) ++ (⟨#[44]⟩ : ByteArray)).size + (clueT l[i + 1]).size ≤ 9223372036854775807
      rw [size_append, size_append, com_size]; omega
theorem puzzleText_l0 (m : Int) (ws : List S51) (h0 : 0 ≤ m) (h1 : m < 100) : ∀ (d i : Nat), i + d = l.length → Ev (fun k => impl_PuzzleText.l0 k ((l.map clueT).take i) l (l.length : Int) (i : Int) m ws) ((decB m ++ (⟨#[58]⟩ : ByteArray)) ++ commaT (l.map clueT), true)
  | 0, i, h => by
    have hz := comma_size (l.map clueT) (clues_le l hs) l.length (by simp)
    have hd := dec_le m h0 h1
    rw [List.take_of_length_le (by simp)] at hz
    refine Ev.step (fun k => by rw [impl_PuzzleText.l0]) ?_
    refine Ev.neg (by omega) ?_
    rw [List.take_of_length_le (by simp; omega)]
    have hj : strings_Join.f (l.map clueT) (⟨#[44]⟩ : ByteArray) = some (commaT (l.map clueT)) := by
      unfold strings_Join.f
      have hz' : (Lib.join ((l.map clueT).map (·.data.toList)) [44]).length ≤ 7 * l.length := hz
      rw [if_pos ⟨by show (Lib.join _ [44]).length ≤ _; omega, by simp; omega⟩]; rfl
    refine Ev.vbind (itoa_f m h0 h1) (Ev.pos (by omega) (Ev.vbind hj (Ev.pos ?_ (Ev.val rfl))))
    rw [size_append]; show _ + 1 + _ ≤ _; omega
  | d + 1, i, h => by
    have hi : i < l.length := by omega
    have hy := hs _ (List.getElem_mem hi)
    obtain ⟨z0, z1, z2⟩ := clue_sizes hy
    have ih := puzzleText_l0 m ws h0 h1 d (i + 1) (by omega)
    refine Ev.step (fun k => by rw [impl_PuzzleText.l0]) ?_
    refine Ev.pos (by omega) (Ev.pos (by omega) (Ev.pos (by omega) ?_))
    rw [rdT_nat hi, wrap_nat (by omega)]
    have e : (l.map clueT).take i ++ [clueT l[i]] = (l.map clueT).take (i + 1) := by rw [take_succ_get (by simpa using hi)]; simp
    rw [← e] at ih
    refine Ev.vbind (itoa_f _ hy.1.1 (by have := hy.1.2; omega)) (Ev.pos (by omega) (Ev.vbind (itoa_f _ hy.2.1.1 (by have := hy.2.1.2; omega)) (Ev.pos (by rw [size_append, dot_size]; omega) (Ev.pos (by rw [size_append, size_append, dot_size]; omega) (Ev.vbind (itoa_f _ hy.2.2.1 (by have := hy.2.2.2; omega)) (Ev.pos (by rw [size_append, size_append, size_append, dot_size]; omega) (Ev.pos (by simp; omega) ih)))))))
end
theorem puz_facts {d : Int} {l : List S51} (h : puzB d l = true) : 2 ≤ d ∧ d ≤ 3 ∧ l.length ≤ 6 ∧ ∀ y ∈ l, CluOk y := by
  unfold puzB at h
  simp only [Bool.and_eq_true, decide_eq_true_eq, List.all_eq_true] at h
  obtain ⟨⟨⟨h0, h1⟩, h2⟩, h3⟩ := h
  exact ⟨h0, h1, by omega, fun y hy => clue_facts h1 h0 (h3 y hy)⟩
/-- a puzzle's text -/
def puzT (d : Int) (l : List S51) : ByteArray := (decB d ++ (⟨#[58]⟩ : ByteArray)) ++ commaT (l.map clueT)
theorem pzText_ev (d : Int) (l : List S51) (g : puzB d l = true) : Ev (fun k => spec_pzText.f k d l) (puzT d l) := by
  obtain ⟨m0, m1, l0, hw⟩ := puz_facts g
  have hd := dec_le d (by omega) (by omega)
  have e1 := pzText_l0 l (by omega) hw (decB d ++ (⟨#[58]⟩ : ByteArray)) (by rw [size_append]; show _ + 1 ≤ _; omega) l.length 0 (by omega)
  have e0 : decB d ++ (⟨#[58]⟩ : ByteArray) ++ commaT ((l.map clueT).take 0) = decB d ++ (⟨#[58]⟩ : ByteArray) := by rw [comma_zero, app_nil]
  rw [e0] at e1
  unfold spec_pzText.f
  exact Ev.bind (l1Num_ev d (by omega) (by omega)) (Ev.pos (by omega) e1)
theorem puzzleText_ev (d : Int) (l : List S51) (h1 : l.length ≤ 1048576) : Ev (fun k => impl_PuzzleText.f k d l) (if puzB d l = true then (puzT d l, true) else (⟨#[]⟩, false)) := by
  have hi := isPuzzle_f d l h1
  unfold impl_PuzzleText.f
  cases g : puzB d l with
  | false =>
    rw [g] at hi
    exact Ev.vbind hi (Ev.neg (by simp) (Ev.val rfl))
  | true =>
    rw [g] at hi
    obtain ⟨m0, m1, l0, hw⟩ := puz_facts g
    exact Ev.vbind hi (Ev.pos rfl (puzzleText_l0 l (by omega) hw d l (by omega) (by omega) l.length 0 (by omega)))
theorem specPuzzleText_ev (d : Int) (l : List S51) (h1 : l.length ≤ 1048576) : Ev (fun k => spec_PuzzleText.f k d l) (if puzB d l = true then (puzT d l, true) else (⟨#[]⟩, false)) := by
  have hg := pzGood_ev d l h1
  unfold spec_PuzzleText.f
  cases g : puzB d l with
  | false =>
    rw [g] at hg
    exact Ev.bind hg (Ev.neg (by simp) (Ev.val rfl))
  | true =>
    rw [g] at hg
    exact Ev.bind hg (Ev.pos rfl (Ev.bind (pzText_ev d l g) (Ev.val rfl)))
end Go.Proofs.YthnippdgfhbneaaDoor.PA

/-! A puzzle out of its text: the key. No condition but bounds. -/
namespace Go.Proofs.YthnippdgfhbneaaDoor.PA
open Go.RowKit Go.Proofs.YthnippdgfhbneaaDoorW.PrintWords
set_option linter.unusedVariables false

theorem cutT_three (c : UInt8) (a b d : ByteArray) (ha : c ∉ a.data.toList) (hb : c ∉ b.data.toList) (hd : c ∉ d.data.toList) : cutT c ((((a ++ (⟨#[c]⟩ : ByteArray)) ++ b) ++ (⟨#[c]⟩ : ByteArray)) ++ d) = [a, b, d] := by
  unfold cutT
  rw [data_append, data_append, data_append, data_append]
  rw [show a.data.toList ++ (⟨#[c]⟩ : ByteArray).data.toList ++ b.data.toList ++ (⟨#[c]⟩ : ByteArray).data.toList ++ d.data.toList = a.data.toList ++ c :: (b.data.toList ++ c :: d.data.toList) by simp, cut_mid c _ _ [] ha, cut_mid c _ _ [] hb, cut_none c _ [] hd]
  simp only [List.nil_append, List.map_cons, List.map_nil]
theorem atoiV_dec {v : Int} (h0 : 0 ≤ v) (h1 : v < 100) : atoiV (decB v) = v := by
  have := atoi_dec h0 h1
  unfold strconv_Atoi.f at this
  split at this
  · exact (Prod.mk.inj (Option.some.inj this)).1
  · exact absurd this (by simp)
theorem clue_cut {x : S51} (h : CluOk x) : cutT 46 (clueT x) = [decB x.f0, decB x.f1, decB x.f2] := by
  obtain ⟨⟨a0, a1⟩, ⟨b0, b1⟩, c0, c1⟩ := h
  exact cutT_three 46 _ _ _ (decB_no a0 (by omega) (by decide)) (decB_no b0 (by omega) (by decide)) (decB_no c0 (by omega) (by decide))
theorem clue_no {x : S51} (h : CluOk x) {c : UInt8} (hc : digB c = false) (h46 : c ≠ 46) : c ∉ (clueT x).data.toList := by
  obtain ⟨⟨a0, a1⟩, ⟨b0, b1⟩, c0, c1⟩ := h
  have n1 := decB_no (c := c) a0 (by omega) hc
  have n2 := decB_no (c := c) b0 (by omega) hc
  have n3 := decB_no (c := c) c0 (by omega) hc
  unfold clueT
  rw [data_append, data_append, data_append, data_append]
  simp only [List.mem_append, not_or]
  exact ⟨⟨⟨⟨n1, by simpa using h46⟩, n2⟩, by simpa using h46⟩, n3⟩
theorem S_eta (x : S51) : (⟨x.f0, x.f1, x.f2⟩ : S51) = x := by cases x; rfl
section
variable (t : ByteArray)
/-- behind the last piece -/
def endP (m : Int) (l : List S51) : Int × List S51 × Bool := if puzB m l = true ∧ puzT m l = t then (m, l, true) else (0, [], false)
theorem impl_end (m : Int) (l : List S51) (hl : l.length ≤ 1048576) : Ev (fun k => (impl_PuzzleText.f k m l).bind fun b => (if b.2 = true then (if b.1.toList = t.toList then (some (m, l, true)) else (some (0, ([] : List S51), false))) else (some (0, ([] : List S51), false)))) (endP t m l) := by
  refine Ev.bind (puzzleText_ev m l hl) ?_
  unfold endP
  cases puzB m l
  · exact Ev.neg (by simp) (Ev.val rfl)
  · refine Ev.pos rfl ?_
    by_cases e : puzT m l = t
    · exact Ev.pos (by rw [← e]; rfl) (Ev.val (by rw [if_pos ⟨rfl, e⟩]))
    · exact Ev.neg (fun x => e (toList_inj.mp x)) (Ev.val (by rw [if_neg (fun x => e x.2)]))
theorem spec_end (m : Int) (l : List S51) (hl : l.length ≤ 1048576) : Ev (fun k => (spec_pzGood.f k m l).bind fun g => (if g = true then ((spec_pzText.f k m l).bind fun b => (some (m, l, (b.toList == t.toList)))) else (some (m, l, false)))) (m, l, decide (puzB m l = true ∧ puzT m l = t)) := by
  refine Ev.bind (pzGood_ev m l hl) ?_
  cases g : puzB m l
  · exact Ev.neg (by simp) (Ev.val (by simp))
  · refine Ev.pos rfl (Ev.bind (pzText_ev m l g) (Ev.val ?_))
    by_cases e : puzT m l = t
    · rw [e]; simp
    · have : ((puzT m l).toList == t.toList) = false := by
        rw [beq_eq_false_iff_ne]; exact fun x => e (toList_inj.mp x)
      rw [this]; simp [e]
variable (L : List ByteArray) (hL : L.length ≤ 1048576) (hz : ∀ x ∈ L, x.size ≤ 1048576)
/-- a scheme's loops where the text is no puzzle's -/
theorem spec_no (hP : ∀ m l, ¬ (puzB m l = true ∧ puzT m l = t)) (hL : L.length ≤ 1048576) (hz : ∀ x ∈ L, x.size ≤ 1048576) (m : Int) (d : Nat) : ∀ (i : Nat) (acc : List S51), i + d = L.length → acc.length = i →
    ∃ m' l', Ev (fun k => spec_pzParse.l0 k t L (L.length : Int) (i : Int) m acc) (m', l', false) := by
  induction d with
  | zero =>
    intro i acc h ha
    refine ⟨m, acc, ?_⟩
    refine Ev.step (fun k => by rw [spec_pzParse.l0]) ?_
    refine Ev.neg (by omega) (Ev.eq (spec_end t m acc (by omega)) ?_)
    rw [decide_eq_false (hP m acc)]
  | succ d ih =>
    intro i acc h ha
    have hi : i < L.length := by omega
    have hx := hz _ (List.getElem_mem hi)
    have hcs := cutT_size 46 L[i]
    by_cases h3 : (cutT 46 L[i]).length = 3
    · obtain ⟨p, q, r, e⟩ : ∃ p q r, cutT 46 L[i] = [p, q, r] := by
        match h : cutT 46 L[i], h3 with
        | [p, q, r], _ => exact ⟨p, q, r, rfl⟩
      rw [e] at hcs
      obtain ⟨m', l', hh⟩ := ih (i + 1) (acc ++ [⟨readV p, readV q, readV r⟩]) (by omega) (by simp; omega)
      refine ⟨m', l', ?_⟩
      refine Ev.step (fun k => by rw [spec_pzParse.l0]) ?_
      refine Ev.pos (by omega) (Ev.pos (by omega) (Ev.pos (by omega) ?_))
      rw [rdS_nat hi, wrap_nat (by omega)]
      refine Ev.bind (Ev.eq (l1Split_ev L[i] 46 (by omega)) e) (Ev.pos (by simp) (Ev.pos (by simp) ?_))
      refine Ev.bind (l1Read_ev p (by have := hcs p (by simp); omega)) (Ev.pos (by simp) (Ev.bind (l1Read_ev q (by have := hcs q (by simp); omega)) (Ev.pos (by simp) (Ev.bind (l1Read_ev r (by have := hcs r (by simp); omega)) (Ev.pos (by omega) hh)))))
    · refine ⟨0, [], ?_⟩
      refine Ev.step (fun k => by rw [spec_pzParse.l0]) ?_
      refine Ev.pos (by omega) (Ev.pos (by omega) (Ev.pos (by omega) ?_))
      rw [rdS_nat hi]
      exact Ev.bind (l1Split_ev L[i] 46 (by omega)) (Ev.neg (by omega) (Ev.val rfl))
theorem impl_no (b : ByteArray) (hP : ∀ m l, ¬ (puzB m l = true ∧ puzT m l = t)) (hL : L.length ≤ 1048576) (hz : ∀ x ∈ L, x.size ≤ 1048576) (m : Int) (d : Nat) : ∀ (i : Nat) (acc : List S51), i + d = L.length → acc.length = i →
    Ev (fun k => impl_ParsePuzzle.l0 k t b L (L.length : Int) (i : Int) m acc) (0, [], false) := by
  have he : ∀ l, endP t m l = (0, [], false) := fun l => by unfold endP; rw [if_neg (hP m l)]
  induction d with
  | zero =>
    intro i acc h ha
    refine Ev.step (fun k => by rw [impl_ParsePuzzle.l0]) ?_
    exact Ev.neg (by omega) (Ev.eq (impl_end t m acc (by omega)) (he acc))
  | succ d ih =>
    intro i acc h ha
    have hi : i < L.length := by omega
    have hx := hz _ (List.getElem_mem hi)
    have hcs := cutT_size 46 L[i]
    have stop : ∀ W, Ev (fun k => impl_ParsePuzzle.j1 k t b W L (L.length : Int) (i : Int) true m acc) (0, [], false) := fun W => by
      refine Ev.step (fun k => by rw [impl_ParsePuzzle.j1]) ?_
      exact Ev.pos rfl (Ev.eq (impl_end t m acc (by omega)) (he acc))
    refine Ev.step (fun k => by rw [impl_ParsePuzzle.l0]) ?_
    refine Ev.pos (by omega) (Ev.pos (by omega) (Ev.pos (by omega) ?_))
    rw [rdS_nat hi]
    refine Ev.vbind (show strings_Split.f L[i] ⟨#[46]⟩ = some (cutT 46 L[i]) by unfold strings_Split.f; rw [if_pos ⟨rfl, by omega⟩, split_cut]) (Ev.ite (fun _ => stop _) (fun _ => ?_))
    by_cases h3 : (cutT 46 L[i]).length = 3
    · obtain ⟨p, q, r, e⟩ : ∃ p q r, cutT 46 L[i] = [p, q, r] := by
        match h : cutT 46 L[i], h3 with
        | [p, q, r], _ => exact ⟨p, q, r, rfl⟩
      rw [e] at hcs ⊢
      have ih := ih (i + 1) (acc ++ [⟨atoiV p, atoiV q, atoiV r⟩]) (by omega) (by simp; omega)
      show Ev (fun k => impl_ParsePuzzle.j1 k t b [p, q, r] L (L.length : Int) (i : Int) false m acc) (0, [], false)
      refine Ev.step (fun k => by rw [impl_ParsePuzzle.j1]) ?_
      have az : ∀ y ∈ [p, q, r], strconv_Atoi.f y = some (atoiV y, false) := fun y hy => by unfold strconv_Atoi.f; rw [if_pos (by have := hcs y hy; omega)]
      refine Ev.neg (by simp) (Ev.pos (by simp) (Ev.vbind (az p (by simp)) (Ev.pos (by simp) (Ev.vbind (az q (by simp)) (Ev.pos (by simp) (Ev.vbind (az r (by simp)) (Ev.pos (by omega) ?_)))))))
      rw [wrap_nat (by omega)]
      exact ih
    · have e : (((cutT 46 L[i]).length : Int) != 3) = true := by simp; omega
      rw [e]
      exact stop _
end
section
variable (t : ByteArray) (l : List S51) (hl : l.length ≤ 20) (hw : ∀ y ∈ l, CluOk y)
theorem spec_yes (hl : l.length ≤ 20) (hw : ∀ y ∈ l, CluOk y) (m : Int) (hg : puzB m l = true) (ht : puzT m l = t) (d : Nat) : ∀ (i : Nat), i + d = l.length →
    Ev (fun k => spec_pzParse.l0 k t (l.map clueT) ((l.map clueT).length : Int) (i : Int) m (l.take i)) (m, l, true) := by
  induction d with
  | zero =>
    intro i h
    refine Ev.step (fun k => by rw [spec_pzParse.l0]) ?_
    rw [List.take_of_length_le (by omega)]
    refine Ev.neg (by simp; omega) (Ev.eq (spec_end t m l (by omega)) ?_)
    rw [decide_eq_true (show puzB m l = true ∧ puzT m l = t from ⟨hg, ht⟩)]
  | succ d ih =>
    intro i h
    have hi : i < l.length := by omega
    have hi2 : i < (l.map clueT).length := by simpa using hi
    have hy := hw _ (List.getElem_mem hi)
    have hx := clueT_le hy
    obtain ⟨z0, z1, z2⟩ := clue_sizes hy
    obtain ⟨⟨a0, a1⟩, ⟨b0, b1⟩, c0, c1⟩ := id hy
    refine Ev.step (fun k => by rw [spec_pzParse.l0]) ?_
    refine Ev.pos (by omega) (Ev.pos (by omega) (Ev.pos (by omega) ?_))
    rw [rdS_nat hi2, wrap_nat (by omega), List.getElem_map]
    refine Ev.bind (Ev.eq (l1Split_ev (clueT l[i]) 46 (by omega)) (clue_cut hy)) (Ev.pos (by simp) (Ev.pos (by simp) ?_))
    refine Ev.bind (Ev.eq (l1Read_ev _ (show (decB l[i].f0).size ≤ _ by omega)) (readV_dec a0 (by omega))) (Ev.pos (by simp) (Ev.bind (Ev.eq (l1Read_ev _ (show (decB l[i].f1).size ≤ _ by omega)) (readV_dec b0 (by omega))) (Ev.pos (by simp) (Ev.bind (Ev.eq (l1Read_ev _ (show (decB l[i].f2).size ≤ _ by omega)) (readV_dec c0 (by omega))) (Ev.pos (by simp; omega) ?_)))))
    have ih := ih (i + 1) (by omega)
    rw [take_succ_get hi] at ih
    rw [S_eta]
    exact ih
theorem impl_yes (hl : l.length ≤ 20) (hw : ∀ y ∈ l, CluOk y) (b : ByteArray) (hb : ¬ b.toList = []) (m : Int) (hg : puzB m l = true) (ht : puzT m l = t) (d : Nat) : ∀ (i : Nat), i + d = l.length →
    Ev (fun k => impl_ParsePuzzle.l0 k t b (l.map clueT) ((l.map clueT).length : Int) (i : Int) m (l.take i)) (m, l, true) := by
  induction d with
  | zero =>
    intro i h
    refine Ev.step (fun k => by rw [impl_ParsePuzzle.l0]) ?_
    rw [List.take_of_length_le (by omega)]
    refine Ev.neg (by simp; omega) (Ev.eq (impl_end t m l (by omega)) ?_)
    unfold endP
    rw [if_pos ⟨hg, ht⟩]
  | succ d ih =>
    intro i h
    have hi : i < l.length := by omega
    have hi2 : i < (l.map clueT).length := by simpa using hi
    have hy := hw _ (List.getElem_mem hi)
    have hx := clueT_le hy
    obtain ⟨⟨a0, a1⟩, ⟨b0, b1⟩, c0, c1⟩ := id hy
    refine Ev.step (fun k => by rw [impl_ParsePuzzle.l0]) ?_
    refine Ev.pos (by omega) (Ev.pos (by omega) (Ev.pos (by omega) ?_))
    rw [rdS_nat hi2, List.getElem_map]
    refine Ev.vbind (show strings_Split.f (clueT l[i]) ⟨#[46]⟩ = some [decB l[i].f0, decB l[i].f1, decB l[i].f2] by unfold strings_Split.f; rw [if_pos ⟨rfl, by omega⟩, split_cut, clue_cut hy]) (Ev.neg hb ?_)
    show Ev (fun k => impl_ParsePuzzle.j1 k t b [decB l[i].f0, decB l[i].f1, decB l[i].f2] (l.map clueT) ((l.map clueT).length : Int) (i : Int) false m (l.take i)) (m, l, true)
    refine Ev.step (fun k => by rw [impl_ParsePuzzle.j1]) ?_
    refine Ev.neg (by simp) (Ev.pos (by simp) (Ev.vbind (atoi_dec a0 (by omega)) (Ev.pos (by simp) (Ev.vbind (atoi_dec b0 (by omega)) (Ev.pos (by simp) (Ev.vbind (atoi_dec c0 (by omega)) (Ev.pos (by simp; omega) ?_)))))))
    rw [wrap_nat (by omega)]
    have ih := ih (i + 1) (by omega)
    rw [take_succ_get hi] at ih
    rw [S_eta]
    exact ih
end
theorem comma_nil : commaT [] = (⟨#[]⟩ : ByteArray) := rfl
theorem comma_pos (x : ByteArray) (r : List ByteArray) : x.size ≤ (commaT (x :: r)).size := by
  show x.data.toList.length ≤ (Lib.join ((x :: r).map (·.data.toList)) [44]).length
  rw [List.map_cons, Lib.join_cons, List.length_append]
  omega
theorem parsePuzzle_key (t : ByteArray) (ht : t.size ≤ 1048576) :
    ∃ (m : Int) (l : List S51) (b : Bool), Ev (fun k => spec_ParsePuzzle.f k t) (m, l, b) ∧ Ev (fun k => impl_ParsePuzzle.f k t) (m, l, b) ∧ l.length ≤ 1048576 := by
  by_cases hP : ∃ m l, puzB m l = true ∧ puzT m l = t
  · obtain ⟨m, l, g, e⟩ := hP
    obtain ⟨m0, m1, l0, hw⟩ := puz_facts g
    have z1 := dec_le1 m (by omega) (by omega)
    have z2 : (commaT (l.map clueT)).size ≤ 7 * l.length := by
      have := comma_size (l.map clueT) (clues_le l hw) l.length (by simp)
      rwa [List.take_of_length_le (by simp)] at this
    have z3 : t.size ≤ 100 := by
      rw [← e]; unfold puzT
      rw [size_append, size_append]; show _ + 1 + _ ≤ _; omega
    have n1 : (58 : UInt8) ∉ (decB m).data.toList := decB_no (by omega) (by omega) (by decide)
    have n2 : (58 : UInt8) ∉ (commaT (l.map clueT)).data.toList := comma_no 58 (by decide) (by
      intro x hx
      obtain ⟨y, hy, rfl⟩ := List.mem_map.mp hx
      exact clue_no (hw y hy) (by decide) (by decide))
    have n4 : ∀ x ∈ l.map clueT, (44 : UInt8) ∉ x.data.toList := by
      intro x hx
      obtain ⟨y, hy, rfl⟩ := List.mem_map.mp hx
      exact clue_no (hw y hy) (by decide) (by decide)
    have c58 : cutT 58 t = [decB m, commaT (l.map clueT)] := by rw [← e]; exact cutT_two 58 _ _ n1 n2
    have cc : strings_Cut.f t ⟨#[58]⟩ = some (decB m, commaT (l.map clueT), true) := by rw [← e]; exact cut_two 58 _ _ n1 (by omega)
    have sj : Ev (fun k => spec_pzParse.j0 k t [decB m, commaT (l.map clueT)] false) (m, l, true) := by
      refine Ev.step (fun k => by rw [spec_pzParse.j0]) ?_
      refine Ev.neg (by simp) (Ev.pos (by simp) (Ev.bind (Ev.eq (l1Read_ev (decB m) (by omega)) (readV_dec (by omega) (by omega))) (Ev.pos (by simp) ?_)))
      show Ev (fun k => if ((commaT (l.map clueT)).size : Int) > 0 then _ else _) _
      cases l with
      | nil =>
        refine Ev.neg (by show ¬ ((0 : Nat) : Int) > 0; omega) (Ev.eq (spec_end t m [] (by simp)) ?_)
        rw [decide_eq_true (show puzB m [] = true ∧ puzT m [] = t from ⟨g, e⟩)]
      | cons x r =>
        have hx : 1 ≤ (clueT x).size := by
          unfold clueT
          rw [size_append, size_append, size_append, size_append, dot_size]; omega
        have hc := comma_pos (clueT x) (r.map clueT)
        refine Ev.pos (by rw [List.map_cons]; omega) (Ev.bind (Ev.eq (l1Split_ev _ 44 (show (commaT ((x :: r).map clueT)).size ≤ _ by omega)) (cut_comma (by simp) n4)) ?_)
        exact spec_yes t (x :: r) (by omega) hw m g e (x :: r).length 0 (by omega)
    refine ⟨m, l, true, ?_, ?_, by omega⟩
    · unfold spec_ParsePuzzle.f
      refine Ev.bind (a := (m, l, true)) ?_ (Ev.pos rfl (Ev.val rfl))
      unfold spec_pzParse.f
      exact Ev.bind (Ev.eq (l1Split_ev t 58 (by omega)) c58) (Ev.neg (by omega) sj)
    · unfold impl_ParsePuzzle.f
      refine Ev.vbind cc (Ev.vbind (atoi_dec (by omega) (by omega)) ?_)
      cases l with
      | nil =>
        refine Ev.vbind (show strings_Split.f (commaT []) ⟨#[44]⟩ = some [⟨#[]⟩] by unfold strings_Split.f; rw [if_pos ⟨rfl, by show (0 : Nat) ≤ _; omega⟩, split_cut]; rfl) ?_
        refine Ev.step (fun k => by rw [impl_ParsePuzzle.l0]) ?_
        refine Ev.pos (by simp) (Ev.pos (by omega) (Ev.pos (by simp) ?_))
        refine Ev.vbind (show strings_Split.f (rdOf ByteArray.empty [⟨#[]⟩] 0) ⟨#[46]⟩ = some [⟨#[]⟩] by unfold strings_Split.f; rw [if_pos ⟨rfl, by show (0 : Nat) ≤ _; omega⟩, split_cut]; rfl) (Ev.pos (by rw [toList_data]; rfl) ?_)
        refine Ev.step (fun k => by rw [impl_ParsePuzzle.j1]) ?_
        refine Ev.pos rfl (Ev.eq (impl_end t m [] (by simp)) ?_)
        unfold endP
        rw [if_pos ⟨g, e⟩]
      | cons x r =>
        have hx : 1 ≤ (clueT x).size := by
          unfold clueT
          rw [size_append, size_append, size_append, size_append, dot_size]; omega
        have hc := comma_pos (clueT x) (r.map clueT)
        refine Ev.vbind (show strings_Split.f (commaT ((x :: r).map clueT)) ⟨#[44]⟩ = some ((x :: r).map clueT) by unfold strings_Split.f; rw [if_pos ⟨rfl, by omega⟩, split_cut, cut_comma (by simp) n4]) ?_
        refine impl_yes t (x :: r) (by omega) hw _ ?_ m g e (x :: r).length 0 (by omega)
        intro h
        rw [toList_data] at h
        have h2 : (commaT ((x :: r).map clueT)).size = 0 := by rw [size_data, h]; rfl
        rw [List.map_cons] at h2
        omega
  · have hN : ∀ m l, ¬ (puzB m l = true ∧ puzT m l = t) := fun m l h => hP ⟨m, l, h⟩
    refine ⟨0, [], false, ?_, ?_, by simp⟩
    · have key : ∃ m' l', Ev (fun k => spec_pzParse.f k t) (m', l', false) := by
        unfold spec_pzParse.f
        have bad : ∀ P, Ev (fun k => spec_pzParse.j0 k t P true) (0, [], false) := fun P => by
          refine Ev.step (fun k => by rw [spec_pzParse.j0]) ?_
          exact Ev.pos rfl (Ev.val rfl)
        by_cases h100 : (t.size : Int) > 100
        · exact ⟨0, [], Ev.bind (l1Split_ev t 58 (by omega)) (Ev.pos h100 (bad _))⟩
        by_cases h2 : (cutT 58 t).length = 2
        · have hcs := cutT_size 58 t
          obtain ⟨a, b, e⟩ : ∃ a b, cutT 58 t = [a, b] := by
            match h : cutT 58 t, h2 with
            | [a, b], _ => exact ⟨a, b, rfl⟩
          rw [e] at hcs
          have ha := hcs a (by simp)
          have hb := hcs b (by simp)
          have hl := cutT_len 44 b
          have main : ∃ m' l', Ev (fun k => spec_pzParse.j0 k t [a, b] false) (m', l', false) := by
            by_cases hb0 : ((rdOf ByteArray.empty [a, b] 1).size : Int) > 0
            · obtain ⟨m', l', hh⟩ := spec_no t (cutT 44 b) hN (by omega) (fun x hx => by have := cutT_size 44 b x hx; omega) (readV a) (cutT 44 b).length 0 [] (by omega) rfl
              refine ⟨m', l', ?_⟩
              refine Ev.step (fun k => by rw [spec_pzParse.j0]) ?_
              exact Ev.neg (by simp) (Ev.pos (by simp) (Ev.bind (l1Read_ev a (by omega)) (Ev.pos (by simp) (Ev.pos hb0 (Ev.bind (l1Split_ev b 44 (by omega)) hh)))))
            · refine ⟨readV a, [], ?_⟩
              refine Ev.step (fun k => by rw [spec_pzParse.j0]) ?_
              refine Ev.neg (by simp) (Ev.pos (by simp) (Ev.bind (l1Read_ev a (by omega)) (Ev.pos (by simp) (Ev.neg hb0 (Ev.eq (spec_end t (readV a) [] (by simp)) ?_)))))
              rw [decide_eq_false (hN _ _)]
          obtain ⟨m', l', hh⟩ := main
          exact ⟨m', l', Ev.bind (Ev.eq (l1Split_ev t 58 (by omega)) e) (Ev.neg h100 hh)⟩
        · have e : (((cutT 58 t).length : Int) != 2) = true := by simp; omega
          exact ⟨0, [], Ev.bind (l1Split_ev t 58 (by omega)) (Ev.neg h100 (by rw [e]; exact bad _))⟩
      obtain ⟨m', l', hh⟩ := key
      unfold spec_ParsePuzzle.f
      exact Ev.bind hh (Ev.neg (by simp) (Ev.val rfl))
    · unfold impl_ParsePuzzle.f
      obtain ⟨a, b, gg, hc, ha, hb⟩ := cut_ex t 58 ht
      have hl := cutT_len 44 b
      refine Ev.vbind hc (Ev.vbind (show strconv_Atoi.f a = some (atoiV a, false) by unfold strconv_Atoi.f; rw [if_pos (by omega)]) ?_)
      refine Ev.vbind (show strings_Split.f b ⟨#[44]⟩ = some (cutT 44 b) by unfold strings_Split.f; rw [if_pos ⟨rfl, by omega⟩, split_cut]) ?_
      exact impl_no t (cutT 44 b) b hN (by omega) (fun x hx => by have := cutT_size 44 b x hx; omega) (atoiV a) (cutT 44 b).length 0 [] (by omega) rfl
end Go.Proofs.YthnippdgfhbneaaDoor.PA

/-! The laws' own helpers over puzzles: copying keeps them, sizes are counted, equality is equality. No condition but bounds. -/
namespace Go.Proofs.YthnippdgfhbneaaDoor.PA
open Go.RowKit Go.Proofs.YthnippdgfhbneaaDoorW.PrintWords
set_option linter.unusedVariables false

def conv (x : S67) : S51 := ⟨x.f0, x.f1, x.f2⟩
theorem rdT_natL {l : List S67} {i : Nat} (h : i < l.length) : rd_T67 l (i : Int) = l[i] := by simp [rd_T67, h]
theorem rdT_natI {l : List S51} {i : Nat} (h : i < l.length) : rd_T51 l (i : Int) = l[i] := by simp [rd_T51, h]
theorem toClueS_l0 (l : List S67) (hl : l.length ≤ 4611686018427387903) : ∀ (d i : Nat) (x : List S51), i + d = l.length → x.length = l.length → x.take i = (l.map conv).take i → Ev (fun k => laws_toClueS.l0 k l x (i : Int)) (l.map conv)
  | 0, i, x, h, hx, ht => by
    refine Ev.step (fun k => by rw [laws_toClueS.l0]) ?_
    refine Ev.neg (by omega) (Ev.val ?_)
    rw [List.take_of_length_le (by omega), List.take_of_length_le (by simp; omega)] at ht
    rw [ht]
  | d + 1, i, x, h, hx, ht => by
    refine Ev.step (fun k => by rw [laws_toClueS.l0]) ?_
    refine Ev.pos (by omega) (Ev.pos (by omega) (Ev.vbind rfl (Ev.pos (by omega) ?_)))
    rw [rdT_natL (show i < l.length by omega), wrap_nat (by omega), Int.toNat_natCast]
    refine toClueS_l0 l hl d (i + 1) _ (by omega) (by simpa using hx) ?_
    rw [take_succ_get (by simp; omega), take_succ_get (show i < (l.map conv).length by simp; omega), List.take_set_of_le (Nat.le_refl _), ht]
    simp [conv]
theorem toClueS_ev {l : List S67} (hl : l.length ≤ 1048576) : Ev (fun k => laws_toClueS.f k l) (l.map conv) := by
  unfold laws_toClueS.f
  refine Ev.pos (by omega) (Ev.pos (by omega) ?_)
  exact toClueS_l0 l (by omega) l.length 0 _ (by omega) (by simp) (by simp)
theorem toPuzzle_ev {d : Int} {l : List S67} (hl : l.length ≤ 1048576) : Ev (fun k => laws_toPuzzle.f k d l) (d, l.map conv) := by
  unfold laws_toPuzzle.f
  exact Ev.bind (toClueS_ev hl) (Ev.val rfl)
theorem S_ext {a b : S51} (h0 : a.f0 = b.f0) (h1 : a.f1 = b.f1) (h2 : a.f2 = b.f2) : a = b := by
  cases a; cases b; simp at h0 h1 h2; simp [h0, h1, h2]
theorem eqClueS_l0 (a : List S51) (hl : a.length ≤ 4611686018427387903) : ∀ (d i : Nat), i + d = a.length → Ev (fun k => laws_eqClueS.l0 k a a (i : Int)) true
  | 0, i, h => by
    refine Ev.step (fun k => by rw [laws_eqClueS.l0]) ?_
    exact Ev.neg (by omega) (Ev.val rfl)
  | d + 1, i, h => by
    refine Ev.step (fun k => by rw [laws_eqClueS.l0]) ?_
    refine Ev.pos (by omega) (Ev.pos (by omega) (Ev.pos (by omega) ?_))
    rw [wrap_nat (by omega)]
    refine Ev.vbind (a := true) (by unfold laws_eqClue.f; rw [if_pos rfl, if_pos rfl, if_pos rfl]) (Ev.pos rfl ?_)
    exact eqClueS_l0 a hl d (i + 1) (by omega)
theorem eqPuzzle_ev {d : Int} {a : List S51} (hl : a.length ≤ 1048576) : Ev (fun k => laws_eqPuzzle.f k d a d a) true := by
  unfold laws_eqPuzzle.f laws_eqClueS.f
  exact Ev.pos rfl (Ev.bind (Ev.pos rfl (eqClueS_l0 a (by omega) a.length 0 (by omega))) (Ev.pos rfl (Ev.val rfl)))
theorem eqPuzzle_ev1 {d : Int} {a : List S51} (hl : a.length ≤ 1048577) : Ev (fun k => laws_eqPuzzle.f k d a d a) true := by
  unfold laws_eqPuzzle.f laws_eqClueS.f
  exact Ev.pos rfl (Ev.bind (Ev.pos rfl (eqClueS_l0 a (by omega) a.length 0 (by omega))) (Ev.pos rfl (Ev.val rfl)))
theorem szPuzzle_f {d : Int} {l : List S67} (hl : l.length ≤ maxLen) : ∃ v, laws_szPuzzle.f d l 1048576 = some v ∧ (v < 0 ∨ l.length ≤ 1048576) := by
  unfold maxLen at hl
  unfold laws_szPuzzle.f laws_szClueS.f
  have hw : wrap64 (1048576 - (l.length : Int)) = 1048576 - (l.length : Int) := wrap_in (by omega) (by omega)
  rw [hw]
  by_cases e : 1048576 - (l.length : Int) < 0
  · rw [if_pos e, Option.bind_some, if_pos (by omega)]; exact ⟨-1, rfl, .inl (by omega)⟩
  · rw [if_neg e, Option.bind_some, if_neg e]; exact ⟨_, rfl, .inr (by omega)⟩
end Go.Proofs.YthnippdgfhbneaaDoor.PA

/-! The laws' marks on rows of clues: marking a row writes numbers that the holder then finds. No condition but bounds. -/
namespace Go.Proofs.YthnippdgfhbneaaDoor.PA
open Go.RowKit Go.Proofs.YthnippdgfhbneaaDoorW.PrintWords
set_option linter.unusedVariables false

def mkC (n : Nat) : S51 := ⟨(n : Int), ((n + 1 : Nat) : Int), ((n + 2 : Nat) : Int)⟩
def marksC (n m : Nat) : List S51 := (List.range m).map (fun j => mkC (n + 3 * j))
theorem marksC_len (n m : Nat) : (marksC n m).length = m := by simp [marksC]
theorem rdT_set {l : List S51} {i : Nat} (h : i < l.length) (v : S51) : rd_T51 (l.set i v) (i : Int) = v := by
  rw [rdT_nat (by simpa using h), List.getElem_set_self]
theorem markC_l0 (n m : Nat) (hn : n + 3 * m ≤ 1099511627776) : ∀ (d i : Nat) (x : List S51), i + d = m → x.length = m → x.take i = (marksC n m).take i → Ev (fun k => laws_markClueS.l0 k x ((n + 3 * i : Nat) : Int) (i : Int)) (((n + 3 * m : Nat) : Int), marksC n m)
  | 0, i, x, h, hx, ht => by
    refine Ev.step (fun k => by rw [laws_markClueS.l0]) ?_
    refine Ev.neg (by omega) (Ev.val ?_)
    rw [List.take_of_length_le (by omega), List.take_of_length_le (by rw [marksC_len]; omega)] at ht
    rw [ht, show n + 3 * i = n + 3 * m by omega]
  | d + 1, i, x, h, hx, ht => by
    refine Ev.step (fun k => by rw [laws_markClueS.l0]) ?_
    refine Ev.pos (by omega) (Ev.pos (by omega) ?_)
    rw [wrap_nat (show n + 3 * i < 4611686018427387904 by omega), wrap_nat (show n + 3 * i + 1 < 4611686018427387904 by omega), wrap_nat (show n + 3 * i + 1 + 1 < 4611686018427387904 by omega), wrap_nat (show i < 4611686018427387904 by omega), Int.toNat_natCast]
    have hi : i < x.length := by omega
    refine Ev.vbind rfl (Ev.vbind rfl ?_)
    have hs : ∀ v : S51, rd_T51 (x.set i v) (i : Int) = v := fun v => rdT_set hi v
    simp only [List.set_set, hs]
    refine markC_l0 n m hn d (i + 1) _ (by omega) (by simpa using hx) ?_
    rw [take_succ_get (by simp; omega), take_succ_get (show i < (marksC n m).length by rw [marksC_len]; omega), List.take_set_of_le (Nat.le_refl _), ht]
    simp [marksC, mkC]
    omega
theorem markClueS_ev (l : List S51) (n : Nat) (hn : n + 3 * l.length ≤ 1099511627776) : Ev (fun k => laws_markClueS.f k l (n : Int)) (((n + 3 * l.length : Nat) : Int), marksC n l.length) :=
  markC_l0 n l.length hn l.length 0 l (by omega) rfl (by simp)
theorem markPuzzle_ev (d : Int) (l : List S51) (n : Nat) (hn : n + 3 * l.length ≤ 1099511627776) : Ev (fun k => laws_markPuzzle.f k d l (n : Int)) (((n + 3 * l.length : Nat) : Int), marksC n l.length) := by
  unfold laws_markPuzzle.f
  exact Ev.bind (markClueS_ev l n hn) (Ev.val rfl)
theorem heldC_l0 (n m : Nat) (hn : n + 3 * m ≤ 1099511627776) : ∀ (d i : Nat), i + d = m → Ev (fun k => laws_heldClueS.l0 k (marksC n m) ((n + 3 * i : Nat) : Int) (i : Int)) ((n + 3 * m : Nat) : Int)
  | 0, i, h => by
    refine Ev.step (fun k => by rw [laws_heldClueS.l0]) ?_
    refine Ev.neg (by rw [marksC_len]; omega) (Ev.val ?_)
    rw [show n + 3 * i = n + 3 * m by omega]
  | d + 1, i, h => by
    have hi : i < (marksC n m).length := by rw [marksC_len]; omega
    have hg : rd_T51 (marksC n m) (i : Int) = mkC (n + 3 * i) := by rw [rdT_nat hi]; simp [marksC]
    have ih := heldC_l0 n m hn d (i + 1) (by omega)
    refine Ev.step (fun k => by rw [laws_heldClueS.l0]) ?_
    rw [hg, wrap_nat (show n + 3 * i < 4611686018427387904 by omega), wrap_nat (show n + 3 * i + 1 < 4611686018427387904 by omega), wrap_nat (show n + 3 * i + 1 + 1 < 4611686018427387904 by omega), wrap_nat (show i < 4611686018427387904 by omega)]
    exact Ev.pos (by rw [marksC_len]; omega) (Ev.pos (by omega) (Ev.pos rfl (Ev.pos rfl (Ev.pos rfl ih))))
theorem heldClueS_ev (n m : Nat) (hn : n + 3 * m ≤ 1099511627776) : Ev (fun k => laws_heldClueS.f k (marksC n m) (n : Int)) ((n + 3 * m : Nat) : Int) :=
  heldC_l0 n m hn m 0 (by omega)
theorem heldPuzzle_ev (d : Int) (n m : Nat) (hn : n + 3 * m ≤ 1099511627776) : Ev (fun k => laws_heldPuzzle.f k d (marksC n m) (n : Int)) ((n + 3 * m : Nat) : Int) := by
  unfold laws_heldPuzzle.f
  exact Ev.bind (heldClueS_ev n m hn) (Ev.neg (by omega) (Ev.val rfl))
end Go.Proofs.YthnippdgfhbneaaDoor.PA
