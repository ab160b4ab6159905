/- The plain facts that the law FnExactRepairsOf's proof leans on, in one text: each part has its own sentence. No condition but bounds. -/
import Derived.Test.YtepkhpnoibillaaDoorPAx0
import Derived.Test.YtepkhpnoibillaaDoorPAx1
import Derived.Test.YtepkhpnoibillaaDoorPAx2
import Derived.Test.YtepkhpnoibillaaDoorPAx3
import Derived.Test.YtepkhpnoibillaaDoorPAx4
import Derived.Test.YtepkhpnoibillaaDoorPAx7
import Derived.Test.YtepkhpnoibillaaDoorPAx8
import Derived.Lib.Strings
import Derived.Test.YtepkhpnoibillaaDoorWWords
import Derived.Test.YtepkhpnoibillaaDoorWMore
import Derived.Test.YtepkhpnoibillaaDoorXX
import Derived.Lib.Bytealg
import Derived.Lib.SlicesCompact
/-! Plain facts that the laws' pure proofs share: answers from some number of rounds on, numbers without wrap, strings as lists of bytes. No condition. -/
namespace Go.Proofs.YtepkhpnoibillaaDoor.PA
open Go.RowKit Go.Proofs.YtepkhpnoibillaaDoorW.PrintWords
set_option linter.unusedVariables false

theorem Ev.pos {α : Type} {c : Prop} [Decidable c] {a b : Nat → Option α} {r : α} (hc : c) (h : Ev a r) : Ev (fun k => if c then a k else b k) r := Ev.congr (fun k => if_pos hc) h
theorem Ev.neg {α : Type} {c : Prop} [Decidable c] {a b : Nat → Option α} {r : α} (hc : ¬ c) (h : Ev b r) : Ev (fun k => if c then a k else b k) r := Ev.congr (fun k => if_neg hc) h
theorem Ev.ite {α : Type} {c : Prop} [Decidable c] {a b : Nat → Option α} {r : α} (h1 : c → Ev a r) (h2 : ¬ c → Ev b r) : Ev (fun k => if c then a k else b k) r := by
  by_cases hc : c
  · exact Ev.pos hc (h1 hc)
  · exact Ev.neg hc (h2 hc)
theorem Ev.val {α : Type} {o : Option α} {r : α} (h : o = some r) : Ev (fun _ => o) r := ⟨0, fun _ _ => h⟩
theorem Ev.vbind {α β : Type} {o : Option α} {f : Nat → α → Option β} {a : α} {r : β} (h : o = some a) (k : Ev (fun n => f n a) r) : Ev (fun n => o.bind (f n)) r := Ev.bind (g := fun _ => o) (Ev.val h) k
theorem Ev.unique {α : Type} {g : Nat → Option α} {a b : α} (h : Ev g a) (k : Ev g b) : a = b := by
  obtain ⟨K, h⟩ := h
  obtain ⟨K', k⟩ := k
  exact Option.some.inj ((h (max K K') (Nat.le_max_left _ _)).symm.trans (k (max K K') (Nat.le_max_right _ _)))
theorem Ev.eq {α : Type} {g : Nat → Option α} {a b : α} (h : Ev g a) (e : a = b) : Ev g b := e ▸ h

theorem wrap_nat {i : Nat} (h : i < 4611686018427387904) : wrap64 ((i : Int) + 1) = ((i + 1 : Nat) : Int) := by unfold wrap64; omega
theorem wrap_in {n : Int} (h : -9223372036854775808 ≤ n) (h2 : n ≤ 9223372036854775807) : wrap64 n = n := by unfold wrap64; omega
theorem rd_nat {l : List Int} {i : Nat} (h : i < l.length) : rd l (i : Int) = l[i] := by simp [rd, h]
theorem rdS_nat {l : List ByteArray} {i : Nat} (h : i < l.length) : rdOf ByteArray.empty l (i : Int) = l[i] := by simp [rdOf, h]
theorem bt_nat {s : ByteArray} {i : Nat} (h : i < s.size) : bt s (i : Int) = ((s.data.toList[i]'(by simpa using h)).toNat : Int) := by
  unfold bt
  rw [dif_pos (by simpa using h)]
  rfl
theorem toList_data (s : ByteArray) : s.toList = s.data.toList := Go.Lib.toList_data s
theorem size_data (s : ByteArray) : s.size = s.data.toList.length := rfl
theorem ba_ext {a b : ByteArray} (h : a.data.toList = b.data.toList) : a = b := by
  cases a with
  | mk a => cases b with
    | mk b => exact congrArg ByteArray.mk (Array.toList_inj.mp h)
theorem toList_inj {a b : ByteArray} : a.toList = b.toList ↔ a = b := ⟨fun h => ba_ext (by rw [← toList_data, ← toList_data, h]), fun h => by rw [h]⟩
theorem toList_mk (l : List UInt8) : (⟨l.toArray⟩ : ByteArray).toList = l := by rw [toList_data]
theorem data_extract (s : ByteArray) (a b : Nat) : (s.extract a b).data.toList = (s.data.toList.take b).drop a := by
  rw [ByteArray.data_extract, Array.toList_extract, List.extract_eq_take_drop, List.drop_take]
theorem data_append (a b : ByteArray) : (a ++ b).data.toList = a.data.toList ++ b.data.toList := by
  rw [ByteArray.data_append, Array.toList_append]
theorem size_append (a b : ByteArray) : (a ++ b).size = a.size + b.size := by rw [size_data, data_append, List.length_append]; rfl
theorem take_succ_get {α : Type} {l : List α} {i : Nat} (h : i < l.length) : l.take (i + 1) = l.take i ++ [l[i]] := by
  rw [List.take_add_one, List.getElem?_eq_getElem h]; rfl

/-- digits alone -/
def digB (c : UInt8) : Bool := decide (48 ≤ c.toNat) && decide (c.toNat ≤ 57)
def digitsB (s : ByteArray) (lo hi : Int) : Bool := decide (lo ≤ (s.size : Int)) && decide ((s.size : Int) ≤ hi) && s.data.toList.all digB
theorem contains_dig (c : UInt8) : ([48, 49, 50, 51, 52, 53, 54, 55, 56, 57] : List UInt8).contains c = digB c := by
  have h : ∀ n : Fin 256, ([48, 49, 50, 51, 52, 53, 54, 55, 56, 57] : List UInt8).contains (UInt8.ofNat n.val) = digB (UInt8.ofNat n.val) := by decide +kernel
  have := h ⟨c.toNat, c.toNat_lt⟩
  simpa using this
end Go.Proofs.YtepkhpnoibillaaDoor.PA

/-! Is a number within bounds: the reference's and the program's own. No condition. -/
namespace Go.Proofs.YtepkhpnoibillaaDoor.PA
open Go.RowKit Go.Proofs.YtepkhpnoibillaaDoorW.PrintWords
set_option linter.unusedVariables false

theorem l1In_f (a b c : Int) : spec_l1In.f a b c = some (decide (b ≤ a) && decide (a ≤ c)) := by
  unfold spec_l1In.f
  by_cases h : a ≥ b
  · rw [if_pos h]; simp [show b ≤ a from h]
  · rw [if_neg h]; simp [show ¬ b ≤ a from h]
theorem in_f (a b c : Int) : impl_in.f a b c = some (decide (b ≤ a) && decide (a ≤ c)) := by
  unfold impl_in.f
  by_cases h : a ≥ b
  · rw [if_pos h]; simp [show b ≤ a from h]
  · rw [if_neg h]; simp [show ¬ b ≤ a from h]
end Go.Proofs.YtepkhpnoibillaaDoor.PA

/-! The laws' equality over lists of whole numbers is equality. No condition but bounds. -/
namespace Go.Proofs.YtepkhpnoibillaaDoor.PA
open Go.RowKit Go.Proofs.YtepkhpnoibillaaDoorW.PrintWords
set_option linter.unusedVariables false

theorem eqIntS_l0 (a b : List Int) (hab : a.length = b.length) (hl : a.length ≤ 4611686018427387903) : ∀ (d i : Nat), i + d = a.length → a.take i = b.take i → Ev (fun k => laws_eqIntS.l0 k a b (i : Int)) (decide (a = b))
  | 0, i, h, ht => by
    refine Ev.step (fun k => by rw [laws_eqIntS.l0]) ?_
    refine Ev.neg (by omega) (Ev.val ?_)
    rw [List.take_of_length_le (by omega), List.take_of_length_le (by omega)] at ht
    simp [ht]
  | d + 1, i, h, ht => by
    refine Ev.step (fun k => by rw [laws_eqIntS.l0]) ?_
    refine Ev.pos (by omega) (Ev.pos (by omega) (Ev.pos (by omega) ?_))
    rw [rd_nat (show i < a.length by omega), rd_nat (show i < b.length by omega), wrap_nat (by omega)]
    refine Ev.ite (fun e => ?_) (fun e => Ev.val ?_)
    · refine eqIntS_l0 a b hab hl d (i + 1) (by omega) ?_
      rw [take_succ_get (by omega), take_succ_get (by omega), ht, e]
    · have : ¬ a = b := fun e2 => e (by subst e2; rfl)
      simp [this]
theorem eqIntS_ev {a b : List Int} (hl : a.length ≤ 4611686018427387903) : Ev (fun k => laws_eqIntS.f k a b) (decide (a = b)) := by
  unfold laws_eqIntS.f
  refine Ev.ite (fun e => ?_) (fun e => Ev.val ?_)
  · exact eqIntS_l0 a b (by omega) hl a.length 0 (by omega) (by simp)
  · have : ¬ a = b := fun e2 => e (by rw [e2])
    simp [this]
end Go.Proofs.YtepkhpnoibillaaDoor.PA

/-! The laws' own helpers over lists of whole numbers: copying keeps them. No condition but bounds. -/
namespace Go.Proofs.YtepkhpnoibillaaDoor.PA
open Go.RowKit Go.Proofs.YtepkhpnoibillaaDoorW.PrintWords
set_option linter.unusedVariables false

theorem toIntS_l0 (l : List Int) (hl : l.length ≤ 4611686018427387903) : ∀ (d i : Nat) (x : List Int), i + d = l.length → x.length = l.length → x.take i = l.take i → Ev (fun k => laws_toIntS.l0 k l x (i : Int)) l
  | 0, i, x, h, hx, ht => by
    refine Ev.step (fun k => by rw [laws_toIntS.l0]) ?_
    refine Ev.neg (by omega) (Ev.val ?_)
    rw [List.take_of_length_le (by omega), List.take_of_length_le (by omega)] at ht
    rw [ht]
  | d + 1, i, x, h, hx, ht => by
    refine Ev.step (fun k => by rw [laws_toIntS.l0]) ?_
    refine Ev.pos (by omega) (Ev.pos (by omega) (Ev.pos (by omega) ?_))
    rw [rd_nat (show i < l.length by omega), wrap_nat (by omega), Int.toNat_natCast]
    refine toIntS_l0 l hl d (i + 1) _ (by omega) (by simpa using hx) ?_
    rw [take_succ_get (by simp; omega), take_succ_get (show i < l.length by omega), List.take_set_of_le (Nat.le_refl _), ht]
    simp
theorem toIntS_ev {l : List Int} (hl : l.length ≤ 17592186044416) : Ev (fun k => laws_toIntS.f k l) l := by
  unfold laws_toIntS.f
  refine Ev.pos (by omega) (Ev.pos (by omega) ?_)
  exact toIntS_l0 l (by omega) l.length 0 _ (by omega) (by simp) (by simp)
end Go.Proofs.YtepkhpnoibillaaDoor.PA

/-! Schemes, sums and checks: the reference's and the program's are one. No condition but bounds. -/
namespace Go.Proofs.YtepkhpnoibillaaDoor.PA
open Go.RowKit Go.Proofs.YtepkhpnoibillaaDoorW.PrintWords
set_option linter.unusedVariables false

def wB (m w : Int) : Bool := decide (0 ≤ w) && decide (w ≤ wrap64 (m - 1))
def schB (m : Int) (l : List Int) : Bool := decide (2 ≤ m) && decide (m ≤ 13) && (decide (1 ≤ (l.length : Int)) && decide ((l.length : Int) ≤ 12)) && l.all (wB m)
theorem sch_l0 (m : Int) (l : List Int) (hl : l.length ≤ 1048576) : ∀ (d i : Nat), i + d = l.length → Ev (fun k => spec_l1All.l0 k 0 (wrap64 (m - 1)) l (l.length : Int) (i : Int)) ((l.drop i).all (wB m))
  | 0, i, h => by
    refine Ev.step (fun k => by rw [spec_l1All.l0]) ?_
    refine Ev.neg (by omega) (Ev.val ?_)
    rw [List.drop_of_length_le (by omega)]; rfl
  | d + 1, i, h => by
    have hi : i < l.length := by omega
    refine Ev.step (fun k => by rw [spec_l1All.l0]) ?_
    refine Ev.pos (by omega) (Ev.pos (by omega) (Ev.pos (by omega) ?_))
    rw [rd_nat hi, wrap_nat (by omega), List.drop_eq_getElem_cons hi, List.all_cons]
    refine Ev.vbind (l1In_f _ _ _) ?_
    have ih := sch_l0 m l hl d (i + 1) (by omega)
    show Ev (fun k => if wB m l[i] = true then _ else _) _
    cases wB m l[i] with
    | true => exact Ev.pos rfl (by rw [Bool.true_and]; exact ih)
    | false => exact Ev.neg (by simp) (Ev.val rfl)
theorem ckGood_ev (m : Int) (l : List Int) (hl : l.length ≤ 1048576) : Ev (fun k => spec_ckGood.f k m l) (schB m l) := by
  unfold spec_ckGood.f schB
  refine Ev.vbind (l1In_f _ _ _) ?_
  cases decide (2 ≤ m) && decide (m ≤ 13) with
  | false => exact Ev.neg (by simp) (Ev.val rfl)
  | true =>
    refine Ev.pos rfl (Ev.vbind (l1In_f _ _ _) ?_)
    cases decide (1 ≤ (l.length : Int)) && decide ((l.length : Int) ≤ 12) with
    | false => exact Ev.neg (by simp) (Ev.val rfl)
    | true =>
      have h := sch_l0 m l hl l.length 0 (by omega)
      rw [List.drop_zero] at h
      exact Ev.pos rfl (Ev.bind (g := fun k => spec_l1All.f k l 0 (wrap64 (m - 1))) h (Ev.val rfl))
theorem isScheme_f (m : Int) (l : List Int) (hl : l.length ≤ 1048576) : impl_IsScheme.f m l = some (schB m l) := by
  unfold impl_IsScheme.f schB
  have hany : anyO (fun x => (impl_in.f x 0 (wrap64 (m - 1))).map (!·)) l = some (l.any (fun x => !wB m x)) := by
    refine anyO_pure _ _ l (fun x _ => ?_)
    rw [in_f]; rfl
  rw [hany, Option.bind_some, if_pos (by omega)]
  have e : l.any (fun x => !wB m x) = !l.all (wB m) := by
    clear hany hl
    induction l with
    | nil => rfl
    | cons a l ih => rw [List.any_cons, List.all_cons, ih, Bool.not_and]
  rw [e, Bool.not_not]
theorem sch_facts {m : Int} {l : List Int} (h : schB m l = true) : 2 ≤ m ∧ m ≤ 13 ∧ 1 ≤ l.length ∧ l.length ≤ 12 ∧ ∀ w ∈ l, 0 ≤ w ∧ w ≤ 12 := by
  unfold schB at h
  simp only [Bool.and_eq_true, List.all_eq_true, decide_eq_true_eq] at h
  have hw : wrap64 (m - 1) = m - 1 := wrap_in (by omega) (by omega)
  refine ⟨by omega, by omega, by omega, by omega, fun w hw2 => ?_⟩
  have := h.2 w hw2
  unfold wB at this
  simp only [Bool.and_eq_true, decide_eq_true_eq, hw] at this
  omega
/-- the laws' own helpers -/
theorem szScheme_f {m : Int} {l : List Int} (hl : l.length ≤ maxLen) : ∃ v, laws_szScheme.f m l 1048576 = some v ∧ (v < 0 ∨ l.length ≤ 1048576) := by
  unfold maxLen at hl
  unfold laws_szScheme.f laws_szIntS.f
  have hw : wrap64 (1048576 - (l.length : Int)) = 1048576 - (l.length : Int) := wrap_in (by omega) (by omega)
  rw [hw]
  by_cases e : 1048576 - (l.length : Int) < 0
  · rw [if_pos e, Option.bind_some, if_pos (by omega)]; exact ⟨-1, rfl, .inl (by omega)⟩
  · rw [if_neg e, Option.bind_some, if_neg e]; exact ⟨_, rfl, .inr (by omega)⟩
theorem toScheme_ev {m : Int} {l : List Int} (hl : l.length ≤ 1048576) : Ev (fun k => laws_toScheme.f k m l) (m, l) := by
  unfold laws_toScheme.f
  exact Ev.bind (toIntS_ev (by omega)) (Ev.val rfl)
theorem eqScheme_ev {m : Int} {l : List Int} (hl : l.length ≤ 1048576) : Ev (fun k => laws_eqScheme.f k m l m l) true := by
  unfold laws_eqScheme.f
  exact Ev.pos rfl (Ev.bind (eqIntS_ev (by omega)) (Ev.pos (by simp) (Ev.val rfl)))
end Go.Proofs.YtepkhpnoibillaaDoor.PA

/-! Digits, as the reference's checks ask for them. No condition but bounds of size. -/
namespace Go.Proofs.YtepkhpnoibillaaDoor.PA
open Go.RowKit Go.Proofs.YtepkhpnoibillaaDoorW.PrintWords
set_option linter.unusedVariables false

theorem ckDigits_l0 (s : ByteArray) (hs : s.size ≤ 4611686018427387903) : ∀ (d i : Nat), i + d = s.size → Ev (fun k => spec_ckDigits.l0 k s (i : Int)) ((s.data.toList.drop i).all digB)
  | 0, i, h => by
    refine Ev.step (fun k => by rw [spec_ckDigits.l0]) (Ev.neg (by omega) (Ev.val ?_))
    rw [List.drop_of_length_le (by rw [← size_data]; omega)]; rfl
  | d + 1, i, h => by
    have hi : i < s.data.toList.length := by rw [← size_data]; omega
    refine Ev.step (fun k => by rw [spec_ckDigits.l0]) (Ev.pos (by omega) (Ev.pos (by omega) ?_))
    rw [bt_nat (by omega), List.drop_eq_getElem_cons hi, List.all_cons, wrap_nat (by omega)]
    unfold digB
    refine Ev.ite (fun e => Ev.val ?_) (fun e => Ev.ite (fun e2 => Ev.val ?_) (fun e2 => ?_))
    · simp only [show ¬ 48 ≤ (s.data.toList[i]).toNat by omega, decide_false, Bool.false_and]
    · simp only [show ¬ (s.data.toList[i]).toNat ≤ 57 by omega, decide_false, Bool.and_false, Bool.false_and]
    · simp only [show 48 ≤ (s.data.toList[i]).toNat by omega, show (s.data.toList[i]).toNat ≤ 57 by omega, decide_true, Bool.true_and]
      exact ckDigits_l0 s hs d (i + 1) (by omega)
end Go.Proofs.YtepkhpnoibillaaDoor.PA

/-! Digits alone, as the program asks for them. No condition but bounds of size. -/
namespace Go.Proofs.YtepkhpnoibillaaDoor.PA
open Go.RowKit Go.Proofs.YtepkhpnoibillaaDoorW.PrintWords
set_option linter.unusedVariables false

theorem over_digits (s : ByteArray) (hs : s.size ≤ 140737488355328) : impl_over.f s (⟨#[48, 49, 50, 51, 52, 53, 54, 55, 56, 57]⟩ : ByteArray) = some (s.data.toList.all digB) := by
  unfold impl_over.f
  rw [if_pos ⟨hs, by decide, by decide⟩]
  congr 1
  exact congrArg (fun f => s.data.toList.all f) (funext contains_dig)
end Go.Proofs.YtepkhpnoibillaaDoor.PA

/-! Sums of numbers with their checks: the reference's and the program's are one. No condition but bounds. -/
namespace Go.Proofs.YtepkhpnoibillaaDoor.PA
open Go.RowKit Go.Proofs.YtepkhpnoibillaaDoorW.PrintWords
set_option linter.unusedVariables false

def signs : ByteArray := ⟨#[48, 49, 50, 51, 52, 53, 54, 55, 56, 57, 88]⟩
/-- the place of a check's sign, or -1 -/
def chk (b : UInt8) : Int := Lib.indexByte signs.data.toList b
theorem chk_all : ∀ b : Fin 256, spec_ckCheck.l0 12 (b.val : Int) 0 = some (chk (UInt8.ofNat b.val)) := by decide +kernel
theorem chk_range : ∀ b : Fin 256, -1 ≤ chk (UInt8.ofNat b.val) ∧ chk (UInt8.ofNat b.val) ≤ 10 := by decide +kernel
theorem chk_le (b : UInt8) : -1 ≤ chk b ∧ chk b ≤ 10 := by
  have := chk_range ⟨b.toNat, b.toNat_lt⟩
  simpa using this
theorem ckCheck_ev (b : UInt8) : Ev (fun k => spec_ckCheck.f k (b.toNat : Int)) (chk b) := by
  refine ⟨12, fun k hk => ?_⟩
  have h := chk_all ⟨b.toNat, b.toNat_lt⟩
  simp only [UInt8.ofNat_toNat] at h
  have := leO_add (fun k => spec_ckCheck.mono (b.toNat : Int) k) (k := 12) h (k - 12)
  rwa [show 12 + (k - 12) = k by omega] at this
theorem indexByte_f (b : UInt8) : strings_IndexByte.f signs (b.toNat : Int) = some (chk b) := by
  unfold strings_IndexByte.f chk
  rw [Int.toNat_natCast]
  simp
theorem bt_of {s : ByteArray} {i : Nat} (h : i < s.size) : ∃ b : UInt8, bt s (i : Int) = (b.toNat : Int) := ⟨_, bt_nat h⟩
theorem bt_cut {s : ByteArray} {n i : Nat} (hn : n ≤ s.size) (hi : i < n) : bt (s.extract 0 n) (i : Int) = bt s (i : Int) := by
  have hz : (s.extract 0 n).size = n := by rw [ByteArray.size_extract]; omega
  rw [bt_nat (by omega), bt_nat (show i < s.size by omega)]
  have e : (s.extract 0 n).data.toList = s.data.toList.take n := by rw [data_extract, List.drop_zero]
  simp only [e, List.getElem_take]
section
variable (l : List Int) (hl : l.length ≤ 12) (hw : ∀ w ∈ l, 0 ≤ w ∧ w ≤ 12) (s t : ByteArray) (ht : t.size = l.length) (hs : l.length ≤ s.size) (hb : ∀ i, i < l.length → bt t ((i : Nat) : Int) = bt s ((i : Nat) : Int))
include hl hw ht hs hb
theorem sum_l0 (m : Int) : ∀ (d i : Nat) (x : Int), i + d = l.length → 0 ≤ x → x ≤ 4000 * (i : Int) →
    ∃ v, 0 ≤ v ∧ v ≤ 48000 ∧ Ev (fun k => spec_ckSum.l0 k s x l (l.length : Int) (i : Int)) v ∧ Ev (fun k => impl_Scheme_sum.l0 k t x (t.size : Int) (i : Int) m l) (v, m)
  | 0, i, x, h, h0, h1 => by
    refine ⟨x, h0, by omega, ?_, ?_⟩
    · refine Ev.step (fun k => by rw [spec_ckSum.l0]) ?_
      exact Ev.neg (by omega) (Ev.val rfl)
    · refine Ev.step (fun k => by rw [impl_Scheme_sum.l0]) ?_
      exact Ev.neg (by omega) (Ev.val rfl)
  | d + 1, i, x, h, h0, h1 => by
    have hi : i < l.length := by omega
    have hy := hw _ (List.getElem_mem hi)
    have hc : ∃ c : Int, c = (bt s (i : Int) - 48) % 256 ∧ 0 ≤ c ∧ c < 256 := ⟨_, rfl, by omega, by omega⟩
    obtain ⟨c, hc, hc0, hc1⟩ := hc
    have hp0 : 0 ≤ l[i] * c := Int.mul_nonneg hy.1 hc0
    have hp1 : l[i] * c ≤ 12 * 255 := Int.mul_le_mul hy.2 (by omega) hc0 (by decide)
    obtain ⟨v, v0, v1, e1, e2⟩ := sum_l0 m d (i + 1) (x + l[i] * c) (by omega) (by omega) (by omega)
    refine ⟨v, v0, v1, ?_, ?_⟩
    · refine Ev.step (fun k => by rw [spec_ckSum.l0]) ?_
      refine Ev.pos (by omega) (Ev.pos (by omega) (Ev.pos (by omega) (Ev.pos (by omega) ?_)))
      rw [rd_nat hi, ← hc, wrap_nat (by omega), wrap_in (n := l[i] * c) (by omega) (by omega), wrap_in (by omega) (by omega)]
      exact e1
    · refine Ev.step (fun k => by rw [impl_Scheme_sum.l0]) ?_
      refine Ev.pos (by omega) (Ev.pos (by omega) (Ev.pos (by omega) (Ev.vbind (a := c) (by rw [hb i hi, hc]; rfl) (Ev.pos (by omega) ?_))))
      rw [rd_nat hi, wrap_nat (by omega), Int.mul_comm c, wrap_in (n := l[i] * c) (by omega) (by omega), wrap_in (by omega) (by omega)]
      exact e2
theorem sum_ev (m : Int) : ∃ v, 0 ≤ v ∧ v ≤ 48000 ∧ Ev (fun k => spec_ckSum.f k m l s) v ∧ Ev (fun k => impl_Scheme_sum.f k m l t) (v, m) :=
  sum_l0 l hl hw s t ht hs hb m l.length 0 0 (by omega) (by omega) (by omega)
end
theorem number_ev (m : Int) (l : List Int) (s : ByteArray) (hl : l.length ≤ 1048576) (hs : s.size ≤ 1048576) :
    ∃ b, Ev (fun k => spec_ckNumber.f k m l s) b ∧ impl_numberOk.f m l s = some b ∧ (b = true → schB m l = true ∧ s.size = l.length + 1) := by
  have hg := ckGood_ev m l hl
  have hi := isScheme_f m l hl
  unfold spec_ckNumber.f impl_numberOk.f
  cases g : schB m l with
  | false =>
    rw [g] at hg hi
    exact ⟨false, Ev.bind hg (Ev.neg (by simp) (Ev.val rfl)), by rw [hi]; rfl, by simp⟩
  | true =>
    rw [g] at hg hi
    rw [wrap_nat (by omega), hi, Option.bind_some, if_pos rfl]
    by_cases hz : s.size = l.length + 1
    · have hz' : (s.size : Int) = ((l.length + 1 : Nat) : Int) := by omega
      have hcut : (s.extract 0 l.length).size = l.length := by rw [ByteArray.size_extract]; omega
      obtain ⟨b, hb⟩ := bt_of (s := s) (i := l.length) (by omega)
      have hd := ckDigits_l0 (s.extract 0 l.length) (by omega) (s.extract 0 l.length).size 0 (by omega)
      rw [List.drop_zero] at hd
      have ho := over_digits (s.extract 0 l.length) (by omega)
      rw [if_pos hz', if_pos (by omega), if_pos (by omega), Int.toNat_natCast, ho, Option.bind_some]
      cases hall : (s.extract 0 l.length).data.toList.all digB with
      | false =>
        rw [hall] at hd
        refine ⟨false, Ev.bind hg (Ev.pos rfl (Ev.pos hz' (Ev.pos (by omega) (Ev.pos (by omega) (Ev.bind (g := fun k => spec_ckDigits.f k (s.extract 0 l.length)) hd (Ev.neg (by simp) (Ev.val rfl))))))), rfl, by simp⟩
      | true =>
        rw [hall] at hd
        rw [if_pos rfl, if_pos (by omega), hb]
        have hx : strings_IndexByte.f (⟨#[48, 49, 50, 51, 52, 53, 54, 55, 56, 57, 88]⟩ : ByteArray) (b.toNat : Int) = some (chk b) := indexByte_f b
        rw [hx]
        refine ⟨decide (chk b ≥ 0), Ev.bind hg (Ev.pos rfl (Ev.pos hz' (Ev.pos (by omega) (Ev.pos (by omega) (Ev.bind (g := fun k => spec_ckDigits.f k (s.extract 0 l.length)) hd (Ev.pos rfl (Ev.pos (by omega) (Ev.bind (ckCheck_ev b) (Ev.val rfl))))))))), rfl, fun _ => ⟨rfl, hz⟩⟩
    · have hz' : ¬ (s.size : Int) = ((l.length + 1 : Nat) : Int) := by omega
      rw [if_neg hz']
      exact ⟨false, Ev.bind hg (Ev.pos rfl (Ev.neg hz' (Ev.val rfl))), rfl, by simp⟩
/-- a number's whole sum -/
theorem whole_ev (m : Int) (l : List Int) (s : ByteArray) (hl : l.length ≤ 12) (hw : ∀ w ∈ l, 0 ≤ w ∧ w ≤ 12) (hz : s.size = l.length + 1) :
    ∃ v c, 0 ≤ v ∧ v ≤ 48000 ∧ -1 ≤ c ∧ c ≤ 10 ∧ Ev (fun k => spec_ckSum.f k m l s) v ∧ Ev (fun k => spec_ckCheck.f k (bt s (l.length : Int))) c ∧ Ev (fun k => impl_Scheme_whole.f k m l s) (v + c, m) := by
  have hcut : (s.extract 0 l.length).size = l.length := by rw [ByteArray.size_extract]; omega
  obtain ⟨b, hb⟩ := bt_of (s := s) (i := l.length) (by omega)
  obtain ⟨v, v0, v1, e1, e2⟩ := sum_ev l hl hw s (s.extract 0 l.length) hcut (by omega) (fun i hi => bt_cut (by omega) hi) m
  have hc := chk_le b
  refine ⟨v, chk b, v0, v1, hc.1, hc.2, e1, by rw [hb]; exact ckCheck_ev b, ?_⟩
  unfold impl_Scheme_whole.f
  refine Ev.pos (by omega) (Ev.pos (by omega) ?_)
  rw [Int.toNat_natCast, hb]
  refine Ev.bind e2 (Ev.pos (by omega) (Ev.vbind (indexByte_f b) (Ev.val ?_)))
  rw [wrap_in (by omega) (by omega)]
end Go.Proofs.YtepkhpnoibillaaDoor.PA

/-! The order of texts: by bytes; no condition. -/
namespace Go.Proofs.YtepkhpnoibillaaDoor.PA
open Go.RowKit Go.Proofs.YtepkhpnoibillaaDoorW.PrintWords
set_option linter.unusedVariables false

theorem bytesLess_lt : ∀ (x y : List UInt8), Op.bytesLess x y = decide (x < y)
  | [], [] => by simp [Op.bytesLess]
  | _ :: _, [] => by simp [Op.bytesLess]
  | [], _ :: _ => by simp [Op.bytesLess]
  | a :: x, b :: y => by
    rw [Op.bytesLess, bytesLess_lt x y]
    simp only [List.cons_lt_cons_iff]
    by_cases h1 : a < b <;> by_cases h2 : a = b <;> by_cases h3 : x < y <;> simp [h1, h2, h3]
def ltB (a b : ByteArray) : Bool := Op.bytesLess a.toList b.toList
theorem ltB_iff {a b : ByteArray} : ltB a b = true ↔ a.toList < b.toList := by unfold ltB; rw [bytesLess_lt]; exact decide_eq_true_iff
theorem ltB_irrefl (a : ByteArray) : ltB a a = false := by
  cases h : ltB a a with
  | false => rfl
  | true => exact absurd (ltB_iff.mp h) (List.lt_irrefl _)
theorem ltB_trans {a b c : ByteArray} (h1 : ltB a b = true) (h2 : ltB b c = true) : ltB a c = true := ltB_iff.mpr (List.lt_trans (ltB_iff.mp h1) (ltB_iff.mp h2))
theorem ltB_asymm {a b : ByteArray} (h1 : ltB a b = true) : ltB b a = false := by
  cases h : ltB b a with
  | false => rfl
  | true => have := ltB_trans h1 h; rw [ltB_irrefl] at this; exact absurd this (by simp)
theorem ltB_three {a b : ByteArray} (h1 : ltB a b = false) (h2 : ltB b a = false) : a = b := by
  have n1 : ¬ a.toList < b.toList := fun h => by rw [ltB_iff.mpr h] at h1; exact absurd h1 (by simp)
  have n2 : ¬ b.toList < a.toList := fun h => by rw [ltB_iff.mpr h] at h2; exact absurd h2 (by simp)
  exact toList_inj.mp (List.le_antisymm (List.not_lt.mp n2) (List.not_lt.mp n1))
/-- strictly up -/
def Up (l : List ByteArray) : Prop := l.Pairwise (fun a b => ltB a b = true)
/-- put a text in its place, once -/
def insB (x : ByteArray) : List ByteArray → List ByteArray
  | [] => [x]
  | y :: r => if ltB y x = true then y :: insB x r else if y = x then y :: r else x :: y :: r
theorem mem_insB {x z : ByteArray} : ∀ {l : List ByteArray}, z ∈ insB x l ↔ z = x ∨ z ∈ l
  | [] => by simp [insB]
  | y :: r => by
    unfold insB
    split
    · rw [List.mem_cons, mem_insB, List.mem_cons]; constructor
      · rintro (h | h | h) <;> simp [h]
      · rintro (h | h | h) <;> simp [h]
    · split
      · rename_i h; subst h; simp
      · simp
theorem up_insB {x : ByteArray} : ∀ {l : List ByteArray}, Up l → Up (insB x l)
  | [], _ => List.pairwise_singleton ..
  | y :: r, h => by
    obtain ⟨h1, h2⟩ := List.pairwise_cons.mp h
    unfold insB
    split
    · rename_i hy
      refine List.pairwise_cons.mpr ⟨fun z hz => ?_, up_insB h2⟩
      rcases mem_insB.mp hz with rfl | hz
      · exact hy
      · exact h1 z hz
    · rename_i hy
      split
      · exact h
      · rename_i hne
        have hxy : ltB x y = true := by
          cases hh : ltB x y with
          | true => rfl
          | false => exact absurd (ltB_three (by simpa using hy) hh) hne
        refine List.pairwise_cons.mpr ⟨fun z hz => ?_, h⟩
        rcases List.mem_cons.mp hz with rfl | hz
        · exact hxy
        · exact ltB_trans hxy (h1 z hz)
theorem len_insB {x : ByteArray} : ∀ {l : List ByteArray}, x ∉ l → (insB x l).length = l.length + 1
  | [], _ => rfl
  | y :: r, h => by
    have hne : ¬ y = x := fun e => h (by simp [e])
    have hr : x ∉ r := fun e => h (by simp [e])
    unfold insB
    split
    · rw [List.length_cons, len_insB hr]; rfl
    · rfl
theorem insB_in {x : ByteArray} : ∀ {l : List ByteArray}, Up l → x ∈ l → insB x l = l
  | [], _, h => by simp at h
  | y :: r, h, hx => by
    obtain ⟨h1, h2⟩ := List.pairwise_cons.mp h
    unfold insB
    split
    · rename_i hy
      rcases List.mem_cons.mp hx with rfl | hx
      · rw [ltB_irrefl] at hy; exact absurd hy (by simp)
      · rw [insB_in h2 hx]
    · rename_i hy
      rcases List.mem_cons.mp hx with rfl | hx
      · simp
      · exact absurd (h1 x hx) (by simpa using hy)
theorem insB_take {x : ByteArray} : ∀ (i : Nat) {l : List ByteArray}, (∀ y ∈ l.take i, ltB y x = true) → insB x l = l.take i ++ insB x (l.drop i)
  | 0, l, _ => by simp
  | i + 1, [], _ => by simp
  | i + 1, y :: r, h => by
    have hy : ltB y x = true := h y (by simp)
    rw [List.take_succ_cons, List.drop_succ_cons, insB, if_pos hy, insB_take i (fun z hz => h z (by simp [hz]))]; rfl
theorem up_take_lt {l : List ByteArray} {i : Nat} {x : ByteArray} (h : Up l) (hi : 0 < i) (hil : i ≤ l.length) (hx : ltB (l[i - 1]'(by omega)) x = true) : ∀ y ∈ l.take i, ltB y x = true := by
  intro y hy
  obtain ⟨j, hj, e⟩ := List.mem_iff_getElem.mp hy
  rw [List.length_take] at hj
  rw [List.getElem_take] at e
  subst e
  rcases Nat.lt_or_ge j (i - 1) with h1 | h1
  · exact ltB_trans (List.pairwise_iff_getElem.mp h j (i - 1) (by omega) (by omega) h1) hx
  · have : j = i - 1 := by omega
    subst this; exact hx
end Go.Proofs.YtepkhpnoibillaaDoor.PA

/-! Sorted lists of texts: putting one after the other sorts, where none comes twice. No condition. -/
namespace Go.Proofs.YtepkhpnoibillaaDoor.PA
open Go.RowKit Go.Proofs.YtepkhpnoibillaaDoorW.PrintWords
set_option linter.unusedVariables false

theorem insB_perm {x : ByteArray} : ∀ {l : List ByteArray}, x ∉ l → (insB x l).Perm (x :: l)
  | [], _ => List.Perm.refl _
  | y :: r, h => by
    have hne : ¬ y = x := fun e => h (by simp [e])
    have hr : x ∉ r := fun e => h (by simp [e])
    unfold insB
    split
    · exact (List.Perm.cons y (insB_perm hr)).trans (List.Perm.swap x y r)
    · exact List.Perm.refl _
def putAll (B : List ByteArray) (l : List ByteArray) : List ByteArray := l.foldl (fun B x => insB x B) B
theorem putAll_facts : ∀ (l B : List ByteArray), Up B → Up (putAll B l) ∧ (putAll B l).length ≤ B.length + l.length ∧ ((putAll B l).length = B.length + l.length → (putAll B l).Perm (l ++ B)) ∧ ((l ++ B).Nodup → (putAll B l).length = B.length + l.length)
  | [], B, h => ⟨h, by simp [putAll], fun _ => List.Perm.refl _, fun _ => rfl⟩
  | x :: l, B, h => by
    obtain ⟨h1, h2, h3, h4⟩ := putAll_facts l (insB x B) (up_insB h)
    have e : putAll B (x :: l) = putAll (insB x B) l := rfl
    rw [e]
    by_cases hx : x ∈ B
    · rw [insB_in h hx] at h1 h2 h3 h4 ⊢
      refine ⟨h1, by simp only [List.length_cons]; omega, fun hh => by simp only [List.length_cons] at hh; omega, fun hh => ?_⟩
      have := (List.nodup_cons.mp hh).1
      exact absurd (List.mem_append_right l hx) this
    · have hp := insB_perm hx
      have hlen := len_insB hx
      rw [hlen] at h2 h3 h4
      refine ⟨h1, by simp only [List.length_cons]; omega, fun hh => ?_, fun hh => ?_⟩
      · have := h3 (by simp only [List.length_cons] at hh; omega)
        refine this.trans ?_
        exact (List.Perm.append_left l hp).trans List.perm_middle
      · have hn : (l ++ insB x B).Nodup := ((List.Perm.append_left l hp).trans List.perm_middle).nodup_iff.mpr hh
        have := h4 hn
        simp only [List.length_cons]
        omega
/-- what the library's sort writes -/
def sortB (l : List ByteArray) : List ByteArray := ((l.map (·.data.toList)).mergeSort fun x y => decide (x ≤ y)).map fun b => ⟨b.toArray⟩
theorem sortB_perm (l : List ByteArray) : (sortB l).Perm l := by
  unfold sortB
  have h := (List.mergeSort_perm (l.map (·.data.toList)) (fun x y => decide (x ≤ y))).map (fun b => (⟨b.toArray⟩ : ByteArray))
  refine h.trans ?_
  rw [List.map_map]
  have : (fun b : List UInt8 => (⟨b.toArray⟩ : ByteArray)) ∘ (fun s : ByteArray => s.data.toList) = id := by
    funext s; exact ba_ext (by simp)
  rw [this, List.map_id]
theorem sortB_up (l : List ByteArray) : (sortB l).Pairwise (fun a b => ltB b a = false) := by
  have h := List.pairwise_mergeSort (le := fun (x y : List UInt8) => decide (x ≤ y)) (fun a b c h1 h2 => by
      simp only [decide_eq_true_eq] at h1 h2 ⊢
      exact List.le_trans h1 h2) (fun a b => by
      simp only [Bool.or_eq_true, decide_eq_true_eq]
      exact List.le_total a b) (l.map (·.data.toList))
  unfold sortB
  rw [List.pairwise_map]
  refine h.imp ?_
  intro a b hab
  have hab' : a ≤ b := of_decide_eq_true hab
  cases hh : ltB (⟨b.toArray⟩ : ByteArray) ⟨a.toArray⟩ with
  | false => rfl
  | true =>
    have := ltB_iff.mp hh
    rw [toList_mk, toList_mk] at this
    exact absurd this (List.not_lt.mpr hab')
theorem up_nodup {l : List ByteArray} (h : Up l) : l.Nodup := h.imp (fun {a b} hab e => by rw [e, ltB_irrefl] at hab; exact absurd hab (by simp))
theorem sortB_eq {l U : List ByteArray} (hU : Up U) (hp : U.Perm l) : sortB l = U := by
  refine List.Perm.eq_of_pairwise (le := fun a b => ltB b a = false) (fun a b _ _ h1 h2 => ltB_three h2 h1) (sortB_up l) (hU.imp (fun {a b} hab => ltB_asymm hab)) ((sortB_perm l).trans hp.symm)
end Go.Proofs.YtepkhpnoibillaaDoor.PA

/-! Sorting and leaving out what comes twice is putting one after the other in its place. No condition. -/
namespace Go.Proofs.YtepkhpnoibillaaDoor.PA
open Go.RowKit Go.Proofs.YtepkhpnoibillaaDoorW.PrintWords
set_option linter.unusedVariables false

section
variable (d : Array (List UInt8)) (hs : ∀ i j : Nat, i ≤ j → j < d.size → d[i]! ≤ d[j]!)
theorem cmpt_from (m : Nat) : ∀ x ∈ Lib.compactUpTo d m, ∃ j, j < m ∧ d[j]! = x := by
  intro x hx
  unfold Lib.compactUpTo at hx
  obtain ⟨j, hj, rfl⟩ := List.mem_map.mp hx
  exact ⟨j, List.mem_range.mp (List.mem_filter.mp hj).1, rfl⟩
theorem cmpt_all : ∀ (m j : Nat), j < m → d[j]! ∈ Lib.compactUpTo d m
  | m + 1, j, hj => by
    rw [Lib.compactUpTo_succ, List.mem_append]
    rcases Nat.lt_or_ge j m with h | h
    · exact .inl (cmpt_all m j h)
    · have e : j = m := by omega
      subst e
      cases hk : Lib.keeps d j with
      | true => right; simp
      | false =>
        left
        unfold Lib.keeps at hk
        have hk' := of_decide_eq_false hk
        have h0 : j ≠ 0 := fun e => hk' (.inl e)
        have h1 : d[j]! = d[j - 1]! := Classical.byContradiction fun e => hk' (.inr e)
        rw [h1]
        exact cmpt_all j (j - 1) (by omega)
include hs in
theorem cmpt_up : ∀ m, m ≤ d.size → (Lib.compactUpTo d m).Pairwise (· < ·)
  | 0, _ => List.Pairwise.nil
  | m + 1, h => by
    rw [Lib.compactUpTo_succ, List.pairwise_append]
    refine ⟨cmpt_up m (by omega), by split <;> simp, fun x hx y hy => ?_⟩
    cases hk : Lib.keeps d m with
    | false => rw [hk] at hy; simp at hy
    | true =>
      rw [hk] at hy
      simp only [if_true, List.mem_singleton] at hy
      subst hy
      obtain ⟨j, hj, rfl⟩ := cmpt_from d m x hx
      unfold Lib.keeps at hk
      rcases of_decide_eq_true hk with h0 | h0
      · omega
      · have h1 := hs j (m - 1) (by omega) (by omega)
        have h2 := hs (m - 1) m (by omega) (by omega)
        have h3 : d[m - 1]! < d[m]! := Classical.byContradiction fun e => h0 (List.le_antisymm (List.not_lt.mp e) h2)
        exact List.lt_of_le_of_lt h1 h3
end
theorem compactB_facts (l : List ByteArray) (h : l.Pairwise (fun a b => ltB b a = false)) : Up (compactB l) ∧ ∀ x, x ∈ compactB l ↔ x ∈ l := by
  have hget : ∀ j, j < l.length → (l.map (·.data.toList)).toArray[j]! = (l[j]!).data.toList := fun j hj => by simp [hj]
  have hs : ∀ i j : Nat, i ≤ j → j < (l.map (·.data.toList)).toArray.size → (l.map (·.data.toList)).toArray[i]! ≤ (l.map (·.data.toList)).toArray[j]! := by
    intro i j hij hj
    have hj' : j < l.length := by simpa using hj
    rw [hget i (by omega), hget j hj']
    rcases Nat.lt_or_ge i j with h1 | h1
    · have := List.pairwise_iff_getElem.mp h i j (by omega) hj' h1
      rw [getElem!_pos l i (by omega), getElem!_pos l j hj', ← toList_data, ← toList_data]
      exact List.not_lt.mp (fun e => by rw [ltB_iff.mpr e] at this; exact absurd this (by simp))
    · have e : i = j := by omega
      subst e
      exact List.le_refl _
  constructor
  · unfold compactB Up
    rw [List.pairwise_map]
    have hu := cmpt_up _ hs (l.map (·.data.toList)).length (by simp)
    refine List.Pairwise.imp (fun {a b} hab => ltB_iff.mpr ?_) hu
    rw [toList_mk, toList_mk]
    exact hab
  · intro x
    unfold compactB Lib.compact
    rw [List.mem_map]
    constructor
    · rintro ⟨b, hb, rfl⟩
      obtain ⟨j, hj, rfl⟩ := cmpt_from _ _ b hb
      have hj' : j < l.length := by simpa using hj
      rw [hget j hj', getElem!_pos l j hj']
      have e : (⟨l[j].data.toList.toArray⟩ : ByteArray) = l[j] := ba_ext (by simp)
      rw [e]
      exact List.getElem_mem hj'
    · intro hx
      obtain ⟨j, hj, rfl⟩ := List.mem_iff_getElem.mp hx
      refine ⟨_, cmpt_all _ (l.map (·.data.toList)).length j (by simpa using hj), ?_⟩
      rw [hget j hj, getElem!_pos l j hj]
theorem mem_putAll {x : ByteArray} : ∀ {l B : List ByteArray}, x ∈ putAll B l ↔ x ∈ l ∨ x ∈ B
  | [], B => by simp [putAll]
  | y :: l, B => by
    have e : putAll B (y :: l) = putAll (insB y B) l := rfl
    rw [e, mem_putAll, mem_insB, List.mem_cons]
    constructor
    · rintro (h | h | h) <;> simp [h]
    · rintro ((h | h) | h) <;> simp [h]
theorem compact_sort (l : List ByteArray) : compactB (sortT l) = putAll [] l := by
  obtain ⟨h1, h2⟩ := compactB_facts (sortB l) (sortB_up l)
  have hu := (putAll_facts l [] List.Pairwise.nil).1
  show compactB (sortB l) = _
  refine List.Perm.eq_of_pairwise (le := fun a b => ltB b a = false) (fun a b _ _ e1 e2 => ltB_three e2 e1) (h1.imp (fun {a b} hab => ltB_asymm hab)) (hu.imp (fun {a b} hab => ltB_asymm hab)) ?_
  refine (List.perm_ext_iff_of_nodup (up_nodup h1) (up_nodup hu)).mpr (fun x => ?_)
  rw [h2, mem_putAll, (sortB_perm l).mem_iff]
  simp
end Go.Proofs.YtepkhpnoibillaaDoor.PA

/-! The reference's sorted list of numbers: a text is put in its place; is a number right. No condition but bounds. -/
namespace Go.Proofs.YtepkhpnoibillaaDoor.PA
open Go.RowKit Go.Proofs.YtepkhpnoibillaaDoorW.PrintWords
set_option linter.unusedVariables false

theorem ckPut_l0 (l : List ByteArray) (x : ByteArray) (hl : l.length ≤ 1048576) (hu : Up l) : ∀ (d i : Nat), i + d = l.length → (∀ y ∈ l.take i, ltB y x = true) → Ev (fun k => spec_ckPut.l0 k l x (i : Int)) (insB x l)
  | 0, i, h, ht => by
    have hd : l.drop i = [] := List.drop_of_length_le (by omega)
    refine Ev.step (fun k => by rw [spec_ckPut.l0]) ?_
    refine Ev.neg (by omega) (Ev.vbind rfl (Ev.pos (by omega) (Ev.pos (by omega) (Ev.vbind rfl (Ev.pos ?_ (Ev.vbind rfl (Ev.pos ?_ (Ev.vbind rfl (Ev.vbind rfl (Ev.pos ?_ (Ev.val ?_)))))))))))
    · simp; omega
    · simp; omega
    · simp; omega
    · rw [Int.toNat_natCast, insB_take i ht, hd]; simp [insB]
  | d + 1, i, h, ht => by
    have hi : i < l.length := by omega
    refine Ev.step (fun k => by rw [spec_ckPut.l0]) ?_
    refine Ev.pos (by omega) (Ev.pos (by omega) ?_)
    rw [rdS_nat hi, wrap_nat (by omega)]
    refine Ev.ite (fun e => ?_) (fun e => ?_)
    · refine ckPut_l0 l x hl hu d (i + 1) (by omega) (fun y hy => ?_)
      rw [take_succ_get hi] at hy
      rcases List.mem_append.mp hy with hy | hy
      · exact ht y hy
      · rw [List.mem_singleton.mp hy]; exact e
    · have hge : ltB l[i] x = false := Bool.eq_false_iff.mpr e
      have hd : l.drop i = l[i] :: l.drop (i + 1) := List.drop_eq_getElem_cons hi
      refine Ev.ite (fun e2 => Ev.val ?_) (fun e2 => ?_)
      · have : x ∈ l := by rw [← toList_inj.mp e2]; exact List.getElem_mem hi
        rw [insB_in hu this]
      · have hne : ¬ l[i] = x := fun h => e2 (by rw [h])
        refine Ev.vbind rfl (Ev.pos (by omega) (Ev.vbind rfl (Ev.pos ?_ (Ev.vbind rfl (Ev.pos ?_ (Ev.vbind rfl (Ev.vbind rfl (Ev.pos ?_ (Ev.val ?_)))))))))
        · simp; omega
        · simp; omega
        · simp; omega
        · rw [Int.toNat_natCast, insB_take i ht, hd, insB, if_neg (by rw [hge]; simp), if_neg hne, ← hd]; simp
theorem ckPut_ev (l : List ByteArray) (x : ByteArray) (hl : l.length ≤ 1048576) (hu : Up l) : Ev (fun k => spec_ckPut.f k l x) (insB x l) := ckPut_l0 l x hl hu l.length 0 (by omega) (by simp)
theorem right_ex (m : Int) (l : List Int) (t : ByteArray) (g : schB m l = true) (hz : t.size = l.length + 1) : ∃ b, Ev (fun k => spec_ckRight.f k m l t) b ∧ Ev (fun k => rightO k m l t) b := by
  obtain ⟨m0, m1, l0, l1, hw⟩ := sch_facts g
  obtain ⟨v, c, v0, v1, c0, c1, e1, e2, e3⟩ := whole_ev m l t l1 hw hz
  have hj : wrap64 ((t.size : Int) - 1) = (l.length : Int) := by rw [wrap_in (by omega) (by omega)]; omega
  refine ⟨Int.tmod (v + c) m == 0, ?_, ?_⟩
  · unfold spec_ckRight.f
    refine Ev.bind e1 ?_
    rw [hj]
    refine Ev.pos (by omega) (Ev.pos (by omega) (Ev.bind e2 (Ev.neg (by omega) (Ev.val ?_))))
    rw [wrap_in (by omega) (by omega)]
  · unfold rightO
    exact Ev.bind e3 (Ev.neg (by omega) (Ev.pos rfl (Ev.val rfl)))
open Classical in
/-- is a number right -/
noncomputable def rightV (m : Int) (l : List Int) (t : ByteArray) : Bool := if h : ∃ b, Ev (fun k => spec_ckRight.f k m l t) b ∧ Ev (fun k => rightO k m l t) b then h.choose else false
theorem right_ev (m : Int) (l : List Int) (t : ByteArray) (g : schB m l = true) (hz : t.size = l.length + 1) : Ev (fun k => spec_ckRight.f k m l t) (rightV m l t) ∧ Ev (fun k => rightO k m l t) (rightV m l t) := by
  have h := right_ex m l t g hz
  unfold rightV
  rw [dif_pos h]
  exact h.choose_spec
/-- those that are another number, and right -/
noncomputable def pickB (m : Int) (l : List Int) (a : ByteArray) (ts : List ByteArray) : List ByteArray := by
  classical exact ts.filter fun t => decide (t ≠ a) && rightV m l t
theorem pickB_cons (m : Int) (l : List Int) (a t : ByteArray) (ts : List ByteArray) : pickB m l a (t :: ts) = if t = a then pickB m l a ts else if rightV m l t = true then t :: pickB m l a ts else pickB m l a ts := by
  unfold pickB
  by_cases h : t = a
  · simp [h]
  · cases hr : rightV m l t <;> simp [h, hr]
theorem pickB_append (m : Int) (l : List Int) (a : ByteArray) (x y : List ByteArray) : pickB m l a (x ++ y) = pickB m l a x ++ pickB m l a y := by
  unfold pickB
  rw [List.filter_append]
theorem pickB_len (m : Int) (l : List Int) (a : ByteArray) (ts : List ByteArray) : (pickB m l a ts).length ≤ ts.length := List.length_filter_le _ _
theorem pickO_ev (m : Int) (l : List Int) (a : ByteArray) (g : schB m l = true) : ∀ (ts acc : List ByteArray), (∀ t ∈ ts, t.size = l.length + 1) → Ev (fun k => pickO (rightO k m l) a ts acc) (acc ++ pickB m l a ts)
  | [], acc, _ => Ev.val (by simp [pickB])
  | t :: ts, acc, h => by
    have hr := (right_ev m l t g (h t (by simp))).2
    have ht : ∀ t ∈ ts, t.size = l.length + 1 := fun y hy => h y (by simp [hy])
    show Ev (fun k => if t = a then pickO (rightO k m l) a ts acc else (rightO k m l t).bind fun b => pickO (rightO k m l) a ts (if b = true then acc ++ [t] else acc)) _
    rw [pickB_cons]
    by_cases e : t = a
    · rw [if_pos e]
      exact Ev.pos e (pickO_ev m l a g ts acc ht)
    · rw [if_neg e]
      refine Ev.neg e (Ev.bind hr ?_)
      cases hv : rightV m l t with
      | true =>
        simp only [if_true]
        have := pickO_ev m l a g ts (acc ++ [t]) ht
        rw [List.append_assoc] at this
        exact this
      | false =>
        simp only [Bool.false_eq_true, if_false]
        exact pickO_ev m l a g ts acc ht
theorem putAll_snoc (l : List ByteArray) (x : ByteArray) : putAll [] (l ++ [x]) = insB x (putAll [] l) := by unfold putAll; rw [List.foldl_append]; rfl
end Go.Proofs.YtepkhpnoibillaaDoor.PA

/-! Numbers with two neighbours swapped: the key. No condition but bounds. -/
namespace Go.Proofs.YtepkhpnoibillaaDoor.PA
open Go.RowKit Go.Proofs.YtepkhpnoibillaaDoorW.PrintWords
set_option linter.unusedVariables false

theorem drop_take_one {α : Type} {l : List α} {i : Nat} (h : i < l.length) : (l.take (i + 1)).drop i = [l[i]] := by
  rw [take_succ_get h, List.drop_append_of_le_length (by rw [List.length_take]; omega), List.drop_of_length_le (by rw [List.length_take]; omega)]; rfl
theorem swap_data (a : ByteArray) (i : Nat) (h1 : 1 ≤ i) (h : i < a.data.toList.length) : (swapT a i).data.toList = a.data.toList.take (i - 1) ++ (a.data.toList[i] :: a.data.toList[i - 1] :: a.data.toList.drop (i + 1)) := by
  unfold swapT swapE
  rw [show ((i : Int) - 1).toNat = i - 1 by omega, show ((i : Int) + 1).toNat = i + 1 by omega, Int.toNat_natCast]
  rw [data_append, data_append, data_append, data_extract, data_extract, data_extract, data_extract, List.drop_zero]
  have e1 := drop_take_one (l := a.data.toList) (i := i) h
  have e2 := drop_take_one (l := a.data.toList) (i := i - 1) (by omega)
  rw [show i - 1 + 1 = i by omega] at e2
  rw [e1, e2, List.take_of_length_le (l := a.data.toList) (i := a.size) (by rw [← size_data]; omega)]
  simp
theorem self_data (a : ByteArray) (i : Nat) (h1 : 1 ≤ i) (h : i < a.data.toList.length) : a.data.toList = a.data.toList.take (i - 1) ++ (a.data.toList[i - 1] :: a.data.toList[i] :: a.data.toList.drop (i + 1)) := by
  have e1 : a.data.toList.drop (i - 1) = a.data.toList[i - 1] :: a.data.toList.drop i := by
    rw [List.drop_eq_getElem_cons (show i - 1 < a.data.toList.length by omega), show i - 1 + 1 = i by omega]
  have e2 : a.data.toList.drop i = a.data.toList[i] :: a.data.toList.drop (i + 1) := List.drop_eq_getElem_cons h
  rw [← e2, ← e1, List.take_append_drop]
theorem swap_same (a : ByteArray) (i : Nat) (h1 : 1 ≤ i) (h : i < a.size) : swapT a i = a ↔ bt a ((i - 1 : Nat) : Int) = bt a (i : Int) := by
  have h' : i < a.data.toList.length := h
  rw [bt_nat (show i - 1 < a.size by omega), bt_nat h]
  constructor
  · intro e
    have e' : (swapT a i).data.toList = a.data.toList := by rw [e]
    rw [swap_data a i h1 h'] at e'
    have e3 := List.append_cancel_left (e'.trans (self_data a i h1 h'))
    injection e3 with e4 e5
    rw [e4]
  · intro e
    have e2 : a.data.toList[i - 1] = a.data.toList[i] := UInt8.toNat_inj.mp (by omega)
    apply ba_ext
    rw [swap_data a i h1 h', e2]
    have s := self_data a i h1 h'
    rw [e2] at s
    exact s.symm
theorem swap_size (a : ByteArray) (i : Nat) (h1 : 1 ≤ i) (h : i < a.size) : (swapT a i).size = a.size := by
  have h' : i < a.data.toList.length := h
  have e := congrArg List.length (swap_data a i h1 h')
  have s := congrArg List.length (self_data a i h1 h')
  simp only [List.length_append, List.length_cons] at e s
  rw [size_data, e, size_data]
  omega
theorem swapsT_take (a : ByteArray) {n i : Nat} (h1 : 1 ≤ i) (h : i < n) : (swapsT a n).take i = (swapsT a n).take (i - 1) ++ [swapT a i] := by
  have hl : i - 1 < (swapsT a n).length := by unfold swapsT; rw [List.length_map, List.length_range]; omega
  have := take_succ_get hl
  rw [show i - 1 + 1 = i by omega] at this
  rw [this]
  simp [swapsT, show i - 1 + 1 = i by omega]
theorem swaps_l0 (m : Int) (l : List Int) (a : ByteArray) (g : schB m l = true) (hz : a.size = l.length + 1) : ∀ (d i : Nat), i + d = l.length → 1 ≤ i → Ev (fun k => spec_SwapRepairs.l0 k a (putAll [] (pickB m l a ((swapsT a l.length).take (i - 1)))) (i : Int) m l) (putAll [] (pickB m l a (swapsT a l.length)), true)
  | 0, i, h, h1 => by
    refine Ev.step (fun k => by rw [spec_SwapRepairs.l0]) ?_
    refine Ev.neg (by omega) (Ev.val ?_)
    rw [List.take_of_length_le (by simp [swapsT]; omega)]
  | d + 1, i, h, h1 => by
    have hi : i < l.length := by omega
    obtain ⟨m0, m1, l0, l1, hw⟩ := sch_facts g
    have ih := swaps_l0 m l a g hz d (i + 1) (by omega) (by omega)
    rw [Nat.add_sub_cancel, swapsT_take a h1 hi, pickB_append] at ih
    have hj : wrap64 ((i : Int) - 1) = ((i - 1 : Nat) : Int) := by rw [wrap_in (by omega) (by omega)]; omega
    refine Ev.step (fun k => by rw [spec_SwapRepairs.l0]) ?_
    rw [hj, wrap_nat (by omega)]
    refine Ev.pos (by omega) (Ev.pos (by omega) (Ev.pos (by omega) (Ev.pos (by omega) (Ev.pos (by omega) ?_))))
    have hsame := swap_same a i h1 (by omega)
    by_cases e : bt a ((i - 1 : Nat) : Int) = bt a (i : Int)
    · rw [pickB_cons, if_pos (hsame.mpr e)] at ih
      refine Ev.pos e ?_
      simpa [pickB] using ih
    · have hne : ¬ swapT a i = a := fun h => e (hsame.mp h)
      rw [pickB_cons, if_neg hne] at ih
      have hs := swap_size a i h1 (by omega)
      have hr := (right_ev m l (swapT a i) g (by omega)).1
      have hE : (((a.extract 0 (((i - 1 : Nat) : Int)).toNat) ++ (a.extract ((i : Int)).toNat (((i + 1 : Nat) : Int)).toNat)) ++ (a.extract (((i - 1 : Nat) : Int)).toNat ((i : Int)).toNat)) ++ (a.extract (((i + 1 : Nat) : Int)).toNat a.size) = swapT a i := by
        unfold swapT swapE
        rw [show (i : Int) - 1 = ((i - 1 : Nat) : Int) by omega, show (i : Int) + 1 = ((i + 1 : Nat) : Int) by omega]
      have hlen := pickB_len m l a ((swapsT a l.length).take (i - 1))
      have hput := (putAll_facts (pickB m l a ((swapsT a l.length).take (i - 1))) [] List.Pairwise.nil)
      rw [List.length_take] at hlen
      simp only [List.length_nil] at hput
      refine Ev.neg e (Ev.pos (by omega) (Ev.pos (by omega) (Ev.pos (by omega) (Ev.pos ?_ (Ev.pos (by omega) (Ev.pos (by omega) (Ev.pos ?_ (Ev.pos (by omega) (Ev.pos ?_ ?_)))))))))
      · rw [ByteArray.size_extract, ByteArray.size_extract]; omega
      · rw [size_append, ByteArray.size_extract, ByteArray.size_extract, ByteArray.size_extract]; omega
      · rw [size_append, size_append, ByteArray.size_extract, ByteArray.size_extract, ByteArray.size_extract, ByteArray.size_extract]; omega
      · rw [hE]
        refine Ev.bind hr ?_
        cases hv : rightV m l (swapT a i) with
        | true =>
          rw [hv, if_pos rfl] at ih
          refine Ev.pos rfl (Ev.bind (ckPut_ev _ (swapT a i) (by omega) hput.1) ?_)
          have e2 : pickB m l a [] = [] := by simp [pickB]
          rw [e2, putAll_snoc] at ih
          exact ih
        | false =>
          rw [hv, if_neg (by simp)] at ih
          refine Ev.neg (by simp) ?_
          simpa [pickB] using ih
theorem swapRepairs_key (m : Int) (l : List Int) (s : ByteArray) (h1 : l.length ≤ 1048576) (h2 : s.size ≤ 1048576) :
    ∃ r : List ByteArray × Bool, Ev (fun k => spec_SwapRepairs.f k m l s) r ∧ Ev (fun k => impl_SwapRepairs.f k m l s) r ∧ r.1.length ≤ 1048576 := by
  obtain ⟨b, hb, hq, hf⟩ := number_ev m l s h1 h2
  unfold spec_SwapRepairs.f impl_SwapRepairs.f
  cases b with
  | false => exact ⟨([], false), Ev.bind hb (Ev.neg (by simp) (Ev.val rfl)), Ev.vbind hq (Ev.neg (by simp) (Ev.val rfl)), by simp⟩
  | true =>
    obtain ⟨g, hz⟩ := hf rfl
    obtain ⟨m0, m1, l0, l1, hw⟩ := sch_facts g
    have hp := pickO_ev m l s g (swapsT s l.length) [] (fun t ht => by
      unfold swapsT at ht
      obtain ⟨i, hi, rfl⟩ := List.mem_map.mp ht
      have := List.mem_range.mp hi
      rw [swap_size s (i + 1) (by omega) (by omega), hz])
    rw [List.nil_append] at hp
    have hs := swaps_l0 m l s g hz (l.length - 1) 1 (by omega) (Nat.le_refl _)
    have hlen := pickB_len m l s (swapsT s l.length)
    have hput := (putAll_facts (pickB m l s (swapsT s l.length)) [] List.Pairwise.nil).2.1
    refine ⟨(putAll [] (pickB m l s (swapsT s l.length)), true), Ev.bind hb (Ev.pos rfl ?_), Ev.vbind hq (Ev.pos rfl (Ev.pos ⟨by omega, by omega, hz⟩ (Ev.bind hp (Ev.val ?_)))), ?_⟩
    · have e2 : putAll [] (pickB m l s ((swapsT s l.length).take (1 - 1))) = [] := by simp [pickB, putAll]
      rw [e2] at hs
      exact hs
    · rw [compact_sort]
    · show (putAll [] _).length ≤ _
      have : (swapsT s l.length).length ≤ l.length := by simp [swapsT]
      simp only [List.length_nil] at hput
      omega
end Go.Proofs.YtepkhpnoibillaaDoor.PA

/-! Numbers with one sign changed: the reference and the program keep the same ones. No condition but bounds. -/
namespace Go.Proofs.YtepkhpnoibillaaDoor.PA
open Go.RowKit Go.Proofs.YtepkhpnoibillaaDoorW.PrintWords
set_option linter.unusedVariables false

/-- the signs -/
def sgL : List UInt8 := [48, 49, 50, 51, 52, 53, 54, 55, 56, 57, 88]
theorem rep_data (a : ByteArray) (i d : Nat) (h : i < a.data.toList.length) (hd : d < sgL.length) : (repT a i d).data.toList = a.data.toList.set i sgL[d] := by
  unfold repT repE
  rw [show ((i : Int) + 1).toNat = i + 1 by omega, show ((d : Int) + 1).toNat = d + 1 by omega, Int.toNat_natCast, Int.toNat_natCast]
  rw [data_append, data_append, data_extract, data_extract, data_extract, List.drop_zero]
  have e0 : sgS.data.toList = sgL := rfl
  rw [e0, drop_take_one hd, List.take_of_length_le (l := a.data.toList) (i := a.size) (by rw [← size_data]; omega), List.set_eq_take_append_cons_drop, if_pos h]
  simp
theorem rep_size (a : ByteArray) (i d : Nat) (h : i < a.size) (hd : d < sgL.length) : (repT a i d).size = a.size := by
  rw [size_data, rep_data a i d h hd, List.length_set, ← size_data]
theorem rep_same (a : ByteArray) (i d : Nat) (h : i < a.data.toList.length) (hd : d < sgL.length) : repT a i d = a ↔ sgL[d] = a.data.toList[i] := by
  constructor
  · intro e
    have e1 := rep_data a i d h hd
    rw [e] at e1
    have e2 := congrArg (fun z : List UInt8 => z[i]?) e1
    simp only [List.getElem?_set_self h, List.getElem?_eq_getElem h] at e2
    exact (Option.some.inj e2).symm
  · intro e
    apply ba_ext
    rw [rep_data a i d h hd, e, List.set_getElem_self]
/-- a text's signs are those of a number -/
def numB (n : Nat) (s : ByteArray) : Bool := (s.data.toList.take n).all digB && decide (chk (s.data.toList.getD n 0) ≥ 0)
theorem number_val (m : Int) (l : List Int) (s : ByteArray) (g : schB m l = true) (hz : s.size = l.length + 1) : impl_numberOk.f m l s = some (numB l.length s) := by
  obtain ⟨m0, m1, l0, l1, hw⟩ := sch_facts g
  have hi := isScheme_f m l (by omega)
  rw [g] at hi
  unfold impl_numberOk.f
  rw [wrap_nat (by omega), hi, Option.bind_some, if_pos rfl]
  have hcut : (s.extract 0 l.length).size = l.length := by rw [ByteArray.size_extract]; omega
  have ho := over_digits (s.extract 0 l.length) (by omega)
  have hdat : (s.extract 0 l.length).data.toList = s.data.toList.take l.length := by rw [data_extract, List.drop_zero]
  have hn : l.length < s.size := by omega
  have hb := bt_nat hn
  have hx := indexByte_f (s.data.toList[l.length])
  have hg : s.data.toList.getD l.length 0 = s.data.toList[l.length] := by
    rw [List.getD_eq_getElem?_getD, List.getElem?_eq_getElem hn, Option.getD_some]
  rw [if_pos (by omega), if_pos (by omega), if_pos (by omega), Int.toNat_natCast, ho, Option.bind_some, hdat]
  unfold numB
  rw [hg]
  cases hall : (s.data.toList.take l.length).all digB with
  | false => rfl
  | true =>
    rw [if_pos rfl, if_pos (by omega), hb]
    have hx' : strings_IndexByte.f (⟨#[48, 49, 50, 51, 52, 53, 54, 55, 56, 57, 88]⟩ : ByteArray) ((s.data.toList[l.length]).toNat : Int) = some (chk (s.data.toList[l.length])) := hx
    rw [hx', Option.bind_some, Bool.true_and]
theorem sg_dig : ∀ d : Fin 10, digB (sgL.getD d.1 0) = true := by decide
theorem sg_chk : ∀ d : Fin 11, decide (chk (sgL.getD d.1 0) ≥ 0) = true := by decide
theorem sg_getD {d : Nat} (hd : d < sgL.length) : sgL.getD d 0 = sgL[d] := by
  rw [List.getD_eq_getElem?_getD, List.getElem?_eq_getElem hd, Option.getD_some]
/-- a number with a sign changed is a number, but for the last sign at another place than the last -/
theorem rep_num (a : ByteArray) (n i d : Nat) (hz : a.size = n + 1) (hi : i < a.size) (hd : d < sgL.length) (h : numB n a = true) : numB n (repT a i d) = !(decide (i < n) && decide (d = 10)) := by
  have hi' : i < a.data.toList.length := hi
  have hz' : a.data.toList.length = n + 1 := hz
  unfold numB at h ⊢
  rw [Bool.and_eq_true] at h
  obtain ⟨h1, h2⟩ := h
  rw [List.all_eq_true] at h1
  obtain ⟨x, hx⟩ : ∃ x, x = sgL[d] := ⟨_, rfl⟩
  rw [rep_data a i d hi' hd, ← hx]
  by_cases c : i < n
  · have e1 : (a.data.toList.set i x).getD n 0 = a.data.toList.getD n 0 := by
      rw [List.getD_eq_getElem?_getD, List.getD_eq_getElem?_getD, List.getElem?_set_ne (by omega)]
    rw [e1, h2, Bool.and_true, List.take_set, decide_eq_true c, Bool.true_and]
    by_cases c10 : d = 10
    · subst c10
      have hx : x = 88 := hx
      subst hx
      rw [decide_eq_true rfl]
      have hm : (88 : UInt8) ∈ (a.data.toList.take n).set i 88 := List.mem_set (l := a.data.toList.take n) (i := i) (by rw [List.length_take]; omega) 88
      show List.all ((a.data.toList.take n).set i 88) digB = false
      rw [List.all_eq_false]
      exact ⟨88, hm, by decide⟩
    · rw [decide_eq_false c10]
      show List.all _ digB = true
      rw [List.all_eq_true]
      intro y hy
      rcases List.mem_or_eq_of_mem_set hy with hy | hy
      · exact h1 y hy
      · rw [hy, hx, ← sg_getD hd]
        exact sg_dig ⟨d, by have : d < 11 := hd; omega⟩
  · have hin : i = n := by omega
    subst hin
    have e1 : (a.data.toList.set i x).getD i 0 = x := by
      rw [List.getD_eq_getElem?_getD, List.getElem?_set_self hi', Option.getD_some]
    have e2 : (a.data.toList.set i x).take i = a.data.toList.take i := by
      rw [List.take_set, List.set_eq_of_length_le (by rw [List.length_take]; omega)]
    rw [e1, e2, List.all_eq_true.mpr h1, Bool.true_and, decide_eq_false c, Bool.false_and, hx, ← sg_getD hd, sg_chk ⟨d, hd⟩]
    rfl
/-- those that are another number, and right -/
noncomputable def pickG (m : Int) (l : List Int) (a : ByteArray) (ts : List ByteArray) : List ByteArray := pickB m l a (ts.filter fun t => numB l.length t)
theorem pickG_cons (m : Int) (l : List Int) (a t : ByteArray) (ts : List ByteArray) : pickG m l a (t :: ts) = if t = a ∨ numB l.length t = false then pickG m l a ts else if rightV m l t = true then t :: pickG m l a ts else pickG m l a ts := by
  unfold pickG
  by_cases h : t = a
  · rw [if_pos (.inl h), List.filter_cons]
    split
    · rw [pickB_cons, if_pos h]
    · rfl
  · cases hn : numB l.length t with
    | false => rw [if_pos (.inr rfl), List.filter_cons, hn]; rfl
    | true => rw [if_neg (by simp [h]), List.filter_cons, hn, if_pos rfl, pickB_cons, if_neg h]
theorem goodO_ev (m : Int) (l : List Int) (t : ByteArray) (g : schB m l = true) (hz : t.size = l.length + 1) : Ev (fun k => goodO k m l t) (numB l.length t && rightV m l t) := by
  unfold goodO
  refine Ev.vbind (number_val m l t g hz) ?_
  cases numB l.length t with
  | false => exact Ev.neg (by simp) (Ev.val rfl)
  | true => exact Ev.pos rfl (right_ev m l t g hz).2
theorem pickO_good (m : Int) (l : List Int) (a : ByteArray) (g : schB m l = true) : ∀ (ts acc : List ByteArray), (∀ t ∈ ts, t.size = l.length + 1) → Ev (fun k => pickO (goodO k m l) a ts acc) (acc ++ pickG m l a ts)
  | [], acc, _ => Ev.val (by simp [pickG, pickB])
  | t :: ts, acc, h => by
    have hr := goodO_ev m l t g (h t (by simp))
    have ht : ∀ t ∈ ts, t.size = l.length + 1 := fun y hy => h y (by simp [hy])
    show Ev (fun k => if t = a then pickO (goodO k m l) a ts acc else (goodO k m l t).bind fun b => pickO (goodO k m l) a ts (if b = true then acc ++ [t] else acc)) _
    rw [pickG_cons]
    by_cases e : t = a
    · rw [if_pos (.inl e)]
      exact Ev.pos e (pickO_good m l a g ts acc ht)
    · refine Ev.neg e (Ev.bind hr ?_)
      cases hn : numB l.length t with
      | false =>
        rw [if_pos (show t = a ∨ false = false from .inr rfl)]
        simp only [Bool.false_and, Bool.false_eq_true, if_false]
        exact pickO_good m l a g ts acc ht
      | true =>
        rw [if_neg (show ¬ (t = a ∨ true = false) by simp [e])]
        cases hv : rightV m l t with
        | true =>
          simp only [Bool.and_self, if_true]
          have := pickO_good m l a g ts (acc ++ [t]) ht
          rw [List.append_assoc] at this
          exact this
        | false =>
          simp only [Bool.and_false, Bool.false_eq_true, if_false]
          exact pickO_good m l a g ts acc ht
theorem sg_bt {d : Nat} (hd : d < sgL.length) : bt (⟨#[48, 49, 50, 51, 52, 53, 54, 55, 56, 57, 88]⟩ : ByteArray) (d : Int) = (sgL[d].toNat : Int) := bt_nat (s := sgS) hd
theorem rep_spelt (a : ByteArray) (i d : Nat) : ((a.extract 0 (i : Int).toNat) ++ ((⟨#[48, 49, 50, 51, 52, 53, 54, 55, 56, 57, 88]⟩ : ByteArray).extract (d : Int).toNat ((d + 1 : Nat) : Int).toNat)) ++ (a.extract ((i + 1 : Nat) : Int).toNat a.size) = repT a i d := by
  unfold repT repE sgS
  rw [show (i : Int) + 1 = ((i + 1 : Nat) : Int) by omega, show (d : Int) + 1 = ((d + 1 : Nat) : Int) by omega]
theorem sg_cut (d e : Nat) : ((⟨#[48, 49, 50, 51, 52, 53, 54, 55, 56, 57, 88]⟩ : ByteArray).extract d e).size ≤ 11 := by
  rw [ByteArray.size_extract]
  have : (⟨#[48, 49, 50, 51, 52, 53, 54, 55, 56, 57, 88]⟩ : ByteArray).size = 11 := rfl
  omega
/-- the rest of the reference's loops, from here on -/
def RestEv (m : Int) (l : List Int) (a : ByteArray) (n i q d : Nat) (acc : List ByteArray) : Prop :=
  Ev (fun k => spec_RepairsOf.l1 k a (putAll [] acc) (l.length : Int) (i : Int) (d : Int) m l) (putAll [] (acc ++ pickG m l a (rowFrom a i q d ++ repsFrom a n (i + 1))), true)
theorem reps_skip (m : Int) (l : List Int) (a : ByteArray) (n i q d : Nat) (acc : List ByteArray) (hd : d < 11) (hs : repT a i d = a ∨ numB l.length (repT a i d) = false) (ih : RestEv m l a n i q (d + 1) acc) :
    Ev (fun k => spec_RepairsOf.j2 k a (putAll [] acc) (l.length : Int) (i : Int) (d : Int) true m l) (putAll [] (acc ++ pickG m l a (rowFrom a i (q + 1) d ++ repsFrom a n (i + 1))), true) := by
  unfold RestEv at ih
  rw [rowFrom, List.cons_append, pickG_cons, if_pos hs]
  refine Ev.step (fun k => by rw [spec_RepairsOf.j2]) ?_
  rw [wrap_nat (show d < 4611686018427387904 by omega)]
  exact Ev.pos rfl ih
theorem reps_goes (m : Int) (l : List Int) (a : ByteArray) (g : schB m l = true) (hz : a.size = l.length + 1) (n i q d : Nat) (acc : List ByteArray) (hi : i < a.size) (hd : d < 11) (hl : acc.length ≤ 11 * i + d) (hs : ¬ (repT a i d = a ∨ numB l.length (repT a i d) = false))
    (ih : ∀ acc : List ByteArray, acc.length ≤ 11 * i + (d + 1) → RestEv m l a n i q (d + 1) acc) :
    Ev (fun k => spec_RepairsOf.j2 k a (putAll [] acc) (l.length : Int) (i : Int) (d : Int) false m l) (putAll [] (acc ++ pickG m l a (rowFrom a i (q + 1) d ++ repsFrom a n (i + 1))), true) := by
  obtain ⟨m0, m1, l0, l1, hw⟩ := sch_facts g
  clear hw
  have hr := (right_ev m l (repT a i d) g (by rw [rep_size a i d hi hd, hz])).1
  have hput := putAll_facts acc [] List.Pairwise.nil
  simp only [List.length_nil] at hput
  have hck := ckPut_ev _ (repT a i d) (show (putAll [] acc).length ≤ 1048576 by omega) hput.1
  clear hput
  rw [rowFrom, List.cons_append, pickG_cons, if_neg hs]
  clear hs
  have w1 : wrap64 ((d : Int) + 1) = ((d + 1 : Nat) : Int) := wrap_nat (by omega)
  have w2 : wrap64 ((i : Int) + 1) = ((i + 1 : Nat) : Int) := wrap_nat (by omega)
  have hE := rep_spelt a i d
  have z1 := sg_cut (d : Int).toNat ((d + 1 : Nat) : Int).toNat
  have z2 : (a.extract 0 (i : Int).toNat).size ≤ 1000 := by rw [ByteArray.size_extract]; omega
  have z3 : (a.extract ((i + 1 : Nat) : Int).toNat a.size).size ≤ 1000 := by rw [ByteArray.size_extract]; omega
  have s1 : (a.extract 0 (i : Int).toNat).size + ((⟨#[48, 49, 50, 51, 52, 53, 54, 55, 56, 57, 88]⟩ : ByteArray).extract (d : Int).toNat ((d + 1 : Nat) : Int).toNat).size ≤ 9223372036854775807 := by omega
  have s2 : ((a.extract 0 (i : Int).toNat) ++ ((⟨#[48, 49, 50, 51, 52, 53, 54, 55, 56, 57, 88]⟩ : ByteArray).extract (d : Int).toNat ((d + 1 : Nat) : Int).toNat)).size + (a.extract ((i + 1 : Nat) : Int).toNat a.size).size ≤ 9223372036854775807 := by rw [size_append]; omega
  refine Ev.step (fun k => by rw [spec_RepairsOf.j2]) ?_
  rw [w1, w2, hE]
  refine Ev.neg (by simp) (Ev.pos (by omega) (Ev.pos (by omega) (Ev.pos (by omega) (Ev.pos (by omega) (Ev.pos (by omega) (Ev.pos s1 (Ev.pos (by omega) (Ev.pos (by omega) (Ev.pos s2 (Ev.bind hr ?_))))))))))
  cases hv : rightV m l (repT a i d) with
  | true =>
    rw [if_pos rfl]
    refine Ev.pos rfl (Ev.bind hck ?_)
    have := ih (acc ++ [repT a i d]) (by rw [List.length_append]; simp; omega)
    unfold RestEv at this
    rw [putAll_snoc, List.append_assoc] at this
    exact this
  | false =>
    rw [if_neg (by simp)]
    exact Ev.neg (by simp) (ih acc (by omega))
theorem reps_both (m : Int) (l : List Int) (a : ByteArray) (g : schB m l = true) (hz : a.size = l.length + 1) (hnum : numB l.length a = true) (n i q d : Nat) (acc : List ByteArray) (hi : i < a.size) (hd : d < 11) (hl : acc.length ≤ 11 * i + d) (hc : ¬ (i < l.length ∧ d = 10))
    (ih : ∀ acc : List ByteArray, acc.length ≤ 11 * i + (d + 1) → RestEv m l a n i q (d + 1) acc) :
    Ev (fun k => spec_RepairsOf.j2 k a (putAll [] acc) (l.length : Int) (i : Int) (d : Int) ((bt (⟨#[48, 49, 50, 51, 52, 53, 54, 55, 56, 57, 88]⟩ : ByteArray) (d : Int)) == (bt a (i : Int))) m l) (putAll [] (acc ++ pickG m l a (rowFrom a i (q + 1) d ++ repsFrom a n (i + 1))), true) := by
  have hds : d < sgL.length := hd
  have hi' : i < a.data.toList.length := hi
  have hnt : numB l.length (repT a i d) = true := by
    rw [rep_num a l.length i d hz hi hds hnum]
    by_cases c : i < l.length
    · rw [decide_eq_false (fun e => hc ⟨c, e⟩), Bool.and_false]; rfl
    · rw [decide_eq_false c, Bool.false_and]; rfl
  have hsame := rep_same a i d hi' hds
  rw [sg_bt hds, bt_nat hi]
  by_cases e : sgL[d] = a.data.toList[i]
  · rw [e, beq_self_eq_true]
    exact reps_skip m l a n i q d acc hd (.inl (hsame.mpr e)) (ih acc (by omega))
  · have hq : (((sgL[d]).toNat : Int) == ((a.data.toList[i]).toNat : Int)) = false := beq_eq_false_iff_ne.mpr (fun e2 => e (UInt8.toNat_inj.mp (by omega)))
    rw [hq]
    exact reps_goes m l a g hz n i q d acc hi hd hl (fun hs => hs.elim (fun e2 => e (hsame.mp e2)) (fun e2 => by rw [hnt] at e2; exact absurd e2 (by simp))) ih
theorem reps_step (m : Int) (l : List Int) (a : ByteArray) (g : schB m l = true) (hz : a.size = l.length + 1) (hnum : numB l.length a = true) (n i q d : Nat) (acc : List ByteArray) (hi : i < a.size) (hd : d < 11) (hl : acc.length ≤ 11 * i + d)
    (ih : ∀ acc : List ByteArray, acc.length ≤ 11 * i + (d + 1) → RestEv m l a n i q (d + 1) acc) : RestEv m l a n i (q + 1) d acc := by
  unfold RestEv
  have hds : d < sgL.length := hd
  have hb := reps_both m l a g hz hnum n i q d acc hi hd hl
  have hsk := reps_skip m l a n i q d acc hd
  have hnm := rep_num a l.length i d hz hi hds hnum
  have ih0 := ih acc (by omega)
  generalize putAll [] (acc ++ pickG m l a (rowFrom a i (q + 1) d ++ repsFrom a n (i + 1))) = R at hb hsk ⊢
  refine Ev.step (fun k => by rw [spec_RepairsOf.l1]) ?_
  refine Ev.pos (by omega) (Ev.ite (fun c => Ev.ite (fun c10 => ?_) (fun c10 => ?_)) (fun c => ?_))
  · exact hsk (.inr (by rw [hnm, decide_eq_true (show i < l.length by omega), decide_eq_true (show d = 10 by omega)]; rfl)) ih0
  · exact Ev.pos (by omega) (Ev.pos (by omega) (Ev.pos (by omega) (hb (fun hc => c10 (by omega)) ih)))
  · exact Ev.pos (by omega) (Ev.pos (by omega) (Ev.pos (by omega) (hb (fun hc => c (by omega)) ih)))
theorem reps_row (m : Int) (l : List Int) (a : ByteArray) (g : schB m l = true) (hz : a.size = l.length + 1) (hnum : numB l.length a = true) (n i : Nat) (hi : i < a.size)
    (IH : ∀ acc : List ByteArray, acc.length ≤ 11 * (i + 1) → Ev (fun k => spec_RepairsOf.l0 k a (putAll [] acc) (l.length : Int) ((i + 1 : Nat) : Int) m l) (putAll [] (acc ++ pickG m l a (repsFrom a n (i + 1))), true)) :
    ∀ (q d : Nat) (acc : List ByteArray), d + q = 11 → acc.length ≤ 11 * i + d → RestEv m l a n i q d acc := by
  obtain ⟨m0, m1, l0, l1, hw⟩ := sch_facts g
  clear hw
  intro q
  induction q with
  | zero =>
    intro d acc hd hl
    unfold RestEv
    rw [rowFrom, List.nil_append]
    refine Ev.step (fun k => by rw [spec_RepairsOf.l1]) ?_
    refine Ev.neg (by omega) ?_
    rw [wrap_nat (by omega)]
    exact IH acc (by omega)
  | succ q ih =>
    intro d acc hd hl
    exact reps_step m l a g hz hnum n i q d acc hi (by omega) hl (fun acc' h' => ih (d + 1) acc' (by omega) (by omega))
theorem reps_all (m : Int) (l : List Int) (a : ByteArray) (g : schB m l = true) (hz : a.size = l.length + 1) (hnum : numB l.length a = true) : ∀ (n i : Nat) (acc : List ByteArray), i + n = a.size → acc.length ≤ 11 * i → Ev (fun k => spec_RepairsOf.l0 k a (putAll [] acc) (l.length : Int) (i : Int) m l) (putAll [] (acc ++ pickG m l a (repsFrom a n i)), true) := by
  intro n
  induction n with
  | zero =>
    intro i acc h hl
    refine Ev.step (fun k => by rw [spec_RepairsOf.l0]) ?_
    exact Ev.neg (by omega) (Ev.val (by simp [repsFrom, pickG, pickB]))
  | succ n ih =>
    intro i acc h hl
    refine Ev.step (fun k => by rw [spec_RepairsOf.l0]) ?_
    have hr := reps_row m l a g hz hnum n i (by omega) (fun acc' h' => ih (i + 1) acc' (by omega) h') 11 0 acc (by omega) (by omega)
    unfold RestEv at hr
    exact Ev.pos (by omega) hr
theorem repsFrom_sizes (a : ByteArray) : ∀ n i, i + n = a.size → ∀ t ∈ repsFrom a n i, t.size = a.size := by
  intro n
  induction n with
  | zero => intro i _ t ht; simp [repsFrom] at ht
  | succ n ih =>
    intro i h t ht
    rw [repsFrom, List.mem_append] at ht
    rcases ht with ht | ht
    · have hrow : ∀ q d, d + q = 11 → t ∈ rowFrom a i q d → t.size = a.size := by
        intro q
        induction q with
        | zero => intro d _ ht; simp [rowFrom] at ht
        | succ q ihq =>
          intro d hd ht
          rw [rowFrom, List.mem_cons] at ht
          rcases ht with rfl | ht
          · exact rep_size a i d (by omega) (show d < 11 by omega)
          · exact ihq (d + 1) (by omega) ht
      exact hrow 11 0 rfl ht
    · exact ih (i + 1) (by omega) t ht
theorem pickG_len (m : Int) (l : List Int) (a : ByteArray) (ts : List ByteArray) : (pickG m l a ts).length ≤ ts.length := by
  unfold pickG
  have h1 := pickB_len m l a (ts.filter fun t => numB l.length t)
  have h2 := List.length_filter_le (fun t => numB l.length t) ts
  omega
theorem repairsOf_key (m : Int) (l : List Int) (s : ByteArray) (h1 : l.length ≤ 1048576) (h2 : s.size ≤ 1048576) :
    ∃ r : List ByteArray × Bool, Ev (fun k => spec_RepairsOf.f k m l s) r ∧ Ev (fun k => impl_RepairsOf.f k m l s) r ∧ r.1.length ≤ 1048576 := by
  obtain ⟨b, hb, hq, hf⟩ := number_ev m l s h1 h2
  unfold spec_RepairsOf.f impl_RepairsOf.f
  cases b with
  | false => exact ⟨([], false), Ev.bind hb (Ev.neg (by simp) (Ev.val rfl)), Ev.vbind hq (Ev.neg (by simp) (Ev.val rfl)), by simp⟩
  | true =>
    obtain ⟨g, hz⟩ := hf rfl
    have hnum : numB l.length s = true := by
      have := number_val m l s g hz
      rw [hq] at this
      exact (Option.some.inj this).symm
    obtain ⟨m0, m1, l0, l1, hw⟩ := sch_facts g
    clear hw
    have hp := pickO_good m l s g (repsFrom s s.size 0) [] (fun t ht => by rw [repsFrom_sizes s s.size 0 (by omega) t ht, hz])
    rw [List.nil_append] at hp
    have hs := reps_all m l s g hz hnum s.size 0 [] (by omega) (by simp)
    have hlen := pickG_len m l s (repsFrom s s.size 0)
    rw [repsFrom_len] at hlen
    have hput := (putAll_facts (pickG m l s (repsFrom s s.size 0)) [] List.Pairwise.nil).2.1
    simp only [List.length_nil] at hput
    have hw2 : wrap64 ((s.size : Int) - 1) = (l.length : Int) := by rw [wrap_in (by omega) (by omega)]; omega
    rw [hw2]
    refine ⟨(putAll [] (pickG m l s (repsFrom s s.size 0)), true), Ev.bind hb (Ev.pos rfl ?_), Ev.vbind hq (Ev.pos rfl (Ev.pos (by omega) (Ev.bind hp (Ev.val ?_)))), ?_⟩
    · exact hs
    · rw [compact_sort]
    · show (putAll [] _).length ≤ _
      omega
end Go.Proofs.YtepkhpnoibillaaDoor.PA

/-! The laws' marks: marking a row writes texts that the holder then finds. No condition but bounds. -/
namespace Go.Proofs.YtepkhpnoibillaaDoor.PA
open Go.RowKit Go.Proofs.YtepkhpnoibillaaDoorW.PrintWords
set_option linter.unusedVariables false

theorem num1_size (z : Int) : (strOfNums [z]).size = 1 := rfl
theorem markText_l0 : ∀ (f n : Nat) (x : ByteArray), n ≤ f → x.size + n ≤ 4611686018427387903 → ∃ t, Ev (fun k => laws_markText.l0 k (n : Int) x) t
  | f, 0, x, _, h => by
    refine ⟨(⟨#[109]⟩ : ByteArray) ++ x, ?_⟩
    refine Ev.step (fun k => by rw [laws_markText.l0]) ?_
    exact Ev.neg (by omega) (Ev.pos (by omega) (Ev.val rfl))
  | 0, n + 1, x, hf, _ => by omega
  | f + 1, n + 1, x, hf, h => by
    have hz : (strOfNums [wrap64 (48 + Int.tmod ((n + 1 : Nat) : Int) 10) % 256] ++ x).size = x.size + 1 := by rw [size_append, num1_size]; omega
    have hd : wrap64 (Int.tdiv ((n + 1 : Nat) : Int) 10) = (((n + 1) / 10 : Nat) : Int) := by
      rw [Int.tdiv_eq_ediv_of_nonneg (by omega), wrap_in (by omega) (by omega)]; omega
    obtain ⟨t, ht⟩ := markText_l0 f ((n + 1) / 10) (strOfNums [wrap64 (48 + Int.tmod ((n + 1 : Nat) : Int) 10) % 256] ++ x) (by omega) (by rw [hz]; omega)
    refine ⟨t, ?_⟩
    refine Ev.step (fun k => by rw [laws_markText.l0]) ?_
    refine Ev.pos (by omega) (Ev.vbind rfl (Ev.pos (by rw [num1_size]; omega) ?_))
    rw [hd]
    exact ht
theorem markText_ex (n : Nat) (hn : n ≤ 1099511627776) : ∃ t, Ev (fun k => laws_markText.f k (n : Int)) t := by
  unfold laws_markText.f
  by_cases h : (n : Int) ≤ 0
  · exact ⟨_, Ev.pos h (Ev.val rfl)⟩
  · obtain ⟨t, ht⟩ := markText_l0 n n ⟨#[]⟩ (Nat.le_refl _) (by show 0 + n ≤ _; omega)
    exact ⟨t, Ev.neg h ht⟩
open Classical in
noncomputable def markT (n : Nat) : ByteArray := if h : ∃ t, Ev (fun k => laws_markText.f k (n : Int)) t then h.choose else ⟨#[]⟩
theorem markT_ev (n : Nat) (hn : n ≤ 1099511627776) : Ev (fun k => laws_markText.f k (n : Int)) (markT n) := by
  have h := markText_ex n hn
  unfold markT
  rw [dif_pos h]
  exact h.choose_spec
/-- the marks of so many places -/
noncomputable def marksT (n m : Nat) : List ByteArray := (List.range m).map (fun j => markT (n + j))
theorem marksT_len (n m : Nat) : (marksT n m).length = m := by simp [marksT]
theorem mark_l0 (n m : Nat) (hn : n + m ≤ 1099511627776) : ∀ (d i : Nat) (x : List ByteArray), i + d = m → x.length = m → x.take i = (marksT n m).take i → Ev (fun k => laws_markStringS.l0 k x ((n + i : Nat) : Int) (i : Int)) (((n + m : Nat) : Int), marksT n m)
  | 0, i, x, h, hx, ht => by
    refine Ev.step (fun k => by rw [laws_markStringS.l0]) ?_
    refine Ev.neg (by omega) (Ev.val ?_)
    rw [List.take_of_length_le (by omega), List.take_of_length_le (by rw [marksT_len]; omega)] at ht
    rw [ht, show n + i = n + m by omega]
  | d + 1, i, x, h, hx, ht => by
    refine Ev.step (fun k => by rw [laws_markStringS.l0]) ?_
    refine Ev.pos (by omega) (Ev.bind (markT_ev (n + i) (by omega)) (Ev.pos (by omega) ?_))
    rw [wrap_nat (by omega), wrap_nat (by omega), Int.toNat_natCast]
    refine mark_l0 n m hn d (i + 1) _ (by omega) (by simpa using hx) ?_
    rw [take_succ_get (by simp; omega), take_succ_get (show i < (marksT n m).length by rw [marksT_len]; omega), List.take_set_of_le (Nat.le_refl _), ht]
    simp [marksT]
theorem markStringS_ev (l : List ByteArray) (n : Nat) (hn : n + l.length ≤ 1099511627776) : Ev (fun k => laws_markStringS.f k l (n : Int)) (((n + l.length : Nat) : Int), marksT n l.length) :=
  mark_l0 n l.length hn l.length 0 l (by omega) rfl (by simp)
theorem held_l0 (n m : Nat) (hn : n + m ≤ 1099511627776) : ∀ (d i : Nat), i + d = m → Ev (fun k => laws_heldStringS.l0 k (marksT n m) ((n + i : Nat) : Int) (i : Int)) ((n + m : Nat) : Int)
  | 0, i, h => by
    refine Ev.step (fun k => by rw [laws_heldStringS.l0]) ?_
    refine Ev.neg (by rw [marksT_len]; omega) (Ev.val ?_)
    rw [show n + i = n + m by omega]
  | d + 1, i, h => by
    refine Ev.step (fun k => by rw [laws_heldStringS.l0]) ?_
    refine Ev.pos (by rw [marksT_len]; omega) (Ev.pos (by omega) (Ev.bind (markT_ev (n + i) (by omega)) ?_))
    rw [rdS_nat (by rw [marksT_len]; omega), wrap_nat (by omega), wrap_nat (by omega)]
    refine Ev.pos (by simp [marksT]) ?_
    exact held_l0 n m hn d (i + 1) (by omega)
theorem heldStringS_ev (n m : Nat) (hn : n + m ≤ 1099511627776) : Ev (fun k => laws_heldStringS.f k (marksT n m) (n : Int)) ((n + m : Nat) : Int) :=
  held_l0 n m hn m 0 (by omega)
end Go.Proofs.YtepkhpnoibillaaDoor.PA

/-! The laws' marks on rows of numbers: marking a row writes numbers that the holder then finds. No condition but bounds. -/
namespace Go.Proofs.YtepkhpnoibillaaDoor.PA
open Go.RowKit Go.Proofs.YtepkhpnoibillaaDoorW.PrintWords
set_option linter.unusedVariables false

def marksI (n m : Nat) : List Int := (List.range m).map (fun j => ((n + j : Nat) : Int))
theorem marksI_len (n m : Nat) : (marksI n m).length = m := by simp [marksI]
theorem markI_l0 (n m : Nat) (hn : n + m ≤ 1099511627776) : ∀ (d i : Nat) (x : List Int), i + d = m → x.length = m → x.take i = (marksI n m).take i → Ev (fun k => laws_markIntS.l0 k x ((n + i : Nat) : Int) (i : Int)) (((n + m : Nat) : Int), marksI n m)
  | 0, i, x, h, hx, ht => by
    refine Ev.step (fun k => by rw [laws_markIntS.l0]) ?_
    refine Ev.neg (by omega) (Ev.val ?_)
    rw [List.take_of_length_le (by omega), List.take_of_length_le (by rw [marksI_len]; omega)] at ht
    rw [ht, show n + i = n + m by omega]
  | d + 1, i, x, h, hx, ht => by
    refine Ev.step (fun k => by rw [laws_markIntS.l0]) ?_
    refine Ev.pos (by omega) (Ev.pos (by omega) ?_)
    rw [wrap_nat (by omega), wrap_nat (by omega), Int.toNat_natCast]
    refine markI_l0 n m hn d (i + 1) _ (by omega) (by simpa using hx) ?_
    rw [take_succ_get (by simp; omega), take_succ_get (show i < (marksI n m).length by rw [marksI_len]; omega), List.take_set_of_le (Nat.le_refl _), ht]
    simp [marksI]
theorem markIntS_ev (l : List Int) (n : Nat) (hn : n + l.length ≤ 1099511627776) : Ev (fun k => laws_markIntS.f k l (n : Int)) (((n + l.length : Nat) : Int), marksI n l.length) :=
  markI_l0 n l.length hn l.length 0 l (by omega) rfl (by simp)
end Go.Proofs.YtepkhpnoibillaaDoor.PA

/-! The laws' equality over lists of texts is equality. No condition but bounds. -/
namespace Go.Proofs.YtepkhpnoibillaaDoor.PA
open Go.RowKit Go.Proofs.YtepkhpnoibillaaDoorW.PrintWords
set_option linter.unusedVariables false

theorem eqStringS_l0 (a b : List ByteArray) (hab : a.length = b.length) (hl : a.length ≤ 4611686018427387903) : ∀ (d i : Nat), i + d = a.length → a.take i = b.take i → Ev (fun k => laws_eqStringS.l0 k a b (i : Int)) (decide (a = b))
  | 0, i, h, ht => by
    refine Ev.step (fun k => rfl) ?_
    refine Ev.neg (by omega) (Ev.val ?_)
    rw [List.take_of_length_le (by omega), List.take_of_length_le (by omega)] at ht
    simp [ht]
  | d + 1, i, h, ht => by
    refine Ev.step (fun k => rfl) ?_
    refine Ev.pos (by omega) (Ev.pos (by omega) (Ev.pos (by omega) ?_))
    rw [rdS_nat (show i < a.length by omega), rdS_nat (show i < b.length by omega), wrap_nat (by omega)]
    refine Ev.ite (fun e => ?_) (fun e => Ev.val ?_)
    · refine eqStringS_l0 a b hab hl d (i + 1) (by omega) ?_
      rw [take_succ_get (by omega), take_succ_get (by omega), ht, toList_inj.mp e]
    · have : ¬ a = b := fun e2 => e (by subst e2; rfl)
      simp [this]
theorem eqStringS_ev {a b : List ByteArray} (hl : a.length ≤ 4611686018427387903) : Ev (fun k => laws_eqStringS.f k a b) (decide (a = b)) := by
  unfold laws_eqStringS.f
  refine Ev.ite (fun e => ?_) (fun e => Ev.val ?_)
  · exact eqStringS_l0 a b (by omega) hl a.length 0 (by omega) (by simp)
  · have : ¬ a = b := fun e2 => e (by rw [e2])
    simp [this]

end Go.Proofs.YtepkhpnoibillaaDoor.PA
