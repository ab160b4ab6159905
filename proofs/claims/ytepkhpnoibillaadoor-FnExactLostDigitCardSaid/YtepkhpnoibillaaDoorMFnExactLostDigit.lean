/- The plain facts that the law FnExactLostDigit's proof leans on, in one text: each part has its own sentence. No condition but bounds. -/
import Derived.Test.YtepkhpnoibillaaDoorPAx0
import Derived.Test.YtepkhpnoibillaaDoorPAx1
import Derived.Test.YtepkhpnoibillaaDoorPAx2
import Derived.Test.YtepkhpnoibillaaDoorPAx3
import Derived.Test.YtepkhpnoibillaaDoorPAx6
import Derived.Test.YtepkhpnoibillaaDoorPAx7
import Derived.Lib.Strings
import Derived.Test.YtepkhpnoibillaaDoorWWords
import Derived.Test.YtepkhpnoibillaaDoorWMore
import Derived.Test.YtepkhpnoibillaaDoorXX
import Derived.Lib.Bytealg
import Derived.Lib.IndexLaws
/-! Plain facts that the laws' pure proofs share: answers from some number of rounds on, numbers without wrap, strings as lists of bytes. No condition. -/
namespace Go.Proofs.YtepkhpnoibillaaDoor.PA
open Go.RowKit Go.Proofs.YtepkhpnoibillaaDoorW.PrintWords
set_option linter.unusedVariables false

theorem Ev.pos {α : Type} {c : Prop} [Decidable c] {a b : Nat → Option α} {r : α} (hc : c) (h : Ev a r) : Ev (fun k => if c then a k else b k) r := Ev.congr (fun k => if_pos hc) h
theorem Ev.neg {α : Type} {c : Prop} [Decidable c] {a b : Nat → Option α} {r : α} (hc : ¬ c) (h : Ev b r) : Ev (fun k => if c then a k else b k) r := Ev.congr (fun k => if_neg hc) h
theorem Ev.ite {α : Type} {c : Prop} [Decidable c] {a b : Nat → Option α} {r : α} (h1 : c → Ev a r) (h2 : ¬ c → Ev b r) : Ev (fun k => if c then a k else b k) r := by
  by_cases hc : c
  · exact Ev.pos hc (h1 hc)
  · exact Ev.neg hc (h2 hc)
theorem Ev.val {α : Type} {o : Option α} {r : α} (h : o = some r) : Ev (fun _ => o) r := ⟨0, fun _ _ => h⟩
theorem Ev.vbind {α β : Type} {o : Option α} {f : Nat → α → Option β} {a : α} {r : β} (h : o = some a) (k : Ev (fun n => f n a) r) : Ev (fun n => o.bind (f n)) r := Ev.bind (g := fun _ => o) (Ev.val h) k
theorem Ev.unique {α : Type} {g : Nat → Option α} {a b : α} (h : Ev g a) (k : Ev g b) : a = b := by
  obtain ⟨K, h⟩ := h
  obtain ⟨K', k⟩ := k
  exact Option.some.inj ((h (max K K') (Nat.le_max_left _ _)).symm.trans (k (max K K') (Nat.le_max_right _ _)))
theorem Ev.eq {α : Type} {g : Nat → Option α} {a b : α} (h : Ev g a) (e : a = b) : Ev g b := e ▸ h

theorem wrap_nat {i : Nat} (h : i < 4611686018427387904) : wrap64 ((i : Int) + 1) = ((i + 1 : Nat) : Int) := by unfold wrap64; omega
theorem wrap_in {n : Int} (h : -9223372036854775808 ≤ n) (h2 : n ≤ 9223372036854775807) : wrap64 n = n := by unfold wrap64; omega
theorem rd_nat {l : List Int} {i : Nat} (h : i < l.length) : rd l (i : Int) = l[i] := by simp [rd, h]
theorem rdS_nat {l : List ByteArray} {i : Nat} (h : i < l.length) : rdOf ByteArray.empty l (i : Int) = l[i] := by simp [rdOf, h]
theorem bt_nat {s : ByteArray} {i : Nat} (h : i < s.size) : bt s (i : Int) = ((s.data.toList[i]'(by simpa using h)).toNat : Int) := by
  unfold bt
  rw [dif_pos (by simpa using h)]
  rfl
theorem toList_data (s : ByteArray) : s.toList = s.data.toList := Go.Lib.toList_data s
theorem size_data (s : ByteArray) : s.size = s.data.toList.length := rfl
theorem ba_ext {a b : ByteArray} (h : a.data.toList = b.data.toList) : a = b := by
  cases a with
  | mk a => cases b with
    | mk b => exact congrArg ByteArray.mk (Array.toList_inj.mp h)
theorem toList_inj {a b : ByteArray} : a.toList = b.toList ↔ a = b := ⟨fun h => ba_ext (by rw [← toList_data, ← toList_data, h]), fun h => by rw [h]⟩
theorem toList_mk (l : List UInt8) : (⟨l.toArray⟩ : ByteArray).toList = l := by rw [toList_data]
theorem data_extract (s : ByteArray) (a b : Nat) : (s.extract a b).data.toList = (s.data.toList.take b).drop a := by
  rw [ByteArray.data_extract, Array.toList_extract, List.extract_eq_take_drop, List.drop_take]
theorem data_append (a b : ByteArray) : (a ++ b).data.toList = a.data.toList ++ b.data.toList := by
  rw [ByteArray.data_append, Array.toList_append]
theorem size_append (a b : ByteArray) : (a ++ b).size = a.size + b.size := by rw [size_data, data_append, List.length_append]; rfl
theorem take_succ_get {α : Type} {l : List α} {i : Nat} (h : i < l.length) : l.take (i + 1) = l.take i ++ [l[i]] := by
  rw [List.take_add_one, List.getElem?_eq_getElem h]; rfl

/-- digits alone -/
def digB (c : UInt8) : Bool := decide (48 ≤ c.toNat) && decide (c.toNat ≤ 57)
def digitsB (s : ByteArray) (lo hi : Int) : Bool := decide (lo ≤ (s.size : Int)) && decide ((s.size : Int) ≤ hi) && s.data.toList.all digB
theorem contains_dig (c : UInt8) : ([48, 49, 50, 51, 52, 53, 54, 55, 56, 57] : List UInt8).contains c = digB c := by
  have h : ∀ n : Fin 256, ([48, 49, 50, 51, 52, 53, 54, 55, 56, 57] : List UInt8).contains (UInt8.ofNat n.val) = digB (UInt8.ofNat n.val) := by decide +kernel
  have := h ⟨c.toNat, c.toNat_lt⟩
  simpa using this
end Go.Proofs.YtepkhpnoibillaaDoor.PA

/-! Is a number within bounds: the reference's and the program's own. No condition. -/
namespace Go.Proofs.YtepkhpnoibillaaDoor.PA
open Go.RowKit Go.Proofs.YtepkhpnoibillaaDoorW.PrintWords
set_option linter.unusedVariables false

theorem l1In_f (a b c : Int) : spec_l1In.f a b c = some (decide (b ≤ a) && decide (a ≤ c)) := by
  unfold spec_l1In.f
  by_cases h : a ≥ b
  · rw [if_pos h]; simp [show b ≤ a from h]
  · rw [if_neg h]; simp [show ¬ b ≤ a from h]
theorem in_f (a b c : Int) : impl_in.f a b c = some (decide (b ≤ a) && decide (a ≤ c)) := by
  unfold impl_in.f
  by_cases h : a ≥ b
  · rw [if_pos h]; simp [show b ≤ a from h]
  · rw [if_neg h]; simp [show ¬ b ≤ a from h]
end Go.Proofs.YtepkhpnoibillaaDoor.PA

/-! The laws' equality over lists of whole numbers is equality. No condition but bounds. -/
namespace Go.Proofs.YtepkhpnoibillaaDoor.PA
open Go.RowKit Go.Proofs.YtepkhpnoibillaaDoorW.PrintWords
set_option linter.unusedVariables false

theorem eqIntS_l0 (a b : List Int) (hab : a.length = b.length) (hl : a.length ≤ 4611686018427387903) : ∀ (d i : Nat), i + d = a.length → a.take i = b.take i → Ev (fun k => laws_eqIntS.l0 k a b (i : Int)) (decide (a = b))
  | 0, i, h, ht => by
    refine Ev.step (fun k => by rw [laws_eqIntS.l0]) ?_
    refine Ev.neg (by omega) (Ev.val ?_)
    rw [List.take_of_length_le (by omega), List.take_of_length_le (by omega)] at ht
    simp [ht]
  | d + 1, i, h, ht => by
    refine Ev.step (fun k => by rw [laws_eqIntS.l0]) ?_
    refine Ev.pos (by omega) (Ev.pos (by omega) (Ev.pos (by omega) ?_))
    rw [rd_nat (show i < a.length by omega), rd_nat (show i < b.length by omega), wrap_nat (by omega)]
    refine Ev.ite (fun e => ?_) (fun e => Ev.val ?_)
    · refine eqIntS_l0 a b hab hl d (i + 1) (by omega) ?_
      rw [take_succ_get (by omega), take_succ_get (by omega), ht, e]
    · have : ¬ a = b := fun e2 => e (by subst e2; rfl)
      simp [this]
theorem eqIntS_ev {a b : List Int} (hl : a.length ≤ 4611686018427387903) : Ev (fun k => laws_eqIntS.f k a b) (decide (a = b)) := by
  unfold laws_eqIntS.f
  refine Ev.ite (fun e => ?_) (fun e => Ev.val ?_)
  · exact eqIntS_l0 a b (by omega) hl a.length 0 (by omega) (by simp)
  · have : ¬ a = b := fun e2 => e (by rw [e2])
    simp [this]
end Go.Proofs.YtepkhpnoibillaaDoor.PA

/-! The laws' own helpers over lists of whole numbers: copying keeps them. No condition but bounds. -/
namespace Go.Proofs.YtepkhpnoibillaaDoor.PA
open Go.RowKit Go.Proofs.YtepkhpnoibillaaDoorW.PrintWords
set_option linter.unusedVariables false

theorem toIntS_l0 (l : List Int) (hl : l.length ≤ 4611686018427387903) : ∀ (d i : Nat) (x : List Int), i + d = l.length → x.length = l.length → x.take i = l.take i → Ev (fun k => laws_toIntS.l0 k l x (i : Int)) l
  | 0, i, x, h, hx, ht => by
    refine Ev.step (fun k => by rw [laws_toIntS.l0]) ?_
    refine Ev.neg (by omega) (Ev.val ?_)
    rw [List.take_of_length_le (by omega), List.take_of_length_le (by omega)] at ht
    rw [ht]
  | d + 1, i, x, h, hx, ht => by
    refine Ev.step (fun k => by rw [laws_toIntS.l0]) ?_
    refine Ev.pos (by omega) (Ev.pos (by omega) (Ev.pos (by omega) ?_))
    rw [rd_nat (show i < l.length by omega), wrap_nat (by omega), Int.toNat_natCast]
    refine toIntS_l0 l hl d (i + 1) _ (by omega) (by simpa using hx) ?_
    rw [take_succ_get (by simp; omega), take_succ_get (show i < l.length by omega), List.take_set_of_le (Nat.le_refl _), ht]
    simp
theorem toIntS_ev {l : List Int} (hl : l.length ≤ 17592186044416) : Ev (fun k => laws_toIntS.f k l) l := by
  unfold laws_toIntS.f
  refine Ev.pos (by omega) (Ev.pos (by omega) ?_)
  exact toIntS_l0 l (by omega) l.length 0 _ (by omega) (by simp) (by simp)
end Go.Proofs.YtepkhpnoibillaaDoor.PA

/-! Schemes, sums and checks: the reference's and the program's are one. No condition but bounds. -/
namespace Go.Proofs.YtepkhpnoibillaaDoor.PA
open Go.RowKit Go.Proofs.YtepkhpnoibillaaDoorW.PrintWords
set_option linter.unusedVariables false

def wB (m w : Int) : Bool := decide (0 ≤ w) && decide (w ≤ wrap64 (m - 1))
def schB (m : Int) (l : List Int) : Bool := decide (2 ≤ m) && decide (m ≤ 13) && (decide (1 ≤ (l.length : Int)) && decide ((l.length : Int) ≤ 12)) && l.all (wB m)
theorem sch_l0 (m : Int) (l : List Int) (hl : l.length ≤ 1048576) : ∀ (d i : Nat), i + d = l.length → Ev (fun k => spec_l1All.l0 k 0 (wrap64 (m - 1)) l (l.length : Int) (i : Int)) ((l.drop i).all (wB m))
  | 0, i, h => by
    refine Ev.step (fun k => by rw [spec_l1All.l0]) ?_
    refine Ev.neg (by omega) (Ev.val ?_)
    rw [List.drop_of_length_le (by omega)]; rfl
  | d + 1, i, h => by
    have hi : i < l.length := by omega
    refine Ev.step (fun k => by rw [spec_l1All.l0]) ?_
    refine Ev.pos (by omega) (Ev.pos (by omega) (Ev.pos (by omega) ?_))
    rw [rd_nat hi, wrap_nat (by omega), List.drop_eq_getElem_cons hi, List.all_cons]
    refine Ev.vbind (l1In_f _ _ _) ?_
    have ih := sch_l0 m l hl d (i + 1) (by omega)
    show Ev (fun k => if wB m l[i] = true then _ else _) _
    cases wB m l[i] with
    | true => exact Ev.pos rfl (by rw [Bool.true_and]; exact ih)
    | false => exact Ev.neg (by simp) (Ev.val rfl)
theorem ckGood_ev (m : Int) (l : List Int) (hl : l.length ≤ 1048576) : Ev (fun k => spec_ckGood.f k m l) (schB m l) := by
  unfold spec_ckGood.f schB
  refine Ev.vbind (l1In_f _ _ _) ?_
  cases decide (2 ≤ m) && decide (m ≤ 13) with
  | false => exact Ev.neg (by simp) (Ev.val rfl)
  | true =>
    refine Ev.pos rfl (Ev.vbind (l1In_f _ _ _) ?_)
    cases decide (1 ≤ (l.length : Int)) && decide ((l.length : Int) ≤ 12) with
    | false => exact Ev.neg (by simp) (Ev.val rfl)
    | true =>
      have h := sch_l0 m l hl l.length 0 (by omega)
      rw [List.drop_zero] at h
      exact Ev.pos rfl (Ev.bind (g := fun k => spec_l1All.f k l 0 (wrap64 (m - 1))) h (Ev.val rfl))
theorem isScheme_f (m : Int) (l : List Int) (hl : l.length ≤ 1048576) : impl_IsScheme.f m l = some (schB m l) := by
  unfold impl_IsScheme.f schB
  have hany : anyO (fun x => (impl_in.f x 0 (wrap64 (m - 1))).map (!·)) l = some (l.any (fun x => !wB m x)) := by
    refine anyO_pure _ _ l (fun x _ => ?_)
    rw [in_f]; rfl
  rw [hany, Option.bind_some, if_pos (by omega)]
  have e : l.any (fun x => !wB m x) = !l.all (wB m) := by
    clear hany hl
    induction l with
    | nil => rfl
    | cons a l ih => rw [List.any_cons, List.all_cons, ih, Bool.not_and]
  rw [e, Bool.not_not]
theorem sch_facts {m : Int} {l : List Int} (h : schB m l = true) : 2 ≤ m ∧ m ≤ 13 ∧ 1 ≤ l.length ∧ l.length ≤ 12 ∧ ∀ w ∈ l, 0 ≤ w ∧ w ≤ 12 := by
  unfold schB at h
  simp only [Bool.and_eq_true, List.all_eq_true, decide_eq_true_eq] at h
  have hw : wrap64 (m - 1) = m - 1 := wrap_in (by omega) (by omega)
  refine ⟨by omega, by omega, by omega, by omega, fun w hw2 => ?_⟩
  have := h.2 w hw2
  unfold wB at this
  simp only [Bool.and_eq_true, decide_eq_true_eq, hw] at this
  omega
/-- the laws' own helpers -/
theorem szScheme_f {m : Int} {l : List Int} (hl : l.length ≤ maxLen) : ∃ v, laws_szScheme.f m l 1048576 = some v ∧ (v < 0 ∨ l.length ≤ 1048576) := by
  unfold maxLen at hl
  unfold laws_szScheme.f laws_szIntS.f
  have hw : wrap64 (1048576 - (l.length : Int)) = 1048576 - (l.length : Int) := wrap_in (by omega) (by omega)
  rw [hw]
  by_cases e : 1048576 - (l.length : Int) < 0
  · rw [if_pos e, Option.bind_some, if_pos (by omega)]; exact ⟨-1, rfl, .inl (by omega)⟩
  · rw [if_neg e, Option.bind_some, if_neg e]; exact ⟨_, rfl, .inr (by omega)⟩
theorem toScheme_ev {m : Int} {l : List Int} (hl : l.length ≤ 1048576) : Ev (fun k => laws_toScheme.f k m l) (m, l) := by
  unfold laws_toScheme.f
  exact Ev.bind (toIntS_ev (by omega)) (Ev.val rfl)
theorem eqScheme_ev {m : Int} {l : List Int} (hl : l.length ≤ 1048576) : Ev (fun k => laws_eqScheme.f k m l m l) true := by
  unfold laws_eqScheme.f
  exact Ev.pos rfl (Ev.bind (eqIntS_ev (by omega)) (Ev.pos (by simp) (Ev.val rfl)))
end Go.Proofs.YtepkhpnoibillaaDoor.PA

/-! Digits, as the reference's checks ask for them. No condition but bounds of size. -/
namespace Go.Proofs.YtepkhpnoibillaaDoor.PA
open Go.RowKit Go.Proofs.YtepkhpnoibillaaDoorW.PrintWords
set_option linter.unusedVariables false

theorem ckDigits_l0 (s : ByteArray) (hs : s.size ≤ 4611686018427387903) : ∀ (d i : Nat), i + d = s.size → Ev (fun k => spec_ckDigits.l0 k s (i : Int)) ((s.data.toList.drop i).all digB)
  | 0, i, h => by
    refine Ev.step (fun k => by rw [spec_ckDigits.l0]) (Ev.neg (by omega) (Ev.val ?_))
    rw [List.drop_of_length_le (by rw [← size_data]; omega)]; rfl
  | d + 1, i, h => by
    have hi : i < s.data.toList.length := by rw [← size_data]; omega
    refine Ev.step (fun k => by rw [spec_ckDigits.l0]) (Ev.pos (by omega) (Ev.pos (by omega) ?_))
    rw [bt_nat (by omega), List.drop_eq_getElem_cons hi, List.all_cons, wrap_nat (by omega)]
    unfold digB
    refine Ev.ite (fun e => Ev.val ?_) (fun e => Ev.ite (fun e2 => Ev.val ?_) (fun e2 => ?_))
    · simp only [show ¬ 48 ≤ (s.data.toList[i]).toNat by omega, decide_false, Bool.false_and]
    · simp only [show ¬ (s.data.toList[i]).toNat ≤ 57 by omega, decide_false, Bool.and_false, Bool.false_and]
    · simp only [show 48 ≤ (s.data.toList[i]).toNat by omega, show (s.data.toList[i]).toNat ≤ 57 by omega, decide_true, Bool.true_and]
      exact ckDigits_l0 s hs d (i + 1) (by omega)
end Go.Proofs.YtepkhpnoibillaaDoor.PA

/-! Digits alone, as the program asks for them. No condition but bounds of size. -/
namespace Go.Proofs.YtepkhpnoibillaaDoor.PA
open Go.RowKit Go.Proofs.YtepkhpnoibillaaDoorW.PrintWords
set_option linter.unusedVariables false

theorem over_digits (s : ByteArray) (hs : s.size ≤ 140737488355328) : impl_over.f s (⟨#[48, 49, 50, 51, 52, 53, 54, 55, 56, 57]⟩ : ByteArray) = some (s.data.toList.all digB) := by
  unfold impl_over.f
  rw [if_pos ⟨hs, by decide, by decide⟩]
  congr 1
  exact congrArg (fun f => s.data.toList.all f) (funext contains_dig)
end Go.Proofs.YtepkhpnoibillaaDoor.PA

/-! Sums of numbers with their checks: the reference's and the program's are one. No condition but bounds. -/
namespace Go.Proofs.YtepkhpnoibillaaDoor.PA
open Go.RowKit Go.Proofs.YtepkhpnoibillaaDoorW.PrintWords
set_option linter.unusedVariables false

def signs : ByteArray := ⟨#[48, 49, 50, 51, 52, 53, 54, 55, 56, 57, 88]⟩
/-- the place of a check's sign, or -1 -/
def chk (b : UInt8) : Int := Lib.indexByte signs.data.toList b
theorem chk_all : ∀ b : Fin 256, spec_ckCheck.l0 12 (b.val : Int) 0 = some (chk (UInt8.ofNat b.val)) := by decide +kernel
theorem chk_range : ∀ b : Fin 256, -1 ≤ chk (UInt8.ofNat b.val) ∧ chk (UInt8.ofNat b.val) ≤ 10 := by decide +kernel
theorem chk_le (b : UInt8) : -1 ≤ chk b ∧ chk b ≤ 10 := by
  have := chk_range ⟨b.toNat, b.toNat_lt⟩
  simpa using this
theorem ckCheck_ev (b : UInt8) : Ev (fun k => spec_ckCheck.f k (b.toNat : Int)) (chk b) := by
  refine ⟨12, fun k hk => ?_⟩
  have h := chk_all ⟨b.toNat, b.toNat_lt⟩
  simp only [UInt8.ofNat_toNat] at h
  have := leO_add (fun k => spec_ckCheck.mono (b.toNat : Int) k) (k := 12) h (k - 12)
  rwa [show 12 + (k - 12) = k by omega] at this
theorem indexByte_f (b : UInt8) : strings_IndexByte.f signs (b.toNat : Int) = some (chk b) := by
  unfold strings_IndexByte.f chk
  rw [Int.toNat_natCast]
  simp
theorem bt_of {s : ByteArray} {i : Nat} (h : i < s.size) : ∃ b : UInt8, bt s (i : Int) = (b.toNat : Int) := ⟨_, bt_nat h⟩
theorem bt_cut {s : ByteArray} {n i : Nat} (hn : n ≤ s.size) (hi : i < n) : bt (s.extract 0 n) (i : Int) = bt s (i : Int) := by
  have hz : (s.extract 0 n).size = n := by rw [ByteArray.size_extract]; omega
  rw [bt_nat (by omega), bt_nat (show i < s.size by omega)]
  have e : (s.extract 0 n).data.toList = s.data.toList.take n := by rw [data_extract, List.drop_zero]
  simp only [e, List.getElem_take]
section
variable (l : List Int) (hl : l.length ≤ 12) (hw : ∀ w ∈ l, 0 ≤ w ∧ w ≤ 12) (s t : ByteArray) (ht : t.size = l.length) (hs : l.length ≤ s.size) (hb : ∀ i, i < l.length → bt t ((i : Nat) : Int) = bt s ((i : Nat) : Int))
include hl hw ht hs hb
theorem sum_l0 (m : Int) : ∀ (d i : Nat) (x : Int), i + d = l.length → 0 ≤ x → x ≤ 4000 * (i : Int) →
    ∃ v, 0 ≤ v ∧ v ≤ 48000 ∧ Ev (fun k => spec_ckSum.l0 k s x l (l.length : Int) (i : Int)) v ∧ Ev (fun k => impl_Scheme_sum.l0 k t x (t.size : Int) (i : Int) m l) (v, m)
  | 0, i, x, h, h0, h1 => by
    refine ⟨x, h0, by omega, ?_, ?_⟩
    · refine Ev.step (fun k => by rw [spec_ckSum.l0]) ?_
      exact Ev.neg (by omega) (Ev.val rfl)
    · refine Ev.step (fun k => by rw [impl_Scheme_sum.l0]) ?_
      exact Ev.neg (by omega) (Ev.val rfl)
  | d + 1, i, x, h, h0, h1 => by
    have hi : i < l.length := by omega
    have hy := hw _ (List.getElem_mem hi)
    have hc : ∃ c : Int, c = (bt s (i : Int) - 48) % 256 ∧ 0 ≤ c ∧ c < 256 := ⟨_, rfl, by omega, by omega⟩
    obtain ⟨c, hc, hc0, hc1⟩ := hc
    have hp0 : 0 ≤ l[i] * c := Int.mul_nonneg hy.1 hc0
    have hp1 : l[i] * c ≤ 12 * 255 := Int.mul_le_mul hy.2 (by omega) hc0 (by decide)
    obtain ⟨v, v0, v1, e1, e2⟩ := sum_l0 m d (i + 1) (x + l[i] * c) (by omega) (by omega) (by omega)
    refine ⟨v, v0, v1, ?_, ?_⟩
    · refine Ev.step (fun k => by rw [spec_ckSum.l0]) ?_
      refine Ev.pos (by omega) (Ev.pos (by omega) (Ev.pos (by omega) (Ev.pos (by omega) ?_)))
      rw [rd_nat hi, ← hc, wrap_nat (by omega), wrap_in (n := l[i] * c) (by omega) (by omega), wrap_in (by omega) (by omega)]
      exact e1
    · refine Ev.step (fun k => by rw [impl_Scheme_sum.l0]) ?_
      refine Ev.pos (by omega) (Ev.pos (by omega) (Ev.pos (by omega) (Ev.vbind (a := c) (by rw [hb i hi, hc]; rfl) (Ev.pos (by omega) ?_))))
      rw [rd_nat hi, wrap_nat (by omega), Int.mul_comm c, wrap_in (n := l[i] * c) (by omega) (by omega), wrap_in (by omega) (by omega)]
      exact e2
theorem sum_ev (m : Int) : ∃ v, 0 ≤ v ∧ v ≤ 48000 ∧ Ev (fun k => spec_ckSum.f k m l s) v ∧ Ev (fun k => impl_Scheme_sum.f k m l t) (v, m) :=
  sum_l0 l hl hw s t ht hs hb m l.length 0 0 (by omega) (by omega) (by omega)
end
theorem number_ev (m : Int) (l : List Int) (s : ByteArray) (hl : l.length ≤ 1048576) (hs : s.size ≤ 1048576) :
    ∃ b, Ev (fun k => spec_ckNumber.f k m l s) b ∧ impl_numberOk.f m l s = some b ∧ (b = true → schB m l = true ∧ s.size = l.length + 1) := by
  have hg := ckGood_ev m l hl
  have hi := isScheme_f m l hl
  unfold spec_ckNumber.f impl_numberOk.f
  cases g : schB m l with
  | false =>
    rw [g] at hg hi
    exact ⟨false, Ev.bind hg (Ev.neg (by simp) (Ev.val rfl)), by rw [hi]; rfl, by simp⟩
  | true =>
    rw [g] at hg hi
    rw [wrap_nat (by omega), hi, Option.bind_some, if_pos rfl]
    by_cases hz : s.size = l.length + 1
    · have hz' : (s.size : Int) = ((l.length + 1 : Nat) : Int) := by omega
      have hcut : (s.extract 0 l.length).size = l.length := by rw [ByteArray.size_extract]; omega
      obtain ⟨b, hb⟩ := bt_of (s := s) (i := l.length) (by omega)
      have hd := ckDigits_l0 (s.extract 0 l.length) (by omega) (s.extract 0 l.length).size 0 (by omega)
      rw [List.drop_zero] at hd
      have ho := over_digits (s.extract 0 l.length) (by omega)
      rw [if_pos hz', if_pos (by omega), if_pos (by omega), Int.toNat_natCast, ho, Option.bind_some]
      cases hall : (s.extract 0 l.length).data.toList.all digB with
      | false =>
        rw [hall] at hd
        refine ⟨false, Ev.bind hg (Ev.pos rfl (Ev.pos hz' (Ev.pos (by omega) (Ev.pos (by omega) (Ev.bind (g := fun k => spec_ckDigits.f k (s.extract 0 l.length)) hd (Ev.neg (by simp) (Ev.val rfl))))))), rfl, by simp⟩
      | true =>
        rw [hall] at hd
        rw [if_pos rfl, if_pos (by omega), hb]
        have hx : strings_IndexByte.f (⟨#[48, 49, 50, 51, 52, 53, 54, 55, 56, 57, 88]⟩ : ByteArray) (b.toNat : Int) = some (chk b) := indexByte_f b
        rw [hx]
        refine ⟨decide (chk b ≥ 0), Ev.bind hg (Ev.pos rfl (Ev.pos hz' (Ev.pos (by omega) (Ev.pos (by omega) (Ev.bind (g := fun k => spec_ckDigits.f k (s.extract 0 l.length)) hd (Ev.pos rfl (Ev.pos (by omega) (Ev.bind (ckCheck_ev b) (Ev.val rfl))))))))), rfl, fun _ => ⟨rfl, hz⟩⟩
    · have hz' : ¬ (s.size : Int) = ((l.length + 1 : Nat) : Int) := by omega
      rw [if_neg hz']
      exact ⟨false, Ev.bind hg (Ev.pos rfl (Ev.neg hz' (Ev.val rfl))), rfl, by simp⟩
/-- a number's whole sum -/
theorem whole_ev (m : Int) (l : List Int) (s : ByteArray) (hl : l.length ≤ 12) (hw : ∀ w ∈ l, 0 ≤ w ∧ w ≤ 12) (hz : s.size = l.length + 1) :
    ∃ v c, 0 ≤ v ∧ v ≤ 48000 ∧ -1 ≤ c ∧ c ≤ 10 ∧ Ev (fun k => spec_ckSum.f k m l s) v ∧ Ev (fun k => spec_ckCheck.f k (bt s (l.length : Int))) c ∧ Ev (fun k => impl_Scheme_whole.f k m l s) (v + c, m) := by
  have hcut : (s.extract 0 l.length).size = l.length := by rw [ByteArray.size_extract]; omega
  obtain ⟨b, hb⟩ := bt_of (s := s) (i := l.length) (by omega)
  obtain ⟨v, v0, v1, e1, e2⟩ := sum_ev l hl hw s (s.extract 0 l.length) hcut (by omega) (fun i hi => bt_cut (by omega) hi) m
  have hc := chk_le b
  refine ⟨v, chk b, v0, v1, hc.1, hc.2, e1, by rw [hb]; exact ckCheck_ev b, ?_⟩
  unfold impl_Scheme_whole.f
  refine Ev.pos (by omega) (Ev.pos (by omega) ?_)
  rw [Int.toNat_natCast, hb]
  refine Ev.bind e2 (Ev.pos (by omega) (Ev.vbind (indexByte_f b) (Ev.val ?_)))
  rw [wrap_in (by omega) (by omega)]
end Go.Proofs.YtepkhpnoibillaaDoor.PA

/-! Is a number right: the reference and the program ask for the same. No condition but bounds. -/
namespace Go.Proofs.YtepkhpnoibillaaDoor.PA
open Go.RowKit Go.Proofs.YtepkhpnoibillaaDoorW.PrintWords
set_option linter.unusedVariables false

theorem drop_take_one {α : Type} {l : List α} {i : Nat} (h : i < l.length) : (l.take (i + 1)).drop i = [l[i]] := by
  rw [take_succ_get h, List.drop_append_of_le_length (by rw [List.length_take]; omega), List.drop_of_length_le (by rw [List.length_take]; omega)]; rfl
theorem right_ex (m : Int) (l : List Int) (t : ByteArray) (g : schB m l = true) (hz : t.size = l.length + 1) : ∃ b, Ev (fun k => spec_ckRight.f k m l t) b ∧ Ev (fun k => rightO k m l t) b := by
  obtain ⟨m0, m1, l0, l1, hw⟩ := sch_facts g
  obtain ⟨v, c, v0, v1, c0, c1, e1, e2, e3⟩ := whole_ev m l t l1 hw hz
  have hj : wrap64 ((t.size : Int) - 1) = (l.length : Int) := by rw [wrap_in (by omega) (by omega)]; omega
  refine ⟨Int.tmod (v + c) m == 0, ?_, ?_⟩
  · unfold spec_ckRight.f
    refine Ev.bind e1 ?_
    rw [hj]
    refine Ev.pos (by omega) (Ev.pos (by omega) (Ev.bind e2 (Ev.neg (by omega) (Ev.val ?_))))
    rw [wrap_in (by omega) (by omega)]
  · unfold rightO
    exact Ev.bind e3 (Ev.neg (by omega) (Ev.pos rfl (Ev.val rfl)))
open Classical in
/-- is a number right -/
noncomputable def rightV (m : Int) (l : List Int) (t : ByteArray) : Bool := if h : ∃ b, Ev (fun k => spec_ckRight.f k m l t) b ∧ Ev (fun k => rightO k m l t) b then h.choose else false
theorem right_ev (m : Int) (l : List Int) (t : ByteArray) (g : schB m l = true) (hz : t.size = l.length + 1) : Ev (fun k => spec_ckRight.f k m l t) (rightV m l t) ∧ Ev (fun k => rightO k m l t) (rightV m l t) := by
  have h := right_ex m l t g hz
  unfold rightV
  rw [dif_pos h]
  exact h.choose_spec
end Go.Proofs.YtepkhpnoibillaaDoor.PA

/-! Numbers with one sign changed. No condition but bounds. -/
namespace Go.Proofs.YtepkhpnoibillaaDoor.PA
open Go.RowKit Go.Proofs.YtepkhpnoibillaaDoorW.PrintWords
set_option linter.unusedVariables false

/-- the signs -/
def sgL : List UInt8 := [48, 49, 50, 51, 52, 53, 54, 55, 56, 57, 88]
theorem rep_data (a : ByteArray) (i d : Nat) (h : i < a.data.toList.length) (hd : d < sgL.length) : (repT a i d).data.toList = a.data.toList.set i sgL[d] := by
  unfold repT repE
  rw [show ((i : Int) + 1).toNat = i + 1 by omega, show ((d : Int) + 1).toNat = d + 1 by omega, Int.toNat_natCast, Int.toNat_natCast]
  rw [data_append, data_append, data_extract, data_extract, data_extract, List.drop_zero]
  have e0 : sgS.data.toList = sgL := rfl
  rw [e0, drop_take_one hd, List.take_of_length_le (l := a.data.toList) (i := a.size) (by rw [← size_data]; omega), List.set_eq_take_append_cons_drop, if_pos h]
  simp
theorem rep_size (a : ByteArray) (i d : Nat) (h : i < a.size) (hd : d < sgL.length) : (repT a i d).size = a.size := by
  rw [size_data, rep_data a i d h hd, List.length_set, ← size_data]
theorem rep_same (a : ByteArray) (i d : Nat) (h : i < a.data.toList.length) (hd : d < sgL.length) : repT a i d = a ↔ sgL[d] = a.data.toList[i] := by
  constructor
  · intro e
    have e1 := rep_data a i d h hd
    rw [e] at e1
    have e2 := congrArg (fun z : List UInt8 => z[i]?) e1
    simp only [List.getElem?_set_self h, List.getElem?_eq_getElem h] at e2
    exact (Option.some.inj e2).symm
  · intro e
    apply ba_ext
    rw [rep_data a i d h hd, e, List.set_getElem_self]
/-- a text's signs are those of a number -/
def numB (n : Nat) (s : ByteArray) : Bool := (s.data.toList.take n).all digB && decide (chk (s.data.toList.getD n 0) ≥ 0)
theorem number_val (m : Int) (l : List Int) (s : ByteArray) (g : schB m l = true) (hz : s.size = l.length + 1) : impl_numberOk.f m l s = some (numB l.length s) := by
  obtain ⟨m0, m1, l0, l1, hw⟩ := sch_facts g
  have hi := isScheme_f m l (by omega)
  rw [g] at hi
  unfold impl_numberOk.f
  rw [wrap_nat (by omega), hi, Option.bind_some, if_pos rfl]
  have hcut : (s.extract 0 l.length).size = l.length := by rw [ByteArray.size_extract]; omega
  have ho := over_digits (s.extract 0 l.length) (by omega)
  have hdat : (s.extract 0 l.length).data.toList = s.data.toList.take l.length := by rw [data_extract, List.drop_zero]
  have hn : l.length < s.size := by omega
  have hb := bt_nat hn
  have hx := indexByte_f (s.data.toList[l.length])
  have hg : s.data.toList.getD l.length 0 = s.data.toList[l.length] := by
    rw [List.getD_eq_getElem?_getD, List.getElem?_eq_getElem hn, Option.getD_some]
  rw [if_pos (by omega), if_pos (by omega), if_pos (by omega), Int.toNat_natCast, ho, Option.bind_some, hdat]
  unfold numB
  rw [hg]
  cases hall : (s.data.toList.take l.length).all digB with
  | false => rfl
  | true =>
    rw [if_pos rfl, if_pos (by omega), hb]
    have hx' : strings_IndexByte.f (⟨#[48, 49, 50, 51, 52, 53, 54, 55, 56, 57, 88]⟩ : ByteArray) ((s.data.toList[l.length]).toNat : Int) = some (chk (s.data.toList[l.length])) := hx
    rw [hx', Option.bind_some, Bool.true_and]
theorem sg_dig : ∀ d : Fin 10, digB (sgL.getD d.1 0) = true := by decide
theorem sg_chk : ∀ d : Fin 11, decide (chk (sgL.getD d.1 0) ≥ 0) = true := by decide
theorem sg_getD {d : Nat} (hd : d < sgL.length) : sgL.getD d 0 = sgL[d] := by
  rw [List.getD_eq_getElem?_getD, List.getElem?_eq_getElem hd, Option.getD_some]
/-- a number with a sign changed is a number, but for the last sign at another place than the last -/
theorem rep_num (a : ByteArray) (n i d : Nat) (hz : a.size = n + 1) (hi : i < a.size) (hd : d < sgL.length) (h : numB n a = true) : numB n (repT a i d) = !(decide (i < n) && decide (d = 10)) := by
  have hi' : i < a.data.toList.length := hi
  have hz' : a.data.toList.length = n + 1 := hz
  unfold numB at h ⊢
  rw [Bool.and_eq_true] at h
  obtain ⟨h1, h2⟩ := h
  rw [List.all_eq_true] at h1
  obtain ⟨x, hx⟩ : ∃ x, x = sgL[d] := ⟨_, rfl⟩
  rw [rep_data a i d hi' hd, ← hx]
  by_cases c : i < n
  · have e1 : (a.data.toList.set i x).getD n 0 = a.data.toList.getD n 0 := by
      rw [List.getD_eq_getElem?_getD, List.getD_eq_getElem?_getD, List.getElem?_set_ne (by omega)]
    rw [e1, h2, Bool.and_true, List.take_set, decide_eq_true c, Bool.true_and]
    by_cases c10 : d = 10
    · subst c10
      have hx : x = 88 := hx
      subst hx
      rw [decide_eq_true rfl]
      have hm : (88 : UInt8) ∈ (a.data.toList.take n).set i 88 := List.mem_set (l := a.data.toList.take n) (i := i) (by rw [List.length_take]; omega) 88
      show List.all ((a.data.toList.take n).set i 88) digB = false
      rw [List.all_eq_false]
      exact ⟨88, hm, by decide⟩
    · rw [decide_eq_false c10]
      show List.all _ digB = true
      rw [List.all_eq_true]
      intro y hy
      rcases List.mem_or_eq_of_mem_set hy with hy | hy
      · exact h1 y hy
      · rw [hy, hx, ← sg_getD hd]
        exact sg_dig ⟨d, by have : d < 11 := hd; omega⟩
  · have hin : i = n := by omega
    subst hin
    have e1 : (a.data.toList.set i x).getD i 0 = x := by
      rw [List.getD_eq_getElem?_getD, List.getElem?_set_self hi', Option.getD_some]
    have e2 : (a.data.toList.set i x).take i = a.data.toList.take i := by
      rw [List.take_set, List.set_eq_of_length_le (by rw [List.length_take]; omega)]
    rw [e1, e2, List.all_eq_true.mpr h1, Bool.true_and, decide_eq_false c, Bool.false_and, hx, ← sg_getD hd, sg_chk ⟨d, hd⟩]
    rfl
theorem sg_bt {d : Nat} (hd : d < sgL.length) : bt (⟨#[48, 49, 50, 51, 52, 53, 54, 55, 56, 57, 88]⟩ : ByteArray) (d : Int) = (sgL[d].toNat : Int) := bt_nat (s := sgS) hd
theorem rep_spelt (a : ByteArray) (i d : Nat) : ((a.extract 0 (i : Int).toNat) ++ ((⟨#[48, 49, 50, 51, 52, 53, 54, 55, 56, 57, 88]⟩ : ByteArray).extract (d : Int).toNat ((d + 1 : Nat) : Int).toNat)) ++ (a.extract ((i + 1 : Nat) : Int).toNat a.size) = repT a i d := by
  unfold repT repE sgS
  rw [show (i : Int) + 1 = ((i + 1 : Nat) : Int) by omega, show (d : Int) + 1 = ((d + 1 : Nat) : Int) by omega]
theorem sg_cut (d e : Nat) : ((⟨#[48, 49, 50, 51, 52, 53, 54, 55, 56, 57, 88]⟩ : ByteArray).extract d e).size ≤ 11 := by
  rw [ByteArray.size_extract]
  have : (⟨#[48, 49, 50, 51, 52, 53, 54, 55, 56, 57, 88]⟩ : ByteArray).size = 11 := rfl
  omega
end Go.Proofs.YtepkhpnoibillaaDoor.PA

/-! A number with a lost digit: the reference and the program find the same digits. No condition but bounds. -/
namespace Go.Proofs.YtepkhpnoibillaaDoor.PA
open Go.RowKit Go.Proofs.YtepkhpnoibillaaDoorW.PrintWords
set_option linter.unusedVariables false

theorem rpl_set (a : ByteArray) (d : UInt8) (j : Nat) (hj : lostJ a = (j : Int)) (h : j < a.data.toList.length) : (rplT a 63 d).data.toList = a.data.toList.set j d := by
  unfold rplT
  have e : (Lib.indexByte a.data.toList 63).toNat = j := by
    have : Lib.indexByte a.data.toList 63 = (j : Int) := hj
    rw [this]; rfl
  rw [e, List.set_eq_take_append_cons_drop, if_pos h]
theorem sg_ten : ∀ d : Fin 10, sgL.getD d.1 0 = UInt8.ofNat (48 + d.1) := by decide
theorem rpl_rep (a : ByteArray) (d j : Nat) (hj : lostJ a = (j : Int)) (h : j < a.data.toList.length) (hd : d < 10) : rplT a 63 (UInt8.ofNat (48 + d)) = repT a j d := by
  apply ba_ext
  have hd' : d < sgL.length := (show d < 11 by omega)
  rw [rpl_set a _ j hj h, rep_data a j d h hd', ← sg_getD hd', sg_ten ⟨d, hd⟩]
theorem cut_ten : ∀ d : Fin 10, (⟨#[48, 49, 50, 51, 52, 53, 54, 55, 56, 57, 88]⟩ : ByteArray).extract d.1 (d.1 + 1) = digS.extract d.1 (d.1 + 1) := by decide +kernel
theorem numB_no (n : Nat) (t : ByteArray) (hz : t.data.toList.length = n + 1) (h : numB n t = true) : (63 : UInt8) ∉ t.data.toList := by
  unfold numB at h
  rw [Bool.and_eq_true, List.all_eq_true, decide_eq_true_eq] at h
  obtain ⟨h1, h2⟩ := h
  intro hm
  obtain ⟨q, hq, e⟩ := List.mem_iff_getElem.mp hm
  by_cases c : q < n
  · have : (63 : UInt8) ∈ t.data.toList.take n := by
      rw [List.mem_iff_getElem]
      exact ⟨q, by rw [List.length_take]; omega, by rw [List.getElem_take]; exact e⟩
    exact absurd (h1 _ this) (by decide)
  · have hqn : q = n := by omega
    subst hqn
    rw [List.getD_eq_getElem?_getD, List.getElem?_eq_getElem hq, Option.getD_some, e] at h2
    exact absurd h2 (by decide)
/-- the digits that make a number right -/
noncomputable def lostV (m : Int) (l : List Int) (a : ByteArray) (j : Nat) : Nat → Nat → List ByteArray → List ByteArray
  | 0, _, acc => acc
  | q + 1, d, acc => lostV m l a j q (d + 1) (if rightV m l (repT a j d) = true then acc ++ [digS.extract d (d + 1)] else acc)
theorem lostV_len (m : Int) (l : List Int) (a : ByteArray) (j : Nat) : ∀ q d acc, (lostV m l a j q d acc).length ≤ acc.length + q
  | 0, d, acc => Nat.le_refl _
  | q + 1, d, acc => by
    have := lostV_len m l a j q (d + 1) (if rightV m l (repT a j d) = true then acc ++ [digS.extract d (d + 1)] else acc)
    rw [lostV]
    split at this <;> simp_all <;> omega
section
variable (m : Int) (l : List Int) (a : ByteArray) (g : schB m l = true) (hz : a.size = l.length + 1) (j : Nat) (hj : lostJ a = (j : Int)) (hjl : j < l.length)
include g hz hjl
theorem lost_l1 : ∀ (q d : Nat) (acc : List ByteArray), d + q = 10 → acc.length ≤ d → Ev (fun k => spec_LostDigit.l1 k a (j : Int) acc (d : Int) m l) (lostV m l a j q d acc, true) := by
  obtain ⟨m0, m1, l0, l1, hw⟩ := sch_facts g
  clear hw
  intro q
  induction q with
  | zero =>
    intro d acc hd hl
    refine Ev.step (fun k => by rw [spec_LostDigit.l1]) ?_
    exact Ev.neg (by omega) (Ev.val rfl)
  | succ q ih =>
    intro d acc hd hl
    have hr := (right_ev m l (repT a j d) g (by rw [rep_size a j d (by omega) (show d < 11 by omega), hz])).1
    have w1 : wrap64 ((d : Int) + 1) = ((d + 1 : Nat) : Int) := wrap_nat (by omega)
    have w2 : wrap64 ((j : Int) + 1) = ((j + 1 : Nat) : Int) := wrap_nat (by omega)
    have hE := rep_spelt a j d
    have z1 := sg_cut (d : Int).toNat ((d + 1 : Nat) : Int).toNat
    have z2 : (a.extract 0 (j : Int).toNat).size ≤ 1000 := by rw [ByteArray.size_extract]; omega
    have z3 : (a.extract ((j + 1 : Nat) : Int).toNat a.size).size ≤ 1000 := by rw [ByteArray.size_extract]; omega
    have s1 : (a.extract 0 (j : Int).toNat).size + ((⟨#[48, 49, 50, 51, 52, 53, 54, 55, 56, 57, 88]⟩ : ByteArray).extract (d : Int).toNat ((d + 1 : Nat) : Int).toNat).size ≤ 9223372036854775807 := by omega
    have s2 : ((a.extract 0 (j : Int).toNat) ++ ((⟨#[48, 49, 50, 51, 52, 53, 54, 55, 56, 57, 88]⟩ : ByteArray).extract (d : Int).toNat ((d + 1 : Nat) : Int).toNat)).size + (a.extract ((j + 1 : Nat) : Int).toNat a.size).size ≤ 9223372036854775807 := by rw [size_append]; omega
    have hone : (⟨#[48, 49, 50, 51, 52, 53, 54, 55, 56, 57, 88]⟩ : ByteArray).extract (d : Int).toNat ((d + 1 : Nat) : Int).toNat = digS.extract d (d + 1) := cut_ten ⟨d, by omega⟩
    refine Ev.step (fun k => by rw [spec_LostDigit.l1]) ?_
    rw [w1, w2, hE]
    refine Ev.pos (by omega) (Ev.pos (by omega) (Ev.pos (by omega) (Ev.pos (by omega) (Ev.pos (by omega) (Ev.pos (by omega) (Ev.pos s1 (Ev.pos (by omega) (Ev.pos (by omega) (Ev.pos s2 (Ev.bind hr ?_))))))))))
    rw [hone, lostV]
    cases hv : rightV m l (repT a j d) with
    | true =>
      rw [if_pos rfl]
      exact Ev.pos rfl (Ev.pos (by omega) (ih (d + 1) _ (by omega) (by rw [List.length_append]; simp; omega)))
    | false =>
      rw [if_neg (by simp)]
      exact Ev.neg (by simp) (ih (d + 1) _ (by omega) (by omega))
/-- behind the reference's search, with a place found -/
theorem lost_end (b : Bool) (hb : Ev (fun k => spec_ckNumber.f k m l (repT a j 0)) b) : ∀ (d i : Nat), i + d = l.length → Ev (fun k => spec_LostDigit.l0 k a (j : Int) (i : Int) m l) (if b = true then (lostV m l a j 10 0 [], true) else ([], false)) := by
  obtain ⟨m0, m1, l0, l1, hw⟩ := sch_facts g
  clear hw
  intro d
  induction d with
  | zero =>
    intro i hi
    have w2 : wrap64 ((j : Int) + 1) = ((j + 1 : Nat) : Int) := wrap_nat (by omega)
    have hE : ((a.extract 0 (j : Int).toNat) ++ (⟨#[48]⟩ : ByteArray)) ++ (a.extract ((j + 1 : Nat) : Int).toNat a.size) = repT a j 0 := by
      rw [← rep_spelt a j 0]; rfl
    have z2 : (a.extract 0 (j : Int).toNat).size ≤ 1000 := by rw [ByteArray.size_extract]; omega
    have z3 : (a.extract ((j + 1 : Nat) : Int).toNat a.size).size ≤ 1000 := by rw [ByteArray.size_extract]; omega
    have s2 : ((a.extract 0 (j : Int).toNat) ++ (⟨#[48]⟩ : ByteArray)).size + (a.extract ((j + 1 : Nat) : Int).toNat a.size).size ≤ 9223372036854775807 := by rw [size_append]; show _ + 1 + _ ≤ _; omega
    refine Ev.step (fun k => by rw [spec_LostDigit.l0]) ?_
    rw [w2, hE]
    refine Ev.neg (by omega) (Ev.neg (by omega) (Ev.pos (by omega) (Ev.pos (by omega) (Ev.pos (by omega) (Ev.pos (by omega) (Ev.pos (by omega) (Ev.pos s2 (Ev.bind hb ?_))))))))
    cases b with
    | true =>
      refine Ev.step (fun k => by rw [spec_LostDigit.j2]) ?_
      exact Ev.neg (by simp) (lost_l1 m l a g hz j hjl 10 0 [] rfl (by simp))
    | false =>
      refine Ev.step (fun k => by rw [spec_LostDigit.j2]) ?_
      exact Ev.pos rfl (Ev.val rfl)
  | succ d ih =>
    intro i hi
    have ih' := ih (i + 1) (by omega)
    refine Ev.step (fun k => by rw [spec_LostDigit.l0]) ?_
    rw [wrap_nat (by omega)]
    exact Ev.pos (by omega) (Ev.pos (by omega) (Ev.pos (by omega) (Ev.ite (fun _ => Ev.neg (by omega) ih') (fun _ => ih'))))
include hj
theorem lost_O : ∀ (q d : Nat) (acc : List ByteArray), d + q = 10 → Ev (fun k => lostO (rightO k m l) a q d acc) (lostV m l a j q d acc)
  | 0, d, acc, _ => Ev.val rfl
  | q + 1, d, acc, hd => by
    have h' : j < a.data.toList.length := by rw [← size_data]; omega
    have hr := (right_ev m l (repT a j d) g (by rw [rep_size a j d (by omega) (show d < 11 by omega), hz])).2
    have ih := lost_O q (d + 1) (if rightV m l (repT a j d) = true then acc ++ [digS.extract d (d + 1)] else acc) (by omega)
    show Ev (fun k => (rightO k m l (rplT a 63 (UInt8.ofNat (48 + d)))).bind fun b => lostO (rightO k m l) a q (d + 1) (if b = true then acc ++ [digS.extract d (d + 1)] else acc)) _
    rw [rpl_rep a d j hj h' (by omega), lostV]
    exact Ev.bind hr ih
end
/-- the reference's search, where nothing was found yet -/
theorem lost_find (m : Int) (l : List Int) (a : ByteArray) (g : schB m l = true) (hz : a.size = l.length + 1) (R : List ByteArray × Bool)
    (hno : (∀ j : Nat, lostJ a = (j : Int) → ¬ j < l.length) → R = ([], false))
    (hyes : ∀ j : Nat, lostJ a = (j : Int) → j < l.length → ∀ d i, i + d = l.length → Ev (fun k => spec_LostDigit.l0 k a (j : Int) (i : Int) m l) R) :
    ∀ (d i : Nat), i + d = l.length → (∀ q < i, a.data.toList[q]? ≠ some 63) → Ev (fun k => spec_LostDigit.l0 k a (-1) (i : Int) m l) R := by
  obtain ⟨m0, m1, l0, l1, hw⟩ := sch_facts g
  clear hw
  intro d
  induction d with
  | zero =>
    intro i hi hq
    have hR : R = ([], false) := hno (fun j hj hjl => by
      have := (Lib.indexByte_some (l := a.data.toList) (c := 63) hj).1
      exact hq j (by omega) this)
    subst hR
    refine Ev.step (fun k => by rw [spec_LostDigit.l0]) ?_
    refine Ev.neg (by omega) (Ev.pos (by omega) ?_)
    refine Ev.step (fun k => by rw [spec_LostDigit.j2]) ?_
    exact Ev.pos rfl (Ev.val rfl)
  | succ d ih =>
    intro i hi hq
    have hia : i < a.size := by omega
    have hb := bt_nat hia
    have hg : a.data.toList[i]? = some (a.data.toList[i]) := List.getElem?_eq_getElem (by rw [← size_data]; exact hia)
    refine Ev.step (fun k => by rw [spec_LostDigit.l0]) ?_
    rw [wrap_nat (by omega), hb]
    refine Ev.pos (by omega) (Ev.pos (by omega) (Ev.pos (by omega) (Ev.ite (fun e => ?_) (fun e => ?_))))
    · have e2 : a.data.toList[i] = 63 := UInt8.toNat_inj.mp (by show _ = 63; omega)
      have hj : lostJ a = (i : Int) := by
        by_cases h : lostJ a < 0
        · have h2 : Lib.indexByte a.data.toList 63 = -1 := by have := Lib.indexByte_ge a.data.toList 63; have h3 : lostJ a = Lib.indexByte a.data.toList 63 := rfl; omega
          exact absurd (by rw [hg, e2]) (Lib.indexByte_none h2 i)
        · obtain ⟨p, hp⟩ := Int.eq_ofNat_of_zero_le (show 0 ≤ lostJ a by omega)
          have hs := Lib.indexByte_some (l := a.data.toList) (c := 63) (o := p) hp
          rcases Nat.lt_trichotomy p i with h4 | h4 | h4
          · exact absurd hs.1 (hq p h4)
          · rw [hp, h4]
          · exact absurd (by rw [hg, e2]) (hs.2 i h4)
      exact Ev.pos (by omega) (hyes i hj (by omega) d (i + 1) (by omega))
    · have e2 : a.data.toList[i] ≠ 63 := fun h => e (by rw [h]; rfl)
      refine ih (i + 1) (by omega) (fun q hq2 => ?_)
      by_cases c : q = i
      · subst c
        rw [hg]
        exact fun h => e2 (Option.some.inj h)
      · exact hq q (by omega)
theorem lostDigit_key (m : Int) (l : List Int) (s : ByteArray) (h1 : l.length ≤ 1048576) (h2 : s.size ≤ 1048576) :
    ∃ r : List ByteArray × Bool, Ev (fun k => spec_LostDigit.f k m l s) r ∧ Ev (fun k => impl_LostDigit.f k m l s) r ∧ r.1.length ≤ 1048576 := by
  have hgood := ckGood_ev m l h1
  have hw : wrap64 ((l.length : Int) + 1) = (l.length : Int) + 1 := by rw [wrap_nat (by omega)]; omega
  -- what the program asks of a number with 0 in the lost place
  have himpl : ∀ R : List ByteArray × Bool, (∀ j : Nat, lostJ s = (j : Int) → j < l.length → lostN s = 1 → Ev (fun k => (impl_numberOk.f m l (rplT s 63 48)).bind fun g => if g = true then (lostO (rightO k m l) s 10 0 []).bind fun L => some (L, true) else some ([], false)) R) →
      ((∀ j : Nat, lostJ s = (j : Int) → j < l.length → lostN s ≠ 1) → R = ([], false)) → Ev (fun k => impl_LostDigit.f k m l s) R := by
    intro R hy hn
    unfold impl_LostDigit.f
    refine Ev.pos ⟨h2, h1⟩ (Ev.ite (fun c1 => Ev.ite (fun c2 => ?_) (fun c2 => Ev.val ?_)) (fun c1 => Ev.val ?_))
    · obtain ⟨j, hj⟩ := Int.eq_ofNat_of_zero_le c2.1
      exact hy j hj (by have := c2.2; rw [hj] at this; omega) c1
    · rw [hn (fun j hj hjl _ => c2 ⟨by omega, by rw [hj]; omega⟩)]
    · rw [hn (fun _ _ _ => c1)]
  by_cases hc : schB m l = true ∧ s.size = l.length + 1
  · obtain ⟨g, hz⟩ := hc
    obtain ⟨m0, m1, l0, l1, hwt⟩ := sch_facts g
    clear hwt
    have hlen : s.data.toList.length = l.length + 1 := hz
    rw [g] at hgood
    have hspec : ∀ R, Ev (fun k => spec_LostDigit.l0 k s (-1) ((0 : Nat) : Int) m l) R → Ev (fun k => spec_LostDigit.f k m l s) R := by
      intro R hR
      unfold spec_LostDigit.f
      refine Ev.bind hgood (Ev.pos rfl ?_)
      have e : ((s.size : Int) != wrap64 ((l.length : Int) + 1)) = false := by rw [hw, bne_eq_false_iff_eq]; omega
      rw [e]
      refine Ev.step (fun k => by rw [spec_LostDigit.j0]) ?_
      exact Ev.neg (by simp) hR
    by_cases hp : ∃ j : Nat, lostJ s = (j : Int) ∧ j < l.length
    · obtain ⟨j, hj, hjl⟩ := hp
      have hjs : j < s.data.toList.length := by omega
      have hrep0 : rplT s 63 48 = repT s j 0 := rpl_rep s 0 j hj hjs (by omega)
      have hsz : (repT s j 0).size = l.length + 1 := by rw [rep_size s j 0 (by omega) (show 0 < 11 by omega), hz]
      obtain ⟨b, hb1, hb2, hb3⟩ := number_ev m l (repT s j 0) h1 (by omega)
      have huniq : ∀ q : Nat, lostJ s = (q : Int) → q = j := fun q hq => by rw [hj] at hq; omega
      refine ⟨if b = true then (lostV m l s j 10 0 [], true) else ([], false), hspec _ ?_, himpl _ ?_ ?_, ?_⟩
      · refine lost_find m l s g hz _ (fun h => absurd hjl (h j hj)) (fun q hq hql d i hi => ?_) l.length 0 (by omega) (fun q hq => absurd hq (by omega))
        rw [huniq q hq]
        exact lost_end m l s g hz j hjl b hb1 d i hi
      · intro q hq hql hn
        rw [hrep0]
        refine Ev.vbind hb2 ?_
        cases b with
        | false => exact Ev.neg (by simp) (Ev.val rfl)
        | true => exact Ev.pos rfl (Ev.bind (lost_O m l s g hz j hj hjl 10 0 [] rfl) (Ev.val rfl))
      · intro hn
        cases b with
        | false => rfl
        | true =>
          exfalso
          have hne := hn j hj hjl
          have hnum : numB l.length (repT s j 0) = true := by
            have := number_val m l (repT s j 0) g hsz
            rw [hb2] at this
            exact (Option.some.inj this).symm
          have hno := numB_no l.length (repT s j 0) (by rw [← size_data]; exact hsz) hnum
          have hset : (repT s j 0).data.toList = s.data.toList.set j 48 := by rw [← hrep0]; exact rpl_set s 48 j hj hjs
          rw [hset] at hno
          have hat := (Lib.indexByte_some (l := s.data.toList) (c := 63) (o := j) hj).1
          rw [List.getElem?_eq_getElem hjs] at hat
          have hat := Option.some.inj hat
          have hcnt : (s.data.toList.set j 48).count 63 = 0 := List.count_eq_zero.mpr hno
          rw [List.count_set hjs, hat, if_pos (by decide), if_neg (by decide)] at hcnt
          have h1c : 1 ≤ s.data.toList.count 63 := List.count_pos_iff.mpr (by rw [← hat]; exact List.getElem_mem hjs)
          have hnn : lostN s = s.data.toList.count 63 := rfl
          omega
      · have := lostV_len m l s j 10 0 []
        simp only [List.length_nil] at this
        split
        · show (lostV m l s j 10 0 []).length ≤ _; omega
        · simp
    · refine ⟨([], false), hspec _ ?_, himpl _ ?_ (fun _ => rfl), by simp⟩
      · exact lost_find m l s g hz _ (fun _ => rfl) (fun q hq hql => absurd ⟨q, hq, hql⟩ hp) l.length 0 (by omega) (fun q hq => absurd hq (by omega))
      · intro j hj hjl
        exact absurd ⟨j, hj, hjl⟩ hp
  · refine ⟨([], false), ?_, himpl _ ?_ (fun _ => rfl), by simp⟩
    · unfold spec_LostDigit.f
      refine Ev.bind hgood ?_
      have hj0 : Ev (fun k => spec_LostDigit.j0 k s true m l) (([] : List ByteArray), false) := by
        refine Ev.step (fun k => by rw [spec_LostDigit.j0]) ?_
        exact Ev.pos rfl (Ev.val rfl)
      cases g : schB m l with
      | false => exact Ev.neg (by simp) hj0
      | true =>
        have e : ((s.size : Int) != wrap64 ((l.length : Int) + 1)) = true := by rw [hw, bne_iff_ne]; intro e; exact hc ⟨g, by omega⟩
        exact Ev.pos rfl (by rw [e]; exact hj0)
    · intro j hj hjl hn
      have hat := (Lib.indexByte_some (l := s.data.toList) (c := 63) (o := j) hj).1
      have hjs : j < s.data.toList.length := (List.getElem?_eq_some_iff.mp hat).1
      have hsz : (rplT s 63 48).size = s.size := by rw [size_data, rpl_set s 48 j hj hjs, List.length_set, ← size_data]
      obtain ⟨b, hb1, hb2, hb3⟩ := number_ev m l (rplT s 63 48) h1 (by omega)
      refine Ev.vbind hb2 ?_
      cases b with
      | false => exact Ev.neg (by simp) (Ev.val rfl)
      | true =>
        exfalso
        obtain ⟨g, hz⟩ := hb3 rfl
        exact hc ⟨g, by omega⟩
end Go.Proofs.YtepkhpnoibillaaDoor.PA

/-! The laws' marks: marking a row writes texts that the holder then finds. No condition but bounds. -/
namespace Go.Proofs.YtepkhpnoibillaaDoor.PA
open Go.RowKit Go.Proofs.YtepkhpnoibillaaDoorW.PrintWords
set_option linter.unusedVariables false

theorem num1_size (z : Int) : (strOfNums [z]).size = 1 := rfl
theorem markText_l0 : ∀ (f n : Nat) (x : ByteArray), n ≤ f → x.size + n ≤ 4611686018427387903 → ∃ t, Ev (fun k => laws_markText.l0 k (n : Int) x) t
  | f, 0, x, _, h => by
    refine ⟨(⟨#[109]⟩ : ByteArray) ++ x, ?_⟩
    refine Ev.step (fun k => by rw [laws_markText.l0]) ?_
    exact Ev.neg (by omega) (Ev.pos (by omega) (Ev.val rfl))
  | 0, n + 1, x, hf, _ => by omega
  | f + 1, n + 1, x, hf, h => by
    have hz : (strOfNums [wrap64 (48 + Int.tmod ((n + 1 : Nat) : Int) 10) % 256] ++ x).size = x.size + 1 := by rw [size_append, num1_size]; omega
    have hd : wrap64 (Int.tdiv ((n + 1 : Nat) : Int) 10) = (((n + 1) / 10 : Nat) : Int) := by
      rw [Int.tdiv_eq_ediv_of_nonneg (by omega), wrap_in (by omega) (by omega)]; omega
    obtain ⟨t, ht⟩ := markText_l0 f ((n + 1) / 10) (strOfNums [wrap64 (48 + Int.tmod ((n + 1 : Nat) : Int) 10) % 256] ++ x) (by omega) (by rw [hz]; omega)
    refine ⟨t, ?_⟩
    refine Ev.step (fun k => by rw [laws_markText.l0]) ?_
    refine Ev.pos (by omega) (Ev.vbind rfl (Ev.pos (by rw [num1_size]; omega) ?_))
    rw [hd]
    exact ht
theorem markText_ex (n : Nat) (hn : n ≤ 1099511627776) : ∃ t, Ev (fun k => laws_markText.f k (n : Int)) t := by
  unfold laws_markText.f
  by_cases h : (n : Int) ≤ 0
  · exact ⟨_, Ev.pos h (Ev.val rfl)⟩
  · obtain ⟨t, ht⟩ := markText_l0 n n ⟨#[]⟩ (Nat.le_refl _) (by show 0 + n ≤ _; omega)
    exact ⟨t, Ev.neg h ht⟩
open Classical in
noncomputable def markT (n : Nat) : ByteArray := if h : ∃ t, Ev (fun k => laws_markText.f k (n : Int)) t then h.choose else ⟨#[]⟩
theorem markT_ev (n : Nat) (hn : n ≤ 1099511627776) : Ev (fun k => laws_markText.f k (n : Int)) (markT n) := by
  have h := markText_ex n hn
  unfold markT
  rw [dif_pos h]
  exact h.choose_spec
/-- the marks of so many places -/
noncomputable def marksT (n m : Nat) : List ByteArray := (List.range m).map (fun j => markT (n + j))
theorem marksT_len (n m : Nat) : (marksT n m).length = m := by simp [marksT]
theorem mark_l0 (n m : Nat) (hn : n + m ≤ 1099511627776) : ∀ (d i : Nat) (x : List ByteArray), i + d = m → x.length = m → x.take i = (marksT n m).take i → Ev (fun k => laws_markStringS.l0 k x ((n + i : Nat) : Int) (i : Int)) (((n + m : Nat) : Int), marksT n m)
  | 0, i, x, h, hx, ht => by
    refine Ev.step (fun k => by rw [laws_markStringS.l0]) ?_
    refine Ev.neg (by omega) (Ev.val ?_)
    rw [List.take_of_length_le (by omega), List.take_of_length_le (by rw [marksT_len]; omega)] at ht
    rw [ht, show n + i = n + m by omega]
  | d + 1, i, x, h, hx, ht => by
    refine Ev.step (fun k => by rw [laws_markStringS.l0]) ?_
    refine Ev.pos (by omega) (Ev.bind (markT_ev (n + i) (by omega)) (Ev.pos (by omega) ?_))
    rw [wrap_nat (by omega), wrap_nat (by omega), Int.toNat_natCast]
    refine mark_l0 n m hn d (i + 1) _ (by omega) (by simpa using hx) ?_
    rw [take_succ_get (by simp; omega), take_succ_get (show i < (marksT n m).length by rw [marksT_len]; omega), List.take_set_of_le (Nat.le_refl _), ht]
    simp [marksT]
theorem markStringS_ev (l : List ByteArray) (n : Nat) (hn : n + l.length ≤ 1099511627776) : Ev (fun k => laws_markStringS.f k l (n : Int)) (((n + l.length : Nat) : Int), marksT n l.length) :=
  mark_l0 n l.length hn l.length 0 l (by omega) rfl (by simp)
theorem held_l0 (n m : Nat) (hn : n + m ≤ 1099511627776) : ∀ (d i : Nat), i + d = m → Ev (fun k => laws_heldStringS.l0 k (marksT n m) ((n + i : Nat) : Int) (i : Int)) ((n + m : Nat) : Int)
  | 0, i, h => by
    refine Ev.step (fun k => by rw [laws_heldStringS.l0]) ?_
    refine Ev.neg (by rw [marksT_len]; omega) (Ev.val ?_)
    rw [show n + i = n + m by omega]
  | d + 1, i, h => by
    refine Ev.step (fun k => by rw [laws_heldStringS.l0]) ?_
    refine Ev.pos (by rw [marksT_len]; omega) (Ev.pos (by omega) (Ev.bind (markT_ev (n + i) (by omega)) ?_))
    rw [rdS_nat (by rw [marksT_len]; omega), wrap_nat (by omega), wrap_nat (by omega)]
    refine Ev.pos (by simp [marksT]) ?_
    exact held_l0 n m hn d (i + 1) (by omega)
theorem heldStringS_ev (n m : Nat) (hn : n + m ≤ 1099511627776) : Ev (fun k => laws_heldStringS.f k (marksT n m) (n : Int)) ((n + m : Nat) : Int) :=
  held_l0 n m hn m 0 (by omega)
end Go.Proofs.YtepkhpnoibillaaDoor.PA

/-! The laws' marks on rows of numbers: marking a row writes numbers that the holder then finds. No condition but bounds. -/
namespace Go.Proofs.YtepkhpnoibillaaDoor.PA
open Go.RowKit Go.Proofs.YtepkhpnoibillaaDoorW.PrintWords
set_option linter.unusedVariables false

def marksI (n m : Nat) : List Int := (List.range m).map (fun j => ((n + j : Nat) : Int))
theorem marksI_len (n m : Nat) : (marksI n m).length = m := by simp [marksI]
theorem markI_l0 (n m : Nat) (hn : n + m ≤ 1099511627776) : ∀ (d i : Nat) (x : List Int), i + d = m → x.length = m → x.take i = (marksI n m).take i → Ev (fun k => laws_markIntS.l0 k x ((n + i : Nat) : Int) (i : Int)) (((n + m : Nat) : Int), marksI n m)
  | 0, i, x, h, hx, ht => by
    refine Ev.step (fun k => by rw [laws_markIntS.l0]) ?_
    refine Ev.neg (by omega) (Ev.val ?_)
    rw [List.take_of_length_le (by omega), List.take_of_length_le (by rw [marksI_len]; omega)] at ht
    rw [ht, show n + i = n + m by omega]
  | d + 1, i, x, h, hx, ht => by
    refine Ev.step (fun k => by rw [laws_markIntS.l0]) ?_
    refine Ev.pos (by omega) (Ev.pos (by omega) ?_)
    rw [wrap_nat (by omega), wrap_nat (by omega), Int.toNat_natCast]
    refine markI_l0 n m hn d (i + 1) _ (by omega) (by simpa using hx) ?_
    rw [take_succ_get (by simp; omega), take_succ_get (show i < (marksI n m).length by rw [marksI_len]; omega), List.take_set_of_le (Nat.le_refl _), ht]
    simp [marksI]
theorem markIntS_ev (l : List Int) (n : Nat) (hn : n + l.length ≤ 1099511627776) : Ev (fun k => laws_markIntS.f k l (n : Int)) (((n + l.length : Nat) : Int), marksI n l.length) :=
  markI_l0 n l.length hn l.length 0 l (by omega) rfl (by simp)
end Go.Proofs.YtepkhpnoibillaaDoor.PA

/-! The laws' equality over lists of texts is equality. No condition but bounds. -/
namespace Go.Proofs.YtepkhpnoibillaaDoor.PA
open Go.RowKit Go.Proofs.YtepkhpnoibillaaDoorW.PrintWords
set_option linter.unusedVariables false

theorem eqStringS_l0 (a b : List ByteArray) (hab : a.length = b.length) (hl : a.length ≤ 4611686018427387903) : ∀ (d i : Nat), i + d = a.length → a.take i = b.take i → Ev (fun k => laws_eqStringS.l0 k a b (i : Int)) (decide (a = b))
  | 0, i, h, ht => by
    refine Ev.step (fun k => rfl) ?_
    refine Ev.neg (by omega) (Ev.val ?_)
    rw [List.take_of_length_le (by omega), List.take_of_length_le (by omega)] at ht
    simp [ht]
  | d + 1, i, h, ht => by
    refine Ev.step (fun k => rfl) ?_
    refine Ev.pos (by omega) (Ev.pos (by omega) (Ev.pos (by omega) ?_))
    rw [rdS_nat (show i < a.length by omega), rdS_nat (show i < b.length by omega), wrap_nat (by omega)]
    refine Ev.ite (fun e => ?_) (fun e => Ev.val ?_)
    · refine eqStringS_l0 a b hab hl d (i + 1) (by omega) ?_
      rw [take_succ_get (by omega), take_succ_get (by omega), ht, toList_inj.mp e]
    · have : ¬ a = b := fun e2 => e (by subst e2; rfl)
      simp [this]
theorem eqStringS_ev {a b : List ByteArray} (hl : a.length ≤ 4611686018427387903) : Ev (fun k => laws_eqStringS.f k a b) (decide (a = b)) := by
  unfold laws_eqStringS.f
  refine Ev.ite (fun e => ?_) (fun e => Ev.val ?_)
  · exact eqStringS_l0 a b (by omega) hl a.length 0 (by omega) (by simp)
  · have : ¬ a = b := fun e2 => e (by rw [e2])
    simp [this]

end Go.Proofs.YtepkhpnoibillaaDoor.PA
