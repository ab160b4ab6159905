/- The plain facts that the law FnExactNextRight's proof leans on, in one text: each part has its own sentence. No condition but bounds. -/
import Derived.Test.YtepkhpnoibillaaDoorPAx0
import Derived.Test.YtepkhpnoibillaaDoorPAx1
import Derived.Test.YtepkhpnoibillaaDoorPAx2
import Derived.Test.YtepkhpnoibillaaDoorPAx3
import Derived.Lib.Strings
import Derived.Test.YtepkhpnoibillaaDoorWWords
import Derived.Test.YtepkhpnoibillaaDoorWMore
import Derived.Test.YtepkhpnoibillaaDoorXX
import Derived.Lib.Bytealg
import Derived.Test.YtepkhpnoibillaaDoorXI
/-! Plain facts that the laws' pure proofs share: answers from some number of rounds on, numbers without wrap, strings as lists of bytes. No condition. -/
namespace Go.Proofs.YtepkhpnoibillaaDoor.PA
open Go.RowKit Go.Proofs.YtepkhpnoibillaaDoorW.PrintWords
set_option linter.unusedVariables false

theorem Ev.pos {α : Type} {c : Prop} [Decidable c] {a b : Nat → Option α} {r : α} (hc : c) (h : Ev a r) : Ev (fun k => if c then a k else b k) r := Ev.congr (fun k => if_pos hc) h
theorem Ev.neg {α : Type} {c : Prop} [Decidable c] {a b : Nat → Option α} {r : α} (hc : ¬ c) (h : Ev b r) : Ev (fun k => if c then a k else b k) r := Ev.congr (fun k => if_neg hc) h
theorem Ev.ite {α : Type} {c : Prop} [Decidable c] {a b : Nat → Option α} {r : α} (h1 : c → Ev a r) (h2 : ¬ c → Ev b r) : Ev (fun k => if c then a k else b k) r := by
  by_cases hc : c
  · exact Ev.pos hc (h1 hc)
  · exact Ev.neg hc (h2 hc)
theorem Ev.val {α : Type} {o : Option α} {r : α} (h : o = some r) : Ev (fun _ => o) r := ⟨0, fun _ _ => h⟩
theorem Ev.vbind {α β : Type} {o : Option α} {f : Nat → α → Option β} {a : α} {r : β} (h : o = some a) (k : Ev (fun n => f n a) r) : Ev (fun n => o.bind (f n)) r := Ev.bind (g := fun _ => o) (Ev.val h) k
theorem Ev.eq {α : Type} {g : Nat → Option α} {a b : α} (h : Ev g a) (e : a = b) : Ev g b := e ▸ h

theorem wrap_nat {i : Nat} (h : i < 4611686018427387904) : wrap64 ((i : Int) + 1) = ((i + 1 : Nat) : Int) := by unfold wrap64; omega
theorem wrap_in {n : Int} (h : -9223372036854775808 ≤ n) (h2 : n ≤ 9223372036854775807) : wrap64 n = n := by unfold wrap64; omega
theorem rd_nat {l : List Int} {i : Nat} (h : i < l.length) : rd l (i : Int) = l[i] := by simp [rd, h]
theorem bt_nat {s : ByteArray} {i : Nat} (h : i < s.size) : bt s (i : Int) = ((s.data.toList[i]'(by simpa using h)).toNat : Int) := by
  unfold bt
  rw [dif_pos (by simpa using h)]
  rfl
theorem toList_data (s : ByteArray) : s.toList = s.data.toList := Go.Lib.toList_data s
theorem size_data (s : ByteArray) : s.size = s.data.toList.length := rfl
theorem ba_ext {a b : ByteArray} (h : a.data.toList = b.data.toList) : a = b := by
  cases a with
  | mk a => cases b with
    | mk b => exact congrArg ByteArray.mk (Array.toList_inj.mp h)
theorem toList_inj {a b : ByteArray} : a.toList = b.toList ↔ a = b := ⟨fun h => ba_ext (by rw [← toList_data, ← toList_data, h]), fun h => by rw [h]⟩
theorem data_extract (s : ByteArray) (a b : Nat) : (s.extract a b).data.toList = (s.data.toList.take b).drop a := by
  rw [ByteArray.data_extract, Array.toList_extract, List.extract_eq_take_drop, List.drop_take]
theorem data_append (a b : ByteArray) : (a ++ b).data.toList = a.data.toList ++ b.data.toList := by
  rw [ByteArray.data_append, Array.toList_append]
theorem take_succ_get {α : Type} {l : List α} {i : Nat} (h : i < l.length) : l.take (i + 1) = l.take i ++ [l[i]] := by
  rw [List.take_add_one, List.getElem?_eq_getElem h]; rfl

/-- digits alone -/
def digB (c : UInt8) : Bool := decide (48 ≤ c.toNat) && decide (c.toNat ≤ 57)
theorem contains_dig (c : UInt8) : ([48, 49, 50, 51, 52, 53, 54, 55, 56, 57] : List UInt8).contains c = digB c := by
  have h : ∀ n : Fin 256, ([48, 49, 50, 51, 52, 53, 54, 55, 56, 57] : List UInt8).contains (UInt8.ofNat n.val) = digB (UInt8.ofNat n.val) := by decide +kernel
  have := h ⟨c.toNat, c.toNat_lt⟩
  simpa using this
end Go.Proofs.YtepkhpnoibillaaDoor.PA

/-! Is a number within bounds: the reference's and the program's own. No condition. -/
namespace Go.Proofs.YtepkhpnoibillaaDoor.PA
open Go.RowKit Go.Proofs.YtepkhpnoibillaaDoorW.PrintWords
set_option linter.unusedVariables false

theorem l1In_f (a b c : Int) : spec_l1In.f a b c = some (decide (b ≤ a) && decide (a ≤ c)) := by
  unfold spec_l1In.f
  by_cases h : a ≥ b
  · rw [if_pos h]; simp [show b ≤ a from h]
  · rw [if_neg h]; simp [show ¬ b ≤ a from h]
theorem in_f (a b c : Int) : impl_in.f a b c = some (decide (b ≤ a) && decide (a ≤ c)) := by
  unfold impl_in.f
  by_cases h : a ≥ b
  · rw [if_pos h]; simp [show b ≤ a from h]
  · rw [if_neg h]; simp [show ¬ b ≤ a from h]
end Go.Proofs.YtepkhpnoibillaaDoor.PA

/-! The laws' equality over lists of whole numbers is equality. No condition but bounds. -/
namespace Go.Proofs.YtepkhpnoibillaaDoor.PA
open Go.RowKit Go.Proofs.YtepkhpnoibillaaDoorW.PrintWords
set_option linter.unusedVariables false

theorem eqIntS_l0 (a b : List Int) (hab : a.length = b.length) (hl : a.length ≤ 4611686018427387903) : ∀ (d i : Nat), i + d = a.length → a.take i = b.take i → Ev (fun k => laws_eqIntS.l0 k a b (i : Int)) (decide (a = b))
  | 0, i, h, ht => by
    refine Ev.step (fun k => by rw [laws_eqIntS.l0]) ?_
    refine Ev.neg (by omega) (Ev.val ?_)
    rw [List.take_of_length_le (by omega), List.take_of_length_le (by omega)] at ht
    simp [ht]
  | d + 1, i, h, ht => by
    refine Ev.step (fun k => by rw [laws_eqIntS.l0]) ?_
    refine Ev.pos (by omega) (Ev.pos (by omega) (Ev.pos (by omega) ?_))
    rw [rd_nat (show i < a.length by omega), rd_nat (show i < b.length by omega), wrap_nat (by omega)]
    refine Ev.ite (fun e => ?_) (fun e => Ev.val ?_)
    · refine eqIntS_l0 a b hab hl d (i + 1) (by omega) ?_
      rw [take_succ_get (by omega), take_succ_get (by omega), ht, e]
    · have : ¬ a = b := fun e2 => e (by subst e2; rfl)
      simp [this]
theorem eqIntS_ev {a b : List Int} (hl : a.length ≤ 4611686018427387903) : Ev (fun k => laws_eqIntS.f k a b) (decide (a = b)) := by
  unfold laws_eqIntS.f
  refine Ev.ite (fun e => ?_) (fun e => Ev.val ?_)
  · exact eqIntS_l0 a b (by omega) hl a.length 0 (by omega) (by simp)
  · have : ¬ a = b := fun e2 => e (by rw [e2])
    simp [this]
end Go.Proofs.YtepkhpnoibillaaDoor.PA

/-! The laws' own helpers over lists of whole numbers: copying keeps them. No condition but bounds. -/
namespace Go.Proofs.YtepkhpnoibillaaDoor.PA
open Go.RowKit Go.Proofs.YtepkhpnoibillaaDoorW.PrintWords
set_option linter.unusedVariables false

theorem toIntS_l0 (l : List Int) (hl : l.length ≤ 4611686018427387903) : ∀ (d i : Nat) (x : List Int), i + d = l.length → x.length = l.length → x.take i = l.take i → Ev (fun k => laws_toIntS.l0 k l x (i : Int)) l
  | 0, i, x, h, hx, ht => by
    refine Ev.step (fun k => by rw [laws_toIntS.l0]) ?_
    refine Ev.neg (by omega) (Ev.val ?_)
    rw [List.take_of_length_le (by omega), List.take_of_length_le (by omega)] at ht
    rw [ht]
  | d + 1, i, x, h, hx, ht => by
    refine Ev.step (fun k => by rw [laws_toIntS.l0]) ?_
    refine Ev.pos (by omega) (Ev.pos (by omega) (Ev.pos (by omega) ?_))
    rw [rd_nat (show i < l.length by omega), wrap_nat (by omega), Int.toNat_natCast]
    refine toIntS_l0 l hl d (i + 1) _ (by omega) (by simpa using hx) ?_
    rw [take_succ_get (by simp; omega), take_succ_get (show i < l.length by omega), List.take_set_of_le (Nat.le_refl _), ht]
    simp
theorem toIntS_ev {l : List Int} (hl : l.length ≤ 17592186044416) : Ev (fun k => laws_toIntS.f k l) l := by
  unfold laws_toIntS.f
  refine Ev.pos (by omega) (Ev.pos (by omega) ?_)
  exact toIntS_l0 l (by omega) l.length 0 _ (by omega) (by simp) (by simp)
end Go.Proofs.YtepkhpnoibillaaDoor.PA

/-! Schemes, sums and checks: the reference's and the program's are one. No condition but bounds. -/
namespace Go.Proofs.YtepkhpnoibillaaDoor.PA
open Go.RowKit Go.Proofs.YtepkhpnoibillaaDoorW.PrintWords
set_option linter.unusedVariables false

def wB (m w : Int) : Bool := decide (0 ≤ w) && decide (w ≤ wrap64 (m - 1))
def schB (m : Int) (l : List Int) : Bool := decide (2 ≤ m) && decide (m ≤ 13) && (decide (1 ≤ (l.length : Int)) && decide ((l.length : Int) ≤ 12)) && l.all (wB m)
theorem sch_l0 (m : Int) (l : List Int) (hl : l.length ≤ 1048576) : ∀ (d i : Nat), i + d = l.length → Ev (fun k => spec_l1All.l0 k 0 (wrap64 (m - 1)) l (l.length : Int) (i : Int)) ((l.drop i).all (wB m))
  | 0, i, h => by
    refine Ev.step (fun k => by rw [spec_l1All.l0]) ?_
    refine Ev.neg (by omega) (Ev.val ?_)
    rw [List.drop_of_length_le (by omega)]; rfl
  | d + 1, i, h => by
    have hi : i < l.length := by omega
    refine Ev.step (fun k => by rw [spec_l1All.l0]) ?_
    refine Ev.pos (by omega) (Ev.pos (by omega) (Ev.pos (by omega) ?_))
    rw [rd_nat hi, wrap_nat (by omega), List.drop_eq_getElem_cons hi, List.all_cons]
    refine Ev.vbind (l1In_f _ _ _) ?_
    have ih := sch_l0 m l hl d (i + 1) (by omega)
    show Ev (fun k => if wB m l[i] = true then _ else _) _
    cases wB m l[i] with
    | true => exact Ev.pos rfl (by rw [Bool.true_and]; exact ih)
    | false => exact Ev.neg (by simp) (Ev.val rfl)
theorem ckGood_ev (m : Int) (l : List Int) (hl : l.length ≤ 1048576) : Ev (fun k => spec_ckGood.f k m l) (schB m l) := by
  unfold spec_ckGood.f schB
  refine Ev.vbind (l1In_f _ _ _) ?_
  cases decide (2 ≤ m) && decide (m ≤ 13) with
  | false => exact Ev.neg (by simp) (Ev.val rfl)
  | true =>
    refine Ev.pos rfl (Ev.vbind (l1In_f _ _ _) ?_)
    cases decide (1 ≤ (l.length : Int)) && decide ((l.length : Int) ≤ 12) with
    | false => exact Ev.neg (by simp) (Ev.val rfl)
    | true =>
      have h := sch_l0 m l hl l.length 0 (by omega)
      rw [List.drop_zero] at h
      exact Ev.pos rfl (Ev.bind (g := fun k => spec_l1All.f k l 0 (wrap64 (m - 1))) h (Ev.val rfl))
theorem isScheme_f (m : Int) (l : List Int) (hl : l.length ≤ 1048576) : impl_IsScheme.f m l = some (schB m l) := by
  unfold impl_IsScheme.f schB
  have hany : anyO (fun x => (impl_in.f x 0 (wrap64 (m - 1))).map (!·)) l = some (l.any (fun x => !wB m x)) := by
    refine anyO_pure _ _ l (fun x _ => ?_)
    rw [in_f]; rfl
  rw [hany, Option.bind_some, if_pos (by omega)]
  have e : l.any (fun x => !wB m x) = !l.all (wB m) := by
    clear hany hl
    induction l with
    | nil => rfl
    | cons a l ih => rw [List.any_cons, List.all_cons, ih, Bool.not_and]
  rw [e, Bool.not_not]
theorem sch_facts {m : Int} {l : List Int} (h : schB m l = true) : 2 ≤ m ∧ m ≤ 13 ∧ 1 ≤ l.length ∧ l.length ≤ 12 ∧ ∀ w ∈ l, 0 ≤ w ∧ w ≤ 12 := by
  unfold schB at h
  simp only [Bool.and_eq_true, List.all_eq_true, decide_eq_true_eq] at h
  have hw : wrap64 (m - 1) = m - 1 := wrap_in (by omega) (by omega)
  refine ⟨by omega, by omega, by omega, by omega, fun w hw2 => ?_⟩
  have := h.2 w hw2
  unfold wB at this
  simp only [Bool.and_eq_true, decide_eq_true_eq, hw] at this
  omega
/-- the laws' own helpers -/
theorem szScheme_f {m : Int} {l : List Int} (hl : l.length ≤ maxLen) : ∃ v, laws_szScheme.f m l 1048576 = some v ∧ (v < 0 ∨ l.length ≤ 1048576) := by
  unfold maxLen at hl
  unfold laws_szScheme.f laws_szIntS.f
  have hw : wrap64 (1048576 - (l.length : Int)) = 1048576 - (l.length : Int) := wrap_in (by omega) (by omega)
  rw [hw]
  by_cases e : 1048576 - (l.length : Int) < 0
  · rw [if_pos e, Option.bind_some, if_pos (by omega)]; exact ⟨-1, rfl, .inl (by omega)⟩
  · rw [if_neg e, Option.bind_some, if_neg e]; exact ⟨_, rfl, .inr (by omega)⟩
theorem toScheme_ev {m : Int} {l : List Int} (hl : l.length ≤ 1048576) : Ev (fun k => laws_toScheme.f k m l) (m, l) := by
  unfold laws_toScheme.f
  exact Ev.bind (toIntS_ev (by omega)) (Ev.val rfl)
theorem eqScheme_ev {m : Int} {l : List Int} (hl : l.length ≤ 1048576) : Ev (fun k => laws_eqScheme.f k m l m l) true := by
  unfold laws_eqScheme.f
  exact Ev.pos rfl (Ev.bind (eqIntS_ev (by omega)) (Ev.pos (by simp) (Ev.val rfl)))
end Go.Proofs.YtepkhpnoibillaaDoor.PA

/-! Digits, as the reference's checks ask for them. No condition but bounds of size. -/
namespace Go.Proofs.YtepkhpnoibillaaDoor.PA
open Go.RowKit Go.Proofs.YtepkhpnoibillaaDoorW.PrintWords
set_option linter.unusedVariables false

theorem ckDigits_l0 (s : ByteArray) (hs : s.size ≤ 4611686018427387903) : ∀ (d i : Nat), i + d = s.size → Ev (fun k => spec_ckDigits.l0 k s (i : Int)) ((s.data.toList.drop i).all digB)
  | 0, i, h => by
    refine Ev.step (fun k => by rw [spec_ckDigits.l0]) (Ev.neg (by omega) (Ev.val ?_))
    rw [List.drop_of_length_le (by rw [← size_data]; omega)]; rfl
  | d + 1, i, h => by
    have hi : i < s.data.toList.length := by rw [← size_data]; omega
    refine Ev.step (fun k => by rw [spec_ckDigits.l0]) (Ev.pos (by omega) (Ev.pos (by omega) ?_))
    rw [bt_nat (by omega), List.drop_eq_getElem_cons hi, List.all_cons, wrap_nat (by omega)]
    unfold digB
    refine Ev.ite (fun e => Ev.val ?_) (fun e => Ev.ite (fun e2 => Ev.val ?_) (fun e2 => ?_))
    · simp only [show ¬ 48 ≤ (s.data.toList[i]).toNat by omega, decide_false, Bool.false_and]
    · simp only [show ¬ (s.data.toList[i]).toNat ≤ 57 by omega, decide_false, Bool.and_false, Bool.false_and]
    · simp only [show 48 ≤ (s.data.toList[i]).toNat by omega, show (s.data.toList[i]).toNat ≤ 57 by omega, decide_true, Bool.true_and]
      exact ckDigits_l0 s hs d (i + 1) (by omega)
end Go.Proofs.YtepkhpnoibillaaDoor.PA

/-! Digits alone, as the program asks for them. No condition but bounds of size. -/
namespace Go.Proofs.YtepkhpnoibillaaDoor.PA
open Go.RowKit Go.Proofs.YtepkhpnoibillaaDoorW.PrintWords
set_option linter.unusedVariables false

theorem over_digits (s : ByteArray) (hs : s.size ≤ 140737488355328) : impl_over.f s (⟨#[48, 49, 50, 51, 52, 53, 54, 55, 56, 57]⟩ : ByteArray) = some (s.data.toList.all digB) := by
  unfold impl_over.f
  rw [if_pos ⟨hs, by decide, by decide⟩]
  congr 1
  exact congrArg (fun f => s.data.toList.all f) (funext contains_dig)
end Go.Proofs.YtepkhpnoibillaaDoor.PA

/-! Sums of numbers with their checks: the reference's and the program's are one. No condition but bounds. -/
namespace Go.Proofs.YtepkhpnoibillaaDoor.PA
open Go.RowKit Go.Proofs.YtepkhpnoibillaaDoorW.PrintWords
set_option linter.unusedVariables false

def signs : ByteArray := ⟨#[48, 49, 50, 51, 52, 53, 54, 55, 56, 57, 88]⟩
/-- the place of a check's sign, or -1 -/
def chk (b : UInt8) : Int := Lib.indexByte signs.data.toList b
theorem chk_all : ∀ b : Fin 256, spec_ckCheck.l0 12 (b.val : Int) 0 = some (chk (UInt8.ofNat b.val)) := by decide +kernel
theorem ckCheck_ev (b : UInt8) : Ev (fun k => spec_ckCheck.f k (b.toNat : Int)) (chk b) := by
  refine ⟨12, fun k hk => ?_⟩
  have h := chk_all ⟨b.toNat, b.toNat_lt⟩
  simp only [UInt8.ofNat_toNat] at h
  have := leO_add (fun k => spec_ckCheck.mono (b.toNat : Int) k) (k := 12) h (k - 12)
  rwa [show 12 + (k - 12) = k by omega] at this
theorem indexByte_f (b : UInt8) : strings_IndexByte.f signs (b.toNat : Int) = some (chk b) := by
  unfold strings_IndexByte.f chk
  rw [Int.toNat_natCast]
  simp
theorem bt_of {s : ByteArray} {i : Nat} (h : i < s.size) : ∃ b : UInt8, bt s (i : Int) = (b.toNat : Int) := ⟨_, bt_nat h⟩
section
variable (l : List Int) (hl : l.length ≤ 12) (hw : ∀ w ∈ l, 0 ≤ w ∧ w ≤ 12) (s t : ByteArray) (ht : t.size = l.length) (hs : l.length ≤ s.size) (hb : ∀ i, i < l.length → bt t ((i : Nat) : Int) = bt s ((i : Nat) : Int))
include hl hw ht hs hb
end
theorem number_ev (m : Int) (l : List Int) (s : ByteArray) (hl : l.length ≤ 1048576) (hs : s.size ≤ 1048576) :
    ∃ b, Ev (fun k => spec_ckNumber.f k m l s) b ∧ impl_numberOk.f m l s = some b ∧ (b = true → schB m l = true ∧ s.size = l.length + 1) := by
  have hg := ckGood_ev m l hl
  have hi := isScheme_f m l hl
  unfold spec_ckNumber.f impl_numberOk.f
  cases g : schB m l with
  | false =>
    rw [g] at hg hi
    exact ⟨false, Ev.bind hg (Ev.neg (by simp) (Ev.val rfl)), by rw [hi]; rfl, by simp⟩
  | true =>
    rw [g] at hg hi
    rw [wrap_nat (by omega), hi, Option.bind_some, if_pos rfl]
    by_cases hz : s.size = l.length + 1
    · have hz' : (s.size : Int) = ((l.length + 1 : Nat) : Int) := by omega
      have hcut : (s.extract 0 l.length).size = l.length := by rw [ByteArray.size_extract]; omega
      obtain ⟨b, hb⟩ := bt_of (s := s) (i := l.length) (by omega)
      have hd := ckDigits_l0 (s.extract 0 l.length) (by omega) (s.extract 0 l.length).size 0 (by omega)
      rw [List.drop_zero] at hd
      have ho := over_digits (s.extract 0 l.length) (by omega)
      rw [if_pos hz', if_pos (by omega), if_pos (by omega), Int.toNat_natCast, ho, Option.bind_some]
      cases hall : (s.extract 0 l.length).data.toList.all digB with
      | false =>
        rw [hall] at hd
        refine ⟨false, Ev.bind hg (Ev.pos rfl (Ev.pos hz' (Ev.pos (by omega) (Ev.pos (by omega) (Ev.bind (g := fun k => spec_ckDigits.f k (s.extract 0 l.length)) hd (Ev.neg (by simp) (Ev.val rfl))))))), rfl, by simp⟩
      | true =>
        rw [hall] at hd
        rw [if_pos rfl, if_pos (by omega), hb]
        have hx : strings_IndexByte.f (⟨#[48, 49, 50, 51, 52, 53, 54, 55, 56, 57, 88]⟩ : ByteArray) (b.toNat : Int) = some (chk b) := indexByte_f b
        rw [hx]
        refine ⟨decide (chk b ≥ 0), Ev.bind hg (Ev.pos rfl (Ev.pos hz' (Ev.pos (by omega) (Ev.pos (by omega) (Ev.bind (g := fun k => spec_ckDigits.f k (s.extract 0 l.length)) hd (Ev.pos rfl (Ev.pos (by omega) (Ev.bind (ckCheck_ev b) (Ev.val rfl))))))))), rfl, fun _ => ⟨rfl, hz⟩⟩
    · have hz' : ¬ (s.size : Int) = ((l.length + 1 : Nat) : Int) := by omega
      rw [if_neg hz']
      exact ⟨false, Ev.bind hg (Ev.pos rfl (Ev.neg hz' (Ev.val rfl))), rfl, by simp⟩
end Go.Proofs.YtepkhpnoibillaaDoor.PA

/-! The least right number above another one, told by lists of digits: plain numbers, no program in sight. No condition. -/
namespace Go.Proofs.YtepkhpnoibillaaDoor.PA
set_option linter.unusedVariables false

def q10 : Nat → Nat
  | 0 => 1
  | n + 1 => 10 * q10 n
theorem q10_add : ∀ a b, q10 (a + b) = q10 a * q10 b
  | 0, b => by rw [Nat.zero_add]; show _ = 1 * _; omega
  | a + 1, b => by
    rw [show a + 1 + b = (a + b) + 1 by omega]
    show 10 * q10 (a + b) = 10 * q10 a * q10 b
    rw [q10_add a b, Nat.mul_assoc]
/-- a list of digits as a number -/
def nv : List Nat → Nat
  | [] => 0
  | d :: l => d * q10 l.length + nv l
def Digs (l : List Nat) : Prop := ∀ d ∈ l, d < 10
theorem Digs.tail {d : Nat} {l : List Nat} (h : Digs (d :: l)) : Digs l := fun x hx => h x (List.mem_cons_of_mem _ hx)
theorem Digs.head {d : Nat} {l : List Nat} (h : Digs (d :: l)) : d < 10 := h d (List.mem_cons_self ..)
theorem Digs.app {a b : List Nat} (ha : Digs a) (hb : Digs b) : Digs (a ++ b) := fun x hx => by
  rcases List.mem_append.mp hx with h | h
  · exact ha x h
  · exact hb x h
theorem nv_lt : ∀ l : List Nat, Digs l → nv l < q10 l.length
  | [], _ => by show 0 < 1; decide
  | d :: l, h => by
    have h1 := nv_lt l h.tail
    have h2 := h.head
    show d * q10 l.length + nv l < 10 * q10 l.length
    have : d * q10 l.length ≤ 9 * q10 l.length := Nat.mul_le_mul_right _ (by omega)
    omega
theorem nv_app : ∀ a b : List Nat, nv (a ++ b) = nv a * q10 b.length + nv b
  | [], b => by show nv b = 0 * _ + nv b; omega
  | d :: a, b => by
    show d * q10 (a ++ b).length + nv (a ++ b) = (d * q10 a.length + nv a) * q10 b.length + nv b
    rw [nv_app a b, List.length_append, q10_add, Nat.add_mul, Nat.mul_assoc]
    omega
theorem nv_inj : ∀ a b : List Nat, a.length = b.length → Digs a → Digs b → nv a = nv b → a = b
  | [], [], _, _, _, _ => rfl
  | [], _ :: _, h, _, _, _ => by simp at h
  | _ :: _, [], h, _, _, _ => by simp at h
  | x :: a, y :: b, h, ha, hb, hv => by
    have hl : a.length = b.length := by simpa using h
    have h1 := nv_lt a ha.tail
    have h2 := nv_lt b hb.tail
    rw [hl] at h1
    have hv' : x * q10 b.length + nv a = y * q10 b.length + nv b := by
      have : x * q10 a.length + nv a = y * q10 b.length + nv b := hv
      rwa [hl] at this
    have hxy : x = y := by
      rcases Nat.lt_trichotomy x y with hlt | heq | hgt
      · have : (x + 1) * q10 b.length ≤ y * q10 b.length := Nat.mul_le_mul_right _ hlt
        rw [Nat.add_mul, Nat.one_mul] at this
        omega
      · exact heq
      · have : (y + 1) * q10 b.length ≤ x * q10 b.length := Nat.mul_le_mul_right _ hgt
        rw [Nat.add_mul, Nat.one_mul] at this
        omega
    subst hxy
    rw [nv_inj a b hl ha.tail hb.tail (by omega)]
/-- behind one and the same head, or behind a greater one -/
theorem nv_lt_of {p a : List Nat} {x y : Nat} {b : List Nat} (hl : a.length = b.length) (ha : Digs a) (hxy : x < y) : nv (p ++ x :: a) < nv (p ++ y :: b) := by
  rw [nv_app, nv_app]
  show nv p * q10 (a.length + 1) + (x * q10 a.length + nv a) < nv p * q10 (b.length + 1) + (y * q10 b.length + nv b)
  rw [hl]
  have h1 := nv_lt a ha
  rw [hl] at h1
  have : (x + 1) * q10 b.length ≤ y * q10 b.length := Nat.mul_le_mul_right _ hxy
  rw [Nat.add_mul, Nat.one_mul] at this
  omega
theorem nv_head {p q a b : List Nat} (hpq : p.length = q.length) (hl : a.length = b.length) (ha : Digs a) (hp : Digs p) (hq : Digs q) (hne : p ≠ q) (h : nv (p ++ a) ≤ nv (q ++ b)) (hb : Digs b) : nv p < nv q := by
  rw [nv_app, nv_app, hl] at h
  have h2 := nv_lt b hb
  rcases Nat.lt_trichotomy (nv p) (nv q) with hlt | heq | hgt
  · exact hlt
  · exact absurd (nv_inj p q hpq hp hq heq) hne
  · have : (nv q + 1) * q10 b.length ≤ nv p * q10 b.length := Nat.mul_le_mul_right _ hgt
    rw [Nat.add_mul, Nat.one_mul] at this
    omega
theorem nv_lt_head {p q a b : List Nat} (hl : a.length = b.length) (ha : Digs a) (h : nv p < nv q) : nv (p ++ a) < nv (q ++ b) := by
  rw [nv_app, nv_app, hl]
  have h2 := nv_lt a ha
  rw [hl] at h2
  have : (nv p + 1) * q10 b.length ≤ nv q * q10 b.length := Nat.mul_le_mul_right _ h
  rw [Nat.add_mul, Nat.one_mul] at this
  omega

/-- a weighted sum of digits -/
def wsum : List Int → List Nat → Int
  | w :: ws, d :: l => d * w + wsum ws l
  | _, _ => 0
def IsR (m : Int) (ws : List Int) (e : List Nat) (c : Nat) : Prop := e.length = ws.length ∧ Digs e ∧ c ≤ 10 ∧ (wsum ws e + c) % m = 0
def rk (e : List Nat) (c : Nat) : Nat := 11 * nv e + c
theorem wsum_app : ∀ (ws : List Int) (vs : List Int) (a b : List Nat), a.length = ws.length → wsum (ws ++ vs) (a ++ b) = wsum ws a + wsum vs b
  | [], vs, [], b, _ => by show wsum vs b = 0 + _; omega
  | [], _, _ :: _, _, h => by simp at h
  | _ :: _, _, [], _, h => by simp at h
  | w :: ws, vs, d :: a, b, h => by
    have := wsum_app ws vs a b (by simpa using h)
    show (d : Int) * w + wsum (ws ++ vs) (a ++ b) = (d : Int) * w + wsum ws a + wsum vs b
    omega
/-- can a right number follow, these weights being left, behind a rest -/
def canN (m : Int) : List Int → Int → Bool
  | [], r => decide ((m - r % m) % m ≤ 10)
  | w :: ws, r => (List.range 10).any fun d => canN m ws ((r + d * w) % m)
theorem can_iff {m : Int} (hm : 0 < m) : ∀ (ws : List Int) (r : Int), canN m ws r = true ↔ ∃ e c, e.length = ws.length ∧ Digs e ∧ c ≤ 10 ∧ (r + wsum ws e + ((c : Nat) : Int)) % m = 0
  | [], r => by
    unfold canN
    rw [decide_eq_true_iff]
    constructor
    · intro h
      have h0 : 0 ≤ (m - r % m) % m := Int.emod_nonneg _ (by omega)
      refine ⟨[], ((m - r % m) % m).toNat, rfl, (fun d hd => absurd hd (by simp)), by omega, ?_⟩
      rw [Int.toNat_of_nonneg h0]
      show (r + 0 + (m - r % m) % m) % m = 0
      rw [Int.add_zero, Int.add_emod, Int.emod_emod, ← Int.add_emod]
      rw [show r + (m - r % m) = (r - r % m) + m by omega, Int.add_emod_right]
      exact Int.emod_eq_zero_of_dvd (Int.dvd_self_sub_emod)
    · rintro ⟨e, c, he, _, hc, h⟩
      have : e = [] := List.length_eq_zero_iff.mp he
      subst this
      have h1 : (r + (c : Int)) % m = 0 := by
        have : (r + 0 + (c : Int)) % m = 0 := h
        rwa [Int.add_zero] at this
      have h2 : (m - r % m) % m = (c : Int) % m := by
        apply Int.emod_eq_emod_iff_emod_sub_eq_zero.mpr
        rw [show m - r % m - (c : Int) = -(r % m + c) + m by omega, Int.add_emod_right]
        apply Int.emod_eq_zero_of_dvd
        apply Int.dvd_neg.mpr
        apply Int.dvd_of_emod_eq_zero
        rw [Int.emod_add_emod]
        exact h1
      rw [h2]
      have h3 : (c : Int) % m ≤ c := by
        have := Int.emod_add_mul_ediv (c : Int) m
        have h4 : 0 ≤ m * ((c : Int) / m) := Int.mul_nonneg (by omega) (Int.ediv_nonneg (by omega) (by omega))
        omega
      omega
  | w :: ws, r => by
    unfold canN
    rw [List.any_eq_true]
    constructor
    · rintro ⟨d, hd, h⟩
      obtain ⟨e, c, he, hD, hc, h⟩ := (can_iff hm ws _).mp h
      refine ⟨d :: e, c, by simp [he], ?_, hc, ?_⟩
      · intro x hx
        rcases List.mem_cons.mp hx with rfl | hx
        · exact List.mem_range.mp hd
        · exact hD x hx
      · show (r + ((d : Int) * w + wsum ws e) + (c : Int)) % m = 0
        rw [Int.add_assoc, Int.emod_add_emod] at h
        rw [← h]
        congr 1
        omega
    · rintro ⟨e, c, he, hD, hc, h⟩
      cases e with
      | nil => simp at he
      | cons d e =>
        refine ⟨d, List.mem_range.mpr hD.head, (can_iff hm ws _).mpr ⟨e, c, by simpa using he, hD.tail, hc, ?_⟩⟩
        rw [Int.add_assoc, Int.emod_add_emod]
        rw [← h]
        congr 1
        show _ = r + ((d : Int) * w + wsum ws e) + (c : Int)
        omega
/-- the first digit of which something is so -/
def firstD (g : Nat → Bool) : Nat := ((List.range 10).find? g).getD 10
theorem firstD_any {g : Nat → Bool} (h : (List.range 10).any g = true) : firstD g < 10 ∧ g (firstD g) = true ∧ ∀ j, j < firstD g → g j = false := by
  rw [List.any_eq_true] at h
  obtain ⟨d, hd, hg⟩ := h
  cases hf : (List.range 10).find? g with
  | none => exact absurd hg (by simpa using List.find?_eq_none.mp hf d hd)
  | some x =>
    have hx : firstD g = x := by unfold firstD; rw [hf]; rfl
    rw [List.find?_range_eq_some] at hf
    obtain ⟨h1, h2, h3⟩ := hf
    rw [hx]
    exact ⟨by simpa using h2, h1, fun j hj => by simpa using h3 j hj⟩
/-- the least digits behind a rest, and the rest behind these -/
def leastN (m : Int) : List Int → Int → List Nat × Int
  | [], r => ([], r)
  | w :: ws, r =>
    let d := firstD (fun d => canN m ws ((r + d * w) % m))
    let q := leastN m ws ((r + d * w) % m)
    (d :: q.1, q.2)
theorem least_ok {m : Int} (hm : 0 < m) : ∀ (ws : List Int) (r : Int), canN m ws r = true →
    (leastN m ws r).1.length = ws.length ∧ Digs (leastN m ws r).1 ∧ canN m [] (leastN m ws r).2 = true ∧ (leastN m ws r).2 % m = (r + wsum ws (leastN m ws r).1) % m ∧
    ∀ e c, e.length = ws.length → Digs e → c ≤ 10 → (r + wsum ws e + ((c : Nat) : Int)) % m = 0 → nv (leastN m ws r).1 ≤ nv e
  | [], r, h => ⟨rfl, (fun d hd => absurd hd (by simp [leastN])), h, by show r % m = (r + 0) % m; rw [Int.add_zero], fun e c _ _ _ _ => Nat.zero_le _⟩
  | w :: ws, r, h => by
    have h' : (List.range 10).any (fun d => canN m ws ((r + d * w) % m)) = true := h
    obtain ⟨h1, h2, h3⟩ := firstD_any h'
    obtain ⟨d, hd⟩ : ∃ d, d = firstD (fun d => canN m ws ((r + d * w) % m)) := ⟨_, rfl⟩
    rw [← hd] at h1 h2 h3
    obtain ⟨i1, i2, i3, i4, i5⟩ := least_ok hm ws ((r + d * w) % m) h2
    have e1 : leastN m (w :: ws) r = (d :: (leastN m ws ((r + d * w) % m)).1, (leastN m ws ((r + d * w) % m)).2) := by
      show ((firstD fun d => canN m ws ((r + d * w) % m)) :: _, _) = _
      rw [← hd]
    rw [e1]
    refine ⟨by simp [i1], ?_, i3, ?_, ?_⟩
    · intro x hx
      rcases List.mem_cons.mp hx with rfl | hx
      · exact h1
      · exact i2 x hx
    · show (leastN m ws ((r + d * w) % m)).2 % m = (r + ((d : Int) * w + wsum ws _)) % m
      rw [i4, Int.emod_add_emod, Int.add_assoc]
    · intro e c he hD hc hs
      cases e with
      | nil => simp at he
      | cons x e =>
        have hel : e.length = ws.length := by simpa using he
        have hs' : ((r + x * w) % m + wsum ws e + (c : Int)) % m = 0 := by
          rw [Int.add_assoc, Int.emod_add_emod, ← hs]
          congr 1
          show _ = r + ((x : Int) * w + wsum ws e) + (c : Int)
          omega
        have hcan : canN m ws ((r + x * w) % m) = true := (can_iff hm ws _).mpr ⟨e, c, hel, hD.tail, hc, hs'⟩
        rcases Nat.lt_trichotomy x d with hlt | heq | hgt
        · have := h3 x hlt
          rw [hcan] at this
          cases this
        · subst heq
          have := i5 e c hel hD.tail hc hs'
          show x * q10 _ + nv _ ≤ x * q10 _ + nv _
          rw [i1, hel]
          omega
        · exact Nat.le_of_lt (nv_lt_of (p := []) (by rw [i1, hel]) i2 hgt)
/-- the greater numbers that share so many digits -/
def NoneFrom (m : Int) (ws : List Int) (o : List Nat) (i : Nat) : Prop := ∀ e c, IsR m ws e c → nv o < nv e → e.take i = o.take i → False
theorem none_top {m : Int} {ws : List Int} {o : List Nat} (ho : o.length = ws.length) : NoneFrom m ws o ws.length := fun e c he h ht => by
  rw [List.take_of_length_le (by rw [he.1]; omega), List.take_of_length_le (by omega)] at ht
  rw [ht] at h
  omega
/-- no right number has this head -/
def NoHead (m : Int) (ws : List Int) (p : List Nat) : Prop := ∀ e c, IsR m ws e c → e.take p.length = p → False
theorem noHead_iff {m : Int} (hm : 0 < m) {ws : List Int} {p : List Nat} (hp : p.length ≤ ws.length) (hD : Digs p) : canN m (ws.drop p.length) (wsum (ws.take p.length) p % m) = false ↔ NoHead m ws p := by
  constructor
  · intro h e c he ht
    have hc : canN m (ws.drop p.length) (wsum (ws.take p.length) p % m) = true := by
      refine (can_iff hm _ _).mpr ⟨e.drop p.length, c, by rw [List.length_drop, List.length_drop, he.1], fun d hd => he.2.1 d (List.mem_of_mem_drop hd), he.2.2.1, ?_⟩
      rw [Int.add_assoc, Int.emod_add_emod, ← he.2.2.2]
      have : wsum ws e = wsum (ws.take p.length) p + wsum (ws.drop p.length) (e.drop p.length) := by
        have h2 := wsum_app (ws.take p.length) (ws.drop p.length) p (e.drop p.length) (by rw [List.length_take]; omega)
        rw [List.take_append_drop] at h2
        rw [← h2]
        congr 1
        conv => rhs; rw [← ht, List.length_take]
        rw [show min p.length e.length = p.length by rw [he.1]; omega, List.take_append_drop]
      rw [this]
      congr 1
      omega
    rw [h] at hc
    cases hc
  · intro h
    cases hc : canN m (ws.drop p.length) (wsum (ws.take p.length) p % m) with
    | false => rfl
    | true =>
      obtain ⟨e, c, he, hE, hcc, hs⟩ := (can_iff hm _ _).mp hc
      refine absurd (h (p ++ e) c ⟨?_, hD.app hE, hcc, ?_⟩ (by simp)) id
      · rw [List.length_append, he, List.length_drop]; omega
      · have h2 := wsum_app (ws.take p.length) (ws.drop p.length) p e (by rw [List.length_take]; omega)
        rw [List.take_append_drop] at h2
        rw [h2, ← hs, Int.add_assoc, Int.add_assoc, Int.emod_add_emod]
theorem split_at {e : List Nat} {i : Nat} (h : i < e.length) : e = e.take i ++ e[i] :: e.drop (i + 1) := by
  rw [← List.drop_eq_getElem_cons h, List.take_append_drop]
theorem Digs.take {e : List Nat} (h : Digs e) (i : Nat) : Digs (e.take i) := fun d hd => h d (List.mem_of_mem_take hd)
theorem Digs.drop {e : List Nat} (h : Digs e) (i : Nat) : Digs (e.drop i) := fun d hd => h d (List.mem_of_mem_drop hd)
/-- one place more: no greater digit has a right number behind it -/
theorem none_step {m : Int} {ws : List Int} {o : List Nat} (ho : o.length = ws.length) (hD : Digs o) {i : Nat} (hi : i < o.length) (h : NoneFrom m ws o (i + 1)) (hd : ∀ d, o[i] < d → d < 10 → NoHead m ws (o.take i ++ [d])) : NoneFrom m ws o i := by
  intro e c he hv ht
  have hie : i < e.length := by rw [he.1]; omega
  have hse := split_at hie
  have hso := split_at hi
  have hlen : (e.drop (i + 1)).length = (o.drop (i + 1)).length := by rw [List.length_drop, List.length_drop, he.1]; omega
  rcases Nat.lt_trichotomy e[i] o[i] with hlt | heq | hgt
  · have := nv_lt_of (p := o.take i) hlen (he.2.1.drop _) hlt
    rw [← ht, ← hse, ht, ← hso] at this
    omega
  · refine h e c he hv ?_
    rw [List.take_add_one, List.take_add_one, ht, List.getElem?_eq_getElem hie, List.getElem?_eq_getElem hi, heq]
  · refine hd e[i] hgt (he.2.1 _ (List.getElem_mem hie)) e c he ?_
    rw [List.length_append, List.length_take, List.length_singleton, Nat.min_eq_left (by omega), List.take_add_one, ht, List.getElem?_eq_getElem hie]
    rfl
/-- the first head that can be: its least number is the least of all that are greater -/
theorem least_above {m : Int} {ws : List Int} {o : List Nat} (ho : o.length = ws.length) (hD : Digs o) {i d : Nat} (hi : i < o.length) (h : NoneFrom m ws o (i + 1)) (hod : o[i] < d) (hd10 : d < 10)
    (hd : ∀ j, o[i] < j → j < d → NoHead m ws (o.take i ++ [j])) {t : List Nat} (htl : t.length + (i + 1) = o.length) (hT : Digs t)
    (hmin : ∀ e c, e.length = t.length → Digs e → IsR m ws (o.take i ++ d :: e) c → nv t ≤ nv e) :
    ∀ e c, IsR m ws e c → nv o < nv e → nv (o.take i ++ d :: t) ≤ nv e := by
  intro e c he hv
  have hie : i < e.length := by rw [he.1]; omega
  have hse := split_at hie
  have hso := split_at hi
  have hlen : (e.drop (i + 1)).length = (o.drop (i + 1)).length := by rw [List.length_drop, List.length_drop, he.1]; omega
  have hlt2 : t.length = (e.drop (i + 1)).length := by rw [List.length_drop, he.1]; omega
  by_cases ht : e.take i = o.take i
  · rcases Nat.lt_trichotomy e[i] o[i] with hlt | heq | hgt
    · have := nv_lt_of (p := o.take i) hlen (he.2.1.drop _) hlt
      rw [← ht, ← hse, ht, ← hso] at this
      omega
    · refine (h e c he hv ?_).elim
      rw [List.take_add_one, List.take_add_one, ht, List.getElem?_eq_getElem hie, List.getElem?_eq_getElem hi, heq]
    · rcases Nat.lt_trichotomy e[i] d with hlt | heq | hgt2
      · refine (hd e[i] hgt hlt e c he ?_).elim
        rw [List.length_append, List.length_take, List.length_singleton, Nat.min_eq_left (by omega), List.take_add_one, ht, List.getElem?_eq_getElem hie]
        rfl
      · have h2 := hmin (e.drop (i + 1)) c hlt2.symm (he.2.1.drop _) (by rw [← heq, ← ht, ← hse]; exact he)
        rw [hse, ht, heq, nv_app, nv_app]
        show _ * q10 (t.length + 1) + (d * q10 t.length + nv t) ≤ _ * q10 ((e.drop (i + 1)).length + 1) + (d * q10 (e.drop (i + 1)).length + nv (e.drop (i + 1)))
        rw [← hlt2]
        omega
      · have := nv_lt_of (p := o.take i) hlt2 hT hgt2
        rw [← ht, ← hse, ht] at this
        omega
  · have h1 := nv_head (p := o.take i) (q := e.take i) (a := o.drop i) (b := e.drop i) (by rw [List.length_take, List.length_take, he.1]; omega) (by rw [List.length_drop, List.length_drop, he.1]; omega) (hD.drop _) (hD.take _) (he.2.1.take _) (fun hh => ht hh.symm) (by rw [List.take_append_drop, List.take_append_drop]; omega) (he.2.1.drop _)
    have h10 : Digs (d :: t) := fun x hx => by
      rcases List.mem_cons.mp hx with rfl | hx
      · exact hd10
      · exact hT x hx
    have := nv_lt_head (a := d :: t) (b := e.drop i) (by rw [List.length_drop, he.1]; simp; omega) h10 h1
    rw [List.take_append_drop] at this
    omega
end Go.Proofs.YtepkhpnoibillaaDoor.PA

/-! The next right number: texts of digits with a check's sign, sums, the table of open places, the least number above; the reference goes from text to text, the program jumps. No condition but bounds. -/
namespace Go.Proofs.YtepkhpnoibillaaDoor.PA
open Go.RowKit Go.Proofs.YtepkhpnoibillaaDoorW.PrintWords
set_option linter.unusedVariables false

def dgB (d : Nat) : UInt8 := UInt8.ofNat (48 + d)
def sgB (c : Nat) : UInt8 := if c = 10 then 88 else UInt8.ofNat (48 + c)
def dtx (e : List Nat) : ByteArray := ⟨(e.map dgB).toArray⟩
def txt (e : List Nat) (c : Nat) : ByteArray := ⟨(e.map dgB ++ [sgB c]).toArray⟩
theorem dtx_data (e : List Nat) : (dtx e).data.toList = e.map dgB := rfl
theorem txt_data (e : List Nat) (c : Nat) : (txt e c).data.toList = e.map dgB ++ [sgB c] := rfl
theorem dtx_size (e : List Nat) : (dtx e).size = e.length := by rw [size_data, dtx_data, List.length_map]
theorem txt_size (e : List Nat) (c : Nat) : (txt e c).size = e.length + 1 := by rw [size_data, txt_data, List.length_append, List.length_map]; rfl
theorem dgB_nat : ∀ d : Fin 10, (dgB d.val).toNat = 48 + d.val := by decide +kernel
theorem dgB_of : ∀ b : Fin 256, digB (UInt8.ofNat b.val) = true → b.val - 48 < 10 ∧ dgB (b.val - 48) = UInt8.ofNat b.val := by decide +kernel
theorem sgB_chk : ∀ c : Fin 11, chk (sgB c.val) = (c.val : Int) := by decide +kernel
theorem sgB_of : ∀ b : Fin 256, 0 ≤ chk (UInt8.ofNat b.val) → (chk (UInt8.ofNat b.val)).toNat ≤ 10 ∧ sgB (chk (UInt8.ofNat b.val)).toNat = UInt8.ofNat b.val := by decide +kernel
theorem digS_data : ∀ d : Fin 10, (digS.extract d.val (d.val + 1)).data.toList = [dgB d.val] := by decide +kernel
theorem sgN_data : ∀ c : Fin 11, (sgN.extract c.val (c.val + 1)).data.toList = [sgB c.val] := by decide +kernel
theorem bt_dtx {e : List Nat} (hD : Digs e) {i : Nat} (h : i < e.length) : bt (dtx e) (i : Int) = ((48 + e[i] : Nat) : Int) := by
  rw [bt_nat (by rw [dtx_size]; exact h)]
  simp only [dtx_data, List.getElem_map]
  rw [dgB_nat ⟨e[i], hD _ (List.getElem_mem h)⟩]
theorem bt_txt {e : List Nat} {c : Nat} (hD : Digs e) {i : Nat} (h : i < e.length) : bt (txt e c) (i : Int) = ((48 + e[i] : Nat) : Int) := by
  rw [bt_nat (by rw [txt_size]; omega)]
  simp only [txt_data]
  rw [List.getElem_append_left (by simpa using h), List.getElem_map, dgB_nat ⟨e[i], hD _ (List.getElem_mem h)⟩]
theorem bt_txt_last (e : List Nat) (c : Nat) : bt (txt e c) (e.length : Int) = ((sgB c).toNat : Int) := by
  rw [bt_nat (by rw [txt_size]; omega)]
  simp only [txt_data]
  rw [List.getElem_append_right (by simp)]
  simp
theorem txt_cut (e : List Nat) (c i : Nat) (h : i ≤ e.length) : (txt e c).extract 0 i = dtx (e.take i) := by
  apply ba_ext
  rw [data_extract, txt_data, dtx_data, List.drop_zero, List.take_append_of_le_length (by simpa using h), List.map_take]
theorem dtx_sign {e : List Nat} {c : Nat} (hc : c ≤ 10) : dtx e ++ sgN.extract c (c + 1) = txt e c := by
  apply ba_ext
  rw [data_append, sgN_data ⟨c, by omega⟩]
  rfl
theorem dtx_dig {e : List Nat} {d : Nat} (hd : d < 10) : dtx e ++ digS.extract d (d + 1) = dtx (e ++ [d]) := by
  apply ba_ext
  rw [data_append, digS_data ⟨d, hd⟩, dtx_data, dtx_data, List.map_append]
  rfl
theorem txt_of {s : ByteArray} {n : Nat} (hz : s.size = n + 1) (hd : (s.data.toList.take n).all digB = true) {b : UInt8} (hb : s.data.toList[n]? = some b) (hc : 0 ≤ chk b) : ∃ e c, s = txt e c ∧ e.length = n ∧ Digs e ∧ c ≤ 10 := by
  refine ⟨(s.data.toList.take n).map fun b => b.toNat - 48, (chk b).toNat, ?_, ?_, ?_, ?_⟩
  · apply ba_ext
    rw [txt_data, List.map_map]
    have h1 : ((s.data.toList.take n).map (dgB ∘ fun b => b.toNat - 48)) = s.data.toList.take n := by
      conv => rhs; rw [← List.map_id (s.data.toList.take n)]
      apply List.map_congr_left
      intro x hx
      have := (dgB_of ⟨x.toNat, x.toNat_lt⟩ (by simpa using List.all_eq_true.mp hd x hx)).2
      simpa using this
    have h2 : sgB (chk b).toNat = b := by
      have := (sgB_of ⟨b.toNat, b.toNat_lt⟩ (by simpa using hc)).2
      simpa using this
    have hl : s.data.toList.length = n + 1 := hz
    rw [h1, h2]
    conv => lhs; rw [← List.take_append_drop n s.data.toList]
    congr 1
    rw [List.drop_eq_getElem_cons (by omega)]
    rw [List.getElem?_eq_getElem (by omega)] at hb
    rw [Option.some.inj hb, List.drop_of_length_le (by omega)]
  · rw [List.length_map, List.length_take]
    have hl : s.data.toList.length = n + 1 := hz
    omega
  · intro d hd2
    obtain ⟨x, hx, rfl⟩ := List.mem_map.mp hd2
    exact (dgB_of ⟨x.toNat, x.toNat_lt⟩ (by simpa using List.all_eq_true.mp hd x hx)).1
  · have := (sgB_of ⟨b.toNat, b.toNat_lt⟩ (by simpa using hc)).1
    simpa using this
theorem number_txt {m : Int} {l : List Int} {s : ByteArray} (hl : l.length ≤ 1048576) (hs : s.size ≤ 1048576) (h : impl_numberOk.f m l s = some true) : ∃ e c, s = txt e c ∧ e.length = l.length ∧ Digs e ∧ c ≤ 10 := by
  unfold impl_numberOk.f at h
  rw [isScheme_f m l hl, Option.bind_some] at h
  split at h
  · rw [wrap_nat (by omega)] at h
    split at h
    · rename_i hz
      have hz' : s.size = l.length + 1 := by omega
      have ho := over_digits (s.extract 0 l.length) (by rw [ByteArray.size_extract]; omega)
      rw [if_pos (by omega), if_pos (by omega), Int.toNat_natCast, ho, Option.bind_some] at h
      split at h
      · rename_i ha
        rw [if_pos (by omega)] at h
        obtain ⟨b, hb⟩ := bt_of (s := s) (i := l.length) (by omega)
        rw [hb] at h
        have hx : strings_IndexByte.f (⟨#[48, 49, 50, 51, 52, 53, 54, 55, 56, 57, 88]⟩ : ByteArray) (b.toNat : Int) = some (chk b) := indexByte_f b
        rw [hx, Option.bind_some, Option.some.injEq, decide_eq_true_iff] at h
        refine txt_of hz' ?_ (b := b) ?_ h
        · rw [data_extract, List.drop_zero] at ha
          exact ha
        · rw [bt_nat (show l.length < s.size by omega)] at hb
          rw [List.getElem?_eq_getElem (show l.length < s.data.toList.length from by rw [← size_data]; omega)]
          congr 1
          exact UInt8.toNat_inj.mp (by omega)
      · simp at h
    · simp at h
  · simp at h

section
variable {m : Int} {ws : List Int} (hm0 : 2 ≤ m) (hm1 : m ≤ 13) (hn : ws.length ≤ 12) (hw : ∀ w ∈ ws, 0 ≤ w ∧ w < m)
theorem wsum_nn : ∀ (ws : List Int) (e : List Nat), (∀ w ∈ ws, 0 ≤ w ∧ w ≤ 12) → Digs e → 0 ≤ wsum ws e ∧ wsum ws e ≤ 108 * (ws.length : Int)
  | [], e, _, _ => by
    show 0 ≤ (0 : Int) ∧ (0 : Int) ≤ 108 * ((0 : Nat) : Int)
    omega
  | w :: ws, [], _, _ => by
    show 0 ≤ (0 : Int) ∧ (0 : Int) ≤ 108 * (((w :: ws).length : Nat) : Int)
    omega
  | w :: ws, d :: e, hw, hD => by
    have ih := wsum_nn ws e (fun x hx => hw x (List.mem_cons_of_mem _ hx)) hD.tail
    have h1 := hw w (List.mem_cons_self ..)
    have h2 := hD.head
    have h3 : 0 ≤ (d : Int) * w := Int.mul_nonneg (by omega) h1.1
    have h4 : (d : Int) * w ≤ 9 * 12 := Int.mul_le_mul (by omega) h1.2 h1.1 (by decide)
    show 0 ≤ (d : Int) * w + wsum ws e ∧ (d : Int) * w + wsum ws e ≤ 108 * (((w :: ws).length : Nat) : Int)
    rw [List.length_cons]
    omega
include hn hw hm0 hm1
theorem sumP_l0 (e : List Nat) (hD : Digs e) (he : e.length ≤ ws.length) : ∀ (d i : Nat), i + d = e.length →
    Ev (fun k => impl_Scheme_sum.l0 k (dtx e) (wsum ws (e.take i)) ((dtx e).size : Int) (i : Int) m ws) (wsum ws e, m)
  | 0, i, h => by
    refine Ev.step (fun k => by rw [impl_Scheme_sum.l0]) ?_
    refine Ev.neg (by rw [dtx_size]; omega) (Ev.val ?_)
    rw [List.take_of_length_le (by omega)]
  | d + 1, i, h => by
    have hi : i < e.length := by omega
    have hiw : i < ws.length := by omega
    have hy := hw _ (List.getElem_mem hiw)
    have hd := hD _ (List.getElem_mem hi)
    have hs := wsum_nn ws (e.take i) (fun w hx => by have := hw w hx; omega) (hD.take i)
    have hs2 : wsum ws (e.take (i + 1)) = wsum ws (e.take i) + (e[i] : Int) * ws[i] := by
      have e1 : wsum ws (e.take i) = wsum (ws.take i) (e.take i) + wsum (ws.drop i) [] := by
        have := wsum_app (ws.take i) (ws.drop i) (e.take i) [] (by rw [List.length_take, List.length_take]; omega)
        rwa [List.take_append_drop, List.append_nil] at this
      have e2 : wsum ws (e.take i ++ [e[i]]) = wsum (ws.take i) (e.take i) + wsum (ws.drop i) [e[i]] := by
        have := wsum_app (ws.take i) (ws.drop i) (e.take i) [e[i]] (by rw [List.length_take, List.length_take]; omega)
        rwa [List.take_append_drop] at this
      have e3 : wsum (ws.drop i) [e[i]] = (e[i] : Int) * ws[i] := by
        rw [List.drop_eq_getElem_cons hiw]
        show (e[i] : Int) * ws[i] + wsum (ws.drop (i + 1)) [] = _
        have : ∀ l : List Int, wsum l [] = 0 := fun l => by cases l <;> rfl
        rw [this, Int.add_zero]
      have e4 : ∀ l : List Int, wsum l [] = 0 := fun l => by cases l <;> rfl
      rw [take_succ_get hi, e2, e1, e3, e4, Int.add_zero]
    have hp0 : 0 ≤ (e[i] : Int) * ws[i] := Int.mul_nonneg (by omega) hy.1
    have hp1 : (e[i] : Int) * ws[i] ≤ 9 * 12 := Int.mul_le_mul (by omega) (by omega) hy.1 (by decide)
    have ih := sumP_l0 e hD he d (i + 1) (by omega)
    refine Ev.step (fun k => by rw [impl_Scheme_sum.l0]) ?_
    refine Ev.pos (by rw [dtx_size]; omega) (Ev.pos (by omega) (Ev.pos (by rw [dtx_size]; omega) (Ev.vbind (a := (e[i] : Int)) ?_ (Ev.pos (by omega) ?_))))
    · rw [bt_dtx hD hi]
      unfold impl_digit.f
      congr 1
      omega
    · rw [rd_nat hiw, wrap_nat (by omega), wrap_in (n := (e[i] : Int) * ws[i]) (by omega) (by omega), wrap_in (by omega) (by omega), ← hs2]
      exact ih
theorem sumP_ev (e : List Nat) (hD : Digs e) (he : e.length ≤ ws.length) : Ev (fun k => impl_Scheme_sum.f k m ws (dtx e)) (wsum ws e, m) := by
  have h := sumP_l0 hm0 hm1 hn hw e hD he e.length 0 (by omega)
  have e4 : wsum ws ([] : List Nat) = 0 := by cases ws <;> rfl
  rw [List.take_zero, e4] at h
  exact h
theorem ckSum_l0 (e : List Nat) (c : Nat) (hD : Digs e) (he : e.length = ws.length) : ∀ (d i : Nat), i + d = e.length →
    Ev (fun k => spec_ckSum.l0 k (txt e c) (wsum ws (e.take i)) ws (ws.length : Int) (i : Int)) (wsum ws e)
  | 0, i, h => by
    refine Ev.step (fun k => by rw [spec_ckSum.l0]) ?_
    refine Ev.neg (by omega) (Ev.val ?_)
    rw [List.take_of_length_le (by omega)]
  | d + 1, i, h => by
    have hi : i < e.length := by omega
    have hiw : i < ws.length := by omega
    have hy := hw _ (List.getElem_mem hiw)
    have hd := hD _ (List.getElem_mem hi)
    have hs := wsum_nn ws (e.take i) (fun w hx => by have := hw w hx; omega) (hD.take i)
    have hs2 : wsum ws (e.take (i + 1)) = wsum ws (e.take i) + (e[i] : Int) * ws[i] := by
      have e4 : ∀ l : List Int, wsum l [] = 0 := fun l => by cases l <;> rfl
      have e1 : wsum ws (e.take i) = wsum (ws.take i) (e.take i) + wsum (ws.drop i) [] := by
        have := wsum_app (ws.take i) (ws.drop i) (e.take i) [] (by rw [List.length_take, List.length_take]; omega)
        rwa [List.take_append_drop, List.append_nil] at this
      have e2 : wsum ws (e.take i ++ [e[i]]) = wsum (ws.take i) (e.take i) + wsum (ws.drop i) [e[i]] := by
        have := wsum_app (ws.take i) (ws.drop i) (e.take i) [e[i]] (by rw [List.length_take, List.length_take]; omega)
        rwa [List.take_append_drop] at this
      have e3 : wsum (ws.drop i) [e[i]] = (e[i] : Int) * ws[i] := by
        rw [List.drop_eq_getElem_cons hiw]
        show (e[i] : Int) * ws[i] + wsum (ws.drop (i + 1)) [] = _
        rw [e4, Int.add_zero]
      rw [take_succ_get hi, e2, e1, e3, e4, Int.add_zero]
    have hp0 : 0 ≤ (e[i] : Int) * ws[i] := Int.mul_nonneg (by omega) hy.1
    have hp1 : (e[i] : Int) * ws[i] ≤ 9 * 12 := Int.mul_le_mul (by omega) (by omega) hy.1 (by decide)
    have hcm : ws[i] * (e[i] : Int) = (e[i] : Int) * ws[i] := Int.mul_comm _ _
    have ih := ckSum_l0 e c hD he d (i + 1) (by omega)
    have hb := bt_txt (c := c) hD hi
    refine Ev.step (fun k => by rw [spec_ckSum.l0]) ?_
    refine Ev.pos (by omega) (Ev.pos (by omega) (Ev.pos (by omega) (Ev.pos (by rw [txt_size]; omega) ?_)))
    rw [rd_nat hiw, hb, show (((48 + e[i] : Nat) : Int) - 48) % 256 = (e[i] : Int) by omega, wrap_nat (by omega), hcm, wrap_in (n := (e[i] : Int) * ws[i]) (by omega) (by omega), wrap_in (by omega) (by omega), ← hs2]
    exact ih
theorem ckSum_ev (e : List Nat) (c : Nat) (hD : Digs e) (he : e.length = ws.length) : Ev (fun k => spec_ckSum.f k m ws (txt e c)) (wsum ws e) := by
  have h := ckSum_l0 hm0 hm1 hn hw e c hD he e.length 0 (by omega)
  have e4 : wsum ws ([] : List Nat) = 0 := by cases ws <;> rfl
  rw [List.take_zero, e4] at h
  exact h
theorem ckRight_ev (e : List Nat) (c : Nat) (hD : Digs e) (he : e.length = ws.length) (hc : c ≤ 10) : Ev (fun k => spec_ckRight.f k m ws (txt e c)) (decide ((wsum ws e + c) % m = 0)) := by
  have hs := wsum_nn ws e (fun w hx => by have := hw w hx; omega) hD
  have hj : wrap64 (((txt e c).size : Int) - 1) = (e.length : Int) := by rw [txt_size, wrap_in (by omega) (by omega)]; omega
  unfold spec_ckRight.f
  refine Ev.bind (ckSum_ev hm0 hm1 hn hw e c hD he) ?_
  rw [hj, bt_txt_last]
  refine Ev.pos (by omega) (Ev.pos (by rw [txt_size]; omega) (Ev.bind (ckCheck_ev (sgB c)) (Ev.neg (by omega) (Ev.val ?_))))
  rw [sgB_chk ⟨c, by omega⟩]
  show some (Int.tmod (wrap64 (wsum ws e + (c : Int))) m == 0) = _
  rw [wrap_in (by omega) (by omega), Int.tmod_eq_emod_of_nonneg (by omega)]
  congr 1
end
end Go.Proofs.YtepkhpnoibillaaDoor.PA

/-! The next right number, going on: the reference goes from text to text, each the next in order. No condition but bounds. -/
namespace Go.Proofs.YtepkhpnoibillaaDoor.PA
open Go.RowKit Go.Proofs.YtepkhpnoibillaaDoorW.PrintWords
set_option linter.unusedVariables false

theorem nines : ∀ k, nv (List.replicate k 9) + 1 = q10 k
  | 0 => rfl
  | k + 1 => by
    rw [List.replicate_succ]
    show 9 * q10 (List.replicate k 9).length + nv (List.replicate k 9) + 1 = 10 * q10 k
    rw [List.length_replicate]
    have := nines k
    omega
theorem zeros : ∀ k, nv (List.replicate k 0) = 0
  | 0 => rfl
  | k + 1 => by
    rw [List.replicate_succ]
    show 0 * q10 (List.replicate k 0).length + nv (List.replicate k 0) = 0
    rw [zeros k]
    omega
theorem nv_carry (p : List Nat) (d k : Nat) : nv (p ++ (d + 1) :: List.replicate k 0) = nv (p ++ d :: List.replicate k 9) + 1 := by
  rw [nv_app, nv_app]
  show _ * q10 ((List.replicate k 0).length + 1) + ((d + 1) * q10 (List.replicate k 0).length + nv (List.replicate k 0)) = _ * q10 ((List.replicate k 9).length + 1) + (d * q10 (List.replicate k 9).length + nv (List.replicate k 9)) + 1
  rw [List.length_replicate, List.length_replicate, zeros]
  have := nines k
  rw [Nat.add_mul]
  omega
theorem encode_dig : ∀ d : Fin 9, Utf8.encode ((((48 + d.val : Nat) : Int) + 1) % 256) = ⟨#[dgB (d.val + 1)]⟩ := by decide +kernel
theorem digs_repl {k d : Nat} (h : d < 10) : Digs (List.replicate k d) := fun x hx => by rw [(List.mem_replicate.mp hx).2]; exact h
/-- zeros are put behind till the text is long enough -/
theorem ckNext_l1 (t : ByteArray) (n : Nat) (hn : n ≤ 12) (hz : t.size = n + 1) : ∀ (d : Nat) (p : List Nat), p.length + d = n →
    Ev (fun k => spec_ckNext.l1 k t (dtx p)) (txt (p ++ List.replicate d 0) 0)
  | 0, p, h => by
    have e48 : (dtx p ++ (⟨#[48]⟩ : ByteArray)) = txt p 0 := by
      apply ba_ext
      rw [data_append]
      rfl
    refine Ev.step (fun k => by rw [spec_ckNext.l1]) ?_
    refine Ev.pos (by rw [dtx_size]; omega) (Ev.pos (by rw [dtx_size]; omega) ?_)
    rw [e48]
    refine Ev.step (fun k => by rw [spec_ckNext.l1]) ?_
    refine Ev.neg (by rw [txt_size]; omega) (Ev.val ?_)
    rw [List.replicate_zero, List.append_nil]
  | d + 1, p, h => by
    have e48 : (dtx p ++ (⟨#[48]⟩ : ByteArray)) = dtx (p ++ [0]) := by
      apply ba_ext
      rw [data_append, dtx_data, dtx_data, List.map_append]
      rfl
    refine Ev.step (fun k => by rw [spec_ckNext.l1]) ?_
    refine Ev.pos (by rw [dtx_size]; omega) (Ev.pos (by rw [dtx_size]; omega) ?_)
    rw [e48]
    have ih := ckNext_l1 t n hn hz d (p ++ [0]) (by rw [List.length_append, List.length_singleton]; omega)
    refine Ev.eq ih ?_
    rw [List.append_assoc]
    rfl
theorem ckNext_l0 (e : List Nat) (c : Nat) (hD : Digs e) (hn : e.length ≤ 12) : ∀ i : Nat, i ≤ e.length → e.drop i = List.replicate (e.length - i) 9 →
    (∃ e', Ev (fun k => spec_ckNext.l0 k (txt e c) ((i : Int) - 1)) (txt e' 0) ∧ e'.length = e.length ∧ Digs e' ∧ nv e' = nv e + 1) ∨ (Ev (fun k => spec_ckNext.l0 k (txt e c) ((i : Int) - 1)) ⟨#[]⟩ ∧ nv e + 1 = q10 e.length)
  | 0, _, h => by
    refine .inr ⟨?_, ?_⟩
    · refine Ev.step (fun k => by rw [spec_ckNext.l0]) ?_
      exact Ev.neg (by omega) (Ev.val rfl)
    · rw [List.drop_zero, Nat.sub_zero] at h
      rw [h, nines, List.length_replicate]
  | i + 1, hi, h => by
    have hie : i < e.length := by omega
    have hb := bt_txt (c := c) hD hie
    have hd := hD _ (List.getElem_mem hie)
    have hcast : (((i + 1 : Nat) : Int) - 1) = (i : Int) := by omega
    rw [hcast]
    by_cases h9 : e[i] = 9
    · have hdr : e.drop i = List.replicate (e.length - i) 9 := by
        rw [List.drop_eq_getElem_cons hie, h, h9, show e.length - i = (e.length - (i + 1)) + 1 by omega, List.replicate_succ]
      have hw : wrap64 ((i : Int) - 1) = (i : Int) - 1 := wrap_in (by omega) (by omega)
      rcases ckNext_l0 e c hD hn i (by omega) hdr with ⟨e', h1, h2⟩ | ⟨h1, h2⟩
      · refine .inl ⟨e', ?_, h2⟩
        refine Ev.step (fun k => by rw [spec_ckNext.l0]) ?_
        refine Ev.pos (by omega) (Ev.pos (by omega) (Ev.pos (by rw [txt_size]; omega) (Ev.pos (by rw [hb, h9]; rfl) ?_)))
        rw [hw]
        exact h1
      · refine .inr ⟨?_, h2⟩
        refine Ev.step (fun k => by rw [spec_ckNext.l0]) ?_
        refine Ev.pos (by omega) (Ev.pos (by omega) (Ev.pos (by rw [txt_size]; omega) (Ev.pos (by rw [hb, h9]; rfl) ?_)))
        rw [hw]
        exact h1
    · have henc : Utf8.encode (((bt (txt e c) (i : Int)) + 1) % 256) = ⟨#[dgB (e[i] + 1)]⟩ := by rw [hb]; exact encode_dig ⟨e[i], by omega⟩
      have hcut : (txt e c).extract 0 i ++ (⟨#[dgB (e[i] + 1)]⟩ : ByteArray) = dtx (e.take i ++ [e[i] + 1]) := by
        apply ba_ext
        rw [txt_cut e c i (by omega), data_append, dtx_data, dtx_data, List.map_append]
        rfl
      have hl := ckNext_l1 (txt e c) e.length hn (txt_size e c) (e.length - (i + 1)) (e.take i ++ [e[i] + 1]) (by rw [List.length_append, List.length_take, List.length_singleton]; omega)
      have he2 : e = e.take i ++ e[i] :: List.replicate (e.length - (i + 1)) 9 := by
        conv => lhs; rw [split_at hie]
        rw [h]
      refine .inl ⟨e.take i ++ [e[i] + 1] ++ List.replicate (e.length - (i + 1)) 0, ?_, ?_, ?_, ?_⟩
      · refine Ev.step (fun k => by rw [spec_ckNext.l0]) ?_
        refine Ev.pos (by omega) (Ev.pos (by omega) (Ev.pos (by rw [txt_size]; omega) (Ev.neg (by rw [hb]; omega) (Ev.pos (by rw [txt_size]; omega) ?_))))
        rw [Int.toNat_natCast, henc, hcut]
        refine Ev.pos ?_ hl
        rw [ByteArray.size_extract]
        show _ + 1 ≤ _
        rw [txt_size]
        omega
      · rw [List.length_append, List.length_append, List.length_take, List.length_singleton, List.length_replicate]
        omega
      · refine Digs.app (Digs.app (hD.take i) (fun x hx => ?_)) (digs_repl (by decide))
        rw [List.mem_singleton.mp hx]
        omega
      · conv => rhs; rw [he2]
        rw [List.append_assoc]
        exact nv_carry _ _ _
theorem ckNext_ev (e : List Nat) (c : Nat) (hD : Digs e) (hn : e.length ≤ 12) (h0 : 1 ≤ e.length) (hc : c ≤ 10) :
    (∃ e' c', Ev (fun k => spec_ckNext.f k (txt e c)) (txt e' c') ∧ e'.length = e.length ∧ Digs e' ∧ c' ≤ 10 ∧ rk e' c' = rk e c + 1) ∨ (Ev (fun k => spec_ckNext.f k (txt e c)) ⟨#[]⟩ ∧ rk e c + 1 = 11 * q10 e.length) := by
  have hj : wrap64 (((txt e c).size : Int) - 1) = (e.length : Int) := by rw [txt_size, wrap_in (by omega) (by omega)]; omega
  have hck := ckCheck_ev (sgB c)
  rw [sgB_chk ⟨c, by omega⟩] at hck
  have hk : Ev (fun k => spec_ckCheck.f k (bt (txt e c) (e.length : Int))) (c : Int) := by rw [bt_txt_last]; exact hck
  unfold spec_ckNext.f
  rw [hj]
  by_cases h10 : c < 10
  · refine .inl ⟨e, c + 1, ?_, rfl, hD, by omega, by unfold rk; omega⟩
    have w1 : wrap64 ((c : Int) + 1) = ((c + 1 : Nat) : Int) := by rw [wrap_in (by omega) (by omega)]; omega
    have w2 : wrap64 ((c : Int) + 2) = ((c + 1 + 1 : Nat) : Int) := by rw [wrap_in (by omega) (by omega)]; omega
    refine Ev.pos (by omega) (Ev.pos (by rw [txt_size]; omega) (Ev.bind hk (Ev.pos (by omega) ?_)))
    rw [w1, w2]
    refine Ev.pos (by rw [txt_size]; omega) (Ev.pos (by omega) (Ev.pos (by omega) (Ev.pos (by omega) (Ev.pos ?_ (Ev.val ?_)))))
    · rw [ByteArray.size_extract, ByteArray.size_extract]
      show _ + (min _ 11 - _) ≤ _
      rw [txt_size]
      omega
    · rw [Int.toNat_natCast, Int.toNat_natCast, Int.toNat_natCast, txt_cut e c e.length (Nat.le_refl _), List.take_length]
      congr 1
      exact dtx_sign (c := c + 1) (by omega)
  · have e10 : c = 10 := by omega
    have hw : wrap64 ((e.length : Int) - 1) = (e.length : Int) - 1 := wrap_in (by omega) (by omega)
    rcases ckNext_l0 e c hD hn e.length (Nat.le_refl _) (by rw [List.drop_length, Nat.sub_self]; rfl) with ⟨e', h1, h2, h3, h4⟩ | ⟨h1, h2⟩
    · refine .inl ⟨e', 0, ?_, h2, h3, by omega, by unfold rk; omega⟩
      refine Ev.pos (by omega) (Ev.pos (by rw [txt_size]; omega) (Ev.bind hk (Ev.neg (by omega) ?_)))
      rw [hw]
      exact h1
    · refine .inr ⟨?_, by unfold rk; omega⟩
      refine Ev.pos (by omega) (Ev.pos (by rw [txt_size]; omega) (Ev.bind hk (Ev.neg (by omega) ?_)))
      rw [hw]
      exact h1
theorem rk_inj {e e' : List Nat} {c c' : Nat} (hl : e.length = e'.length) (hD : Digs e) (hD' : Digs e') (hc : c ≤ 10) (hc' : c' ≤ 10) (h : rk e c = rk e' c') : e = e' ∧ c = c' := by
  unfold rk at h
  have : c = c' := by omega
  exact ⟨nv_inj e e' hl hD hD' (by omega), this⟩
theorem rk_lt {e : List Nat} {c : Nat} (hD : Digs e) (hc : c ≤ 10) : rk e c < 11 * q10 e.length := by
  have := nv_lt e hD
  unfold rk
  omega
theorem txt_ne (e : List Nat) (c : Nat) : ¬ (txt e c).toList = ([] : List UInt8) := by
  rw [toList_data, txt_data]
  simp
section
variable {m : Int} {ws : List Int} (hm0 : 2 ≤ m) (hm1 : m ≤ 13) (hn : ws.length ≤ 12) (h0 : 1 ≤ ws.length) (hw : ∀ w ∈ ws, 0 ≤ w ∧ w < m)
include hn hw hm0 hm1 h0
/-- the reference's way, there being a right number that is the least from here on -/
theorem spec_some {e' : List Nat} {c' : Nat} (hR : IsR m ws e' c') : ∀ (d : Nat) (e : List Nat) (c : Nat), e.length = ws.length → Digs e → c ≤ 10 → rk e c + d = rk e' c' → (∀ e2 c2, IsR m ws e2 c2 → rk e c ≤ rk e2 c2 → rk e' c' ≤ rk e2 c2) →
    Ev (fun k => spec_NextRight.l0 k (txt e c) m ws) (txt e' c', true) := by
  intro d
  induction d with
  | zero =>
    intro e c he hD hc hr _
    obtain ⟨rfl, rfl⟩ := rk_inj (he.trans hR.1.symm) hD hR.2.1 hc hR.2.2.1 (by omega)
    refine Ev.step (fun k => by rw [spec_NextRight.l0]) ?_
    refine Ev.neg (txt_ne _ _) (Ev.bind (ckRight_ev hm0 hm1 hn hw e c hD he hc) ?_)
    exact Ev.pos (decide_eq_true hR.2.2.2) (Ev.val rfl)
  | succ d ih =>
    intro e c he hD hc hr hmin
    have hnr : ¬ (wsum ws e + (c : Int)) % m = 0 := fun h => by
      have := hmin e c ⟨he, hD, hc, h⟩ (Nat.le_refl _)
      omega
    refine Ev.step (fun k => by rw [spec_NextRight.l0]) ?_
    refine Ev.neg (txt_ne _ _) (Ev.bind (ckRight_ev hm0 hm1 hn hw e c hD he hc) (Ev.neg (by rw [decide_eq_false hnr]; decide) ?_))
    rcases ckNext_ev e c hD (by omega) (by omega) hc with ⟨e2, c2, h1, h2, h3, h4, h5⟩ | ⟨h1, h2⟩
    · exact Ev.bind h1 (ih e2 c2 (h2.trans he) h3 h4 (by omega) (fun e3 c3 hr3 hle => hmin e3 c3 hr3 (by omega)))
    · have := rk_lt hR.2.1 hR.2.2.1
      rw [hR.1, ← he] at this
      omega
theorem spec_none : ∀ (d : Nat) (e : List Nat) (c : Nat), e.length = ws.length → Digs e → c ≤ 10 → rk e c + 1 + d = 11 * q10 ws.length → (∀ e2 c2, IsR m ws e2 c2 → ¬ rk e c ≤ rk e2 c2) →
    Ev (fun k => spec_NextRight.l0 k (txt e c) m ws) ((⟨#[]⟩ : ByteArray), false) := by
  intro d
  induction d with
  | zero =>
    intro e c he hD hc hr hno
    have hnr : ¬ (wsum ws e + (c : Int)) % m = 0 := fun h => hno e c ⟨he, hD, hc, h⟩ (Nat.le_refl _)
    refine Ev.step (fun k => by rw [spec_NextRight.l0]) ?_
    refine Ev.neg (txt_ne _ _) (Ev.bind (ckRight_ev hm0 hm1 hn hw e c hD he hc) (Ev.neg (by rw [decide_eq_false hnr]; decide) ?_))
    rcases ckNext_ev e c hD (by omega) (by omega) hc with ⟨e2, c2, h1, h2, h3, h4, h5⟩ | ⟨h1, h2⟩
    · have := rk_lt h3 h4
      rw [h2, he] at this
      omega
    · refine Ev.bind h1 (Ev.step (fun k => by rw [spec_NextRight.l0]) ?_)
      exact Ev.pos (by rw [toList_data]) (Ev.val rfl)
  | succ d ih =>
    intro e c he hD hc hr hno
    have hnr : ¬ (wsum ws e + (c : Int)) % m = 0 := fun h => hno e c ⟨he, hD, hc, h⟩ (Nat.le_refl _)
    refine Ev.step (fun k => by rw [spec_NextRight.l0]) ?_
    refine Ev.neg (txt_ne _ _) (Ev.bind (ckRight_ev hm0 hm1 hn hw e c hD he hc) (Ev.neg (by rw [decide_eq_false hnr]; decide) ?_))
    rcases ckNext_ev e c hD (by omega) (by omega) hc with ⟨e2, c2, h1, h2, h3, h4, h5⟩ | ⟨h1, h2⟩
    · exact Ev.bind h1 (ih e2 c2 (h2.trans he) h3 h4 (by omega) (fun e3 c3 hr3 hle => hno e3 c3 hr3 (by omega)))
    · rw [he] at h2
      omega
end
end Go.Proofs.YtepkhpnoibillaaDoor.PA

/-! The next right number, at its end: the program's table and its least numbers; both programs tell the same. No condition but bounds. -/
namespace Go.Proofs.YtepkhpnoibillaaDoor.PA
open Go.RowKit Go.Proofs.YtepkhpnoibillaaDoorW.PrintWords
set_option linter.unusedVariables false

/-- the checks from one on, so many at most -/
def chkT (m : Nat) : Nat → Nat → List Int
  | 0, _ => []
  | f + 1, c => if c ≤ 10 then (c : Int) :: chkT m f (c + m) else []
theorem chkT_len (m : Nat) : ∀ f c, (chkT m f c).length ≤ f
  | 0, c => Nat.le_refl _
  | f + 1, c => by
    unfold chkT
    split
    · have := chkT_len m f (c + m)
      simp only [List.length_cons]
      omega
    · simp
theorem chkT_in (m : Nat) : ∀ f c, ∀ x ∈ chkT m f c, 0 ≤ x ∧ x ≤ 10
  | 0, c, x, h => by cases h
  | f + 1, c, x, h => by
    unfold chkT at h
    split at h
    · rcases List.mem_cons.mp h with rfl | h
      · omega
      · exact chkT_in m f _ x h
    · cases h
theorem checks_l0 (m : Nat) (hm : 2 ≤ m ∧ m ≤ 13) (ws : List Int) : ∀ (f c : Nat) (acc : List Int), c ≤ 30 → 11 ≤ c + f → acc.length + f ≤ 1000 → Ev (fun k => impl_Scheme_checks.l0 k acc (c : Int) (m : Int) ws) (acc ++ chkT m f c, (m : Int))
  | 0, c, acc, h30, h, ha => by
    refine Ev.step (fun k => by rw [impl_Scheme_checks.l0]) ?_
    refine Ev.neg (by omega) (Ev.val ?_)
    unfold chkT
    rw [List.append_nil]
  | f + 1, c, acc, h30, h, ha => by
    refine Ev.step (fun k => by rw [impl_Scheme_checks.l0]) ?_
    unfold chkT
    by_cases hc : c ≤ 10
    · have hw : wrap64 ((c : Int) + (m : Int)) = ((c + m : Nat) : Int) := by rw [wrap_in (by omega) (by omega)]; omega
      refine Ev.pos (by omega) (Ev.pos (by omega) ?_)
      rw [hw, if_pos hc]
      have ih := checks_l0 m hm ws f (c + m) (acc ++ [(c : Int)]) (by omega) (by omega) (by rw [List.length_append]; simp; omega)
      refine Ev.eq ih ?_
      rw [List.append_assoc]
      rfl
    · refine Ev.neg (by omega) (Ev.val ?_)
      rw [if_neg hc, List.append_nil]
theorem checks_ev (m : Nat) (hm : 2 ≤ m ∧ m ≤ 13) (ws : List Int) (v : Int) (hv : 0 ≤ v) : Ev (fun k => impl_Scheme_checks.f k (m : Int) ws v) (chkT m 11 (((m : Int) - v % m) % m).toNat, (m : Int)) := by
  have h1 : 0 ≤ v % (m : Int) := Int.emod_nonneg _ (by omega)
  have h2 : v % (m : Int) < m := Int.emod_lt_of_pos _ (by omega)
  have h3 : 0 ≤ ((m : Int) - v % m) % m := Int.emod_nonneg _ (by omega)
  have h4 : ((m : Int) - v % m) % m < m := Int.emod_lt_of_pos _ (by omega)
  have hc : impl_Scheme_check.f (m : Int) ws v = some ((((((m : Int) - v % m) % m).toNat : Nat) : Int), (m : Int)) := by
    unfold impl_Scheme_check.f
    rw [if_neg (by omega), Int.tmod_eq_emod_of_nonneg hv, wrap_in (by omega) (by omega), Int.tmod_eq_emod_of_nonneg (by omega), Int.toNat_of_nonneg h3]
  unfold impl_Scheme_checks.f
  refine Ev.vbind hc ?_
  have h := checks_l0 m hm ws 11 (((m : Int) - v % m) % m).toNat [] (by omega) (by omega) (by simp)
  rw [List.nil_append] at h
  exact h
/-- the first check above another one -/
theorem chkT_find (m : Nat) (hm : 0 < m) (j : Int) : ∀ (f c : Nat), 11 ≤ c + f →
    (∃ x : Nat, x ≤ 10 ∧ c ≤ x ∧ (x - c) % m = 0 ∧ j < (x : Int) ∧ ((chkT m f c).any fun c => decide (j < c)) = true ∧ ((chkT m f c).find? fun c => decide (j < c)) = some (x : Int) ∧ ∀ y : Nat, y ≤ 10 → c ≤ y → (y - c) % m = 0 → j < (y : Int) → x ≤ y) ∨
    (((chkT m f c).any fun c => decide (j < c)) = false ∧ ∀ y : Nat, y ≤ 10 → c ≤ y → (y - c) % m = 0 → ¬ j < (y : Int))
  | 0, c, h => .inr ⟨rfl, fun y h1 h2 => by omega⟩
  | f + 1, c, h => by
    unfold chkT
    by_cases hc : c ≤ 10
    · rw [if_pos hc]
      by_cases hj : j < (c : Int)
      · exact .inl ⟨c, hc, Nat.le_refl _, by rw [Nat.sub_self, Nat.zero_mod], hj, by rw [List.any_cons, decide_eq_true hj, Bool.true_or], by rw [List.find?_cons, decide_eq_true hj], fun y _ h2 _ _ => h2⟩
      · have hstep : ∀ y : Nat, c ≤ y → (y - c) % m = 0 → j < (y : Int) → c + m ≤ y ∧ (y - (c + m)) % m = 0 := fun y h1 h2 h3 => by
          have hne : 0 < y - c := by omega
          have hge : m ≤ y - c := Nat.le_of_dvd hne (Nat.dvd_of_mod_eq_zero h2)
          refine ⟨by omega, ?_⟩
          rw [show y - (c + m) = (y - c) - m by omega, ← Nat.mod_eq_sub_mod hge]
          exact h2
        rcases chkT_find m hm j f (c + m) (by omega) with ⟨x, x1, x2, x3, x4, x5, x6, x7⟩ | ⟨x1, x2⟩
        · refine .inl ⟨x, x1, by omega, ?_, x4, by rw [List.any_cons, x5, Bool.or_true], by rw [List.find?_cons, decide_eq_false hj]; exact x6, fun y y1 y2 y3 y4 => ?_⟩
          · rw [show x - c = (x - (c + m)) + m by omega, Nat.add_mod_right]
            exact x3
          · obtain ⟨h1, h2⟩ := hstep y y2 y3 y4
            exact x7 y y1 h1 h2 y4
        · refine .inr ⟨by rw [List.any_cons, decide_eq_false hj, Bool.false_or]; exact x1, fun y y1 y2 y3 y4 => ?_⟩
          obtain ⟨h1, h2⟩ := hstep y y2 y3 y4
          exact x2 y y1 h1 h2 y4
    · rw [if_neg hc]
      exact .inr ⟨rfl, fun y h1 h2 => by omega⟩
/-- which checks make a sum right -/
theorem check_iff {m : Nat} (hm : 0 < m) (S : Int) (y : Nat) : (S + y) % (m : Int) = 0 ↔ (((m : Int) - S % m) % m).toNat ≤ y ∧ (y - (((m : Int) - S % m) % m).toNat) % m = 0 := by
  have h3 : 0 ≤ ((m : Int) - S % m) % m := Int.emod_nonneg _ (by omega)
  have h4 : ((m : Int) - S % m) % m < m := Int.emod_lt_of_pos _ (by omega)
  obtain ⟨c, hc⟩ : ∃ c : Nat, ((m : Int) - S % m) % m = (c : Int) := ⟨_, (Int.toNat_of_nonneg h3).symm⟩
  have hk : (S + c) % (m : Int) = 0 := by
    rw [← hc, Int.add_emod, Int.emod_emod, ← Int.add_emod, show S + ((m : Int) - S % m) = (S - S % m) + m by omega, Int.add_emod_right]
    exact Int.emod_eq_zero_of_dvd (Int.dvd_self_sub_emod)
  rw [hc, Int.toNat_natCast]
  constructor
  · intro h
    have hd : (m : Int) ∣ (y : Int) - c := by
      have h1 := Int.dvd_of_emod_eq_zero h
      have h2 := Int.dvd_of_emod_eq_zero hk
      have := Int.dvd_sub h1 h2
      rwa [show S + (y : Int) - (S + c) = (y : Int) - c by omega] at this
    have hle : c ≤ y := by
      rcases Nat.lt_or_ge y c with hlt | hge
      · have h5 : (m : Int) ∣ (c : Int) - y := by
          have := Int.dvd_neg.mpr hd
          rwa [show -((y : Int) - c) = (c : Int) - y by omega] at this
        have := Int.le_of_dvd (by omega) h5
        omega
      · exact hge
    refine ⟨hle, ?_⟩
    have : ((m : Nat) : Int) ∣ ((y - c : Nat) : Int) := by rwa [show ((y - c : Nat) : Int) = (y : Int) - c by omega]
    exact Nat.mod_eq_zero_of_dvd (Int.natCast_dvd_natCast.mp this)
  · rintro ⟨h1, h2⟩
    have : (m : Int) ∣ (y : Int) - c := by
      have := Int.natCast_dvd_natCast.mpr (Nat.dvd_of_mod_eq_zero h2)
      rwa [show ((y - c : Nat) : Int) = (y : Int) - c by omega] at this
    rw [show S + (y : Int) = (S + c) + ((y : Int) - c) by omega, Int.add_emod, hk, Int.emod_eq_zero_of_dvd this]
    rfl
theorem chkN_eq {m : Nat} (hm : 0 < m) (r : Nat) : ((chkN m r : Nat) : Int) = ((m : Int) - (r : Int) % m) % m := by
  have h1 : 0 ≤ (r : Int) % (m : Int) := Int.emod_nonneg _ (by omega)
  have h2 : (r : Int) % (m : Int) < m := Int.emod_lt_of_pos _ (by omega)
  have h3 : 0 ≤ ((m : Int) - (r : Int) % m) % m := Int.emod_nonneg _ (by omega)
  have e1 : Int.tmod (r : Int) (m : Int) = (r : Int) % m := Int.tmod_eq_emod_of_nonneg (by omega)
  unfold chkN
  rw [e1, Int.tmod_eq_emod_of_nonneg (by omega), Int.toNat_of_nonneg h3]
/-- the table's foot -/
def topB (m : Nat) : List Bool := (List.range m).map fun r => canN (m : Int) [] ((r : Nat) : Int)
theorem topO_ev (m : Nat) (hm : 2 ≤ m ∧ m ≤ 13) (ws : List Int) : ∀ R : Nat, Ev (fun k => topO k (m : Int) ws R) ((List.range R).map fun r => canN (m : Int) [] ((r : Nat) : Int))
  | 0 => Ev.val rfl
  | R + 1 => by
    refine Ev.bind (topO_ev m hm ws R) (Ev.bind (checks_ev m hm ws (R : Int) (by omega)) (Ev.pos rfl (Ev.val ?_)))
    rw [List.range_succ, List.map_append]
    congr 2
    show [_] = [_]
    congr 1
    have h3 : 0 ≤ ((m : Int) - (R : Int) % m) % m := Int.emod_nonneg _ (by omega)
    unfold chkT canN
    show _ = decide (((m : Int) - (R : Int) % m) % m ≤ 10)
    by_cases hc : ((m : Int) - (R : Int) % m) % m ≤ 10
    · rw [if_pos (by omega), decide_eq_true hc]
      apply decide_eq_true
      simp only [List.length_cons]
      omega
    · rw [if_neg (by omega), decide_eq_false hc]
      rfl
theorem tab_can (m : Nat) (hm : 2 ≤ m ∧ m ≤ 13) (ws : List Int) (hw : ∀ w ∈ ws, 0 ≤ w ∧ w < m) : ∀ c : Nat, c ≤ ws.length → ∀ r : Nat, r < m → (tabC m ws (topB m) c).getD r false = canN (m : Int) (ws.drop (ws.length - c)) (r : Int)
  | 0, _, r, hr => by
    show (topB m).getD r false = _
    rw [Nat.sub_zero, List.drop_length]
    unfold topB
    rw [List.getD, List.getElem?_map, List.getElem?_range hr]
    rfl
  | c + 1, hc, r, hr => by
    have hi : ws.length - (c + 1) < ws.length := by omega
    rw [List.drop_eq_getElem_cons hi, show ws.length - (c + 1) + 1 = ws.length - c by omega]
    show (upRow m (ws.getD (ws.length - 1 - c) 0) (tabC m ws (topB m) c)).getD r false = _
    unfold upRow canN
    rw [List.getD, List.getElem?_map, List.getElem?_range hr]
    simp only [Option.map_some, Option.getD_some]
    have hg : ws.getD (ws.length - 1 - c) 0 = ws[ws.length - (c + 1)] := by
      rw [show ws.length - 1 - c = ws.length - (c + 1) by omega]
      simp [List.getD, hi]
    rw [hg]
    have hwb := hw _ (List.getElem_mem hi)
    generalize ws[ws.length - (c + 1)] = wv at hwb
    congr 1
    funext d
    have h1 : 0 ≤ (d : Int) * wv := Int.mul_nonneg (by omega) hwb.1
    have h2 : 0 ≤ ((r : Int) + (d : Int) * wv) % (m : Int) := Int.emod_nonneg _ (by omega)
    have h3 : ((r : Int) + (d : Int) * wv) % (m : Int) < m := Int.emod_lt_of_pos _ (by omega)
    rw [Int.tmod_eq_emod_of_nonneg (by omega), tab_can m hm ws hw c (by omega) _ (by omega), Int.toNat_of_nonneg h2]
theorem firstD_congr {g h : Nat → Bool} (e : ∀ d, g d = h d) : dg1 g = firstD h := by
  have : g = h := funext e
  subst this
  rfl
theorem leastN_rest {m : Int} (hm : 0 < m) : ∀ (ws : List Int) (r : Int), 0 ≤ r → r < m → 0 ≤ (leastN m ws r).2 ∧ (leastN m ws r).2 < m
  | [], r, h0, h1 => ⟨h0, h1⟩
  | w :: ws, r, _, _ => leastN_rest hm ws _ (Int.emod_nonneg _ (by omega)) (Int.emod_lt_of_pos _ hm)
theorem least_go (m : Nat) (hm : 2 ≤ m ∧ m ≤ 13) (ws : List Int) (hw : ∀ w ∈ ws, 0 ≤ w ∧ w < m) : ∀ c : Nat, c ≤ ws.length → ∀ (r : Nat) (p : List Nat), r < m → canN (m : Int) (ws.drop (ws.length - c)) (r : Int) = true →
    leastGo m ws (topB m) c r (dtx p) = (dtx (p ++ (leastN (m : Int) (ws.drop (ws.length - c)) (r : Int)).1), (leastN (m : Int) (ws.drop (ws.length - c)) (r : Int)).2.toNat)
  | 0, _, r, p, hr, _ => by
    rw [Nat.sub_zero, List.drop_length]
    show (dtx p, r) = (dtx (p ++ []), ((r : Nat) : Int).toNat)
    rw [List.append_nil, Int.toNat_natCast]
  | c + 1, hc, r, p, hr, hcan => by
    have hi : ws.length - (c + 1) < ws.length := by omega
    have hdr : ws.drop (ws.length - (c + 1)) = ws[ws.length - (c + 1)] :: ws.drop (ws.length - c) := by
      rw [List.drop_eq_getElem_cons hi, show ws.length - (c + 1) + 1 = ws.length - c by omega]
    rw [hdr] at hcan ⊢
    have hg : ws.getD (ws.length - 1 - c) 0 = ws[ws.length - (c + 1)] := by
      rw [show ws.length - 1 - c = ws.length - (c + 1) by omega]
      simp [List.getD, hi]
    have hwb := hw _ (List.getElem_mem hi)
    generalize ws[ws.length - (c + 1)] = wv at hcan hg hwb ⊢
    have hcand : ∀ d : Nat, candG m ws (topB m) c r d = canN (m : Int) (ws.drop (ws.length - c)) (((r : Int) + (d : Int) * wv) % (m : Int)) := fun d => by
      unfold candG
      have h1 : 0 ≤ (d : Int) * wv := Int.mul_nonneg (by omega) hwb.1
      have h2 : 0 ≤ ((r : Int) + (d : Int) * wv) % (m : Int) := Int.emod_nonneg _ (by omega)
      have h3 : ((r : Int) + (d : Int) * wv) % (m : Int) < m := Int.emod_lt_of_pos _ (by omega)
      rw [hg, Int.tmod_eq_emod_of_nonneg (by omega), tab_can m hm ws hw c (by omega) _ (by omega), Int.toNat_of_nonneg h2]
    have hD : dg1 (candG m ws (topB m) c r) = firstD (fun d => canN (m : Int) (ws.drop (ws.length - c)) (((r : Int) + (d : Int) * wv) % (m : Int))) := firstD_congr hcand
    obtain ⟨d1, d2, _⟩ := firstD_any (g := fun d => canN (m : Int) (ws.drop (ws.length - c)) (((r : Int) + (d : Int) * wv) % (m : Int))) (by unfold canN at hcan; exact hcan)
    obtain ⟨D, hDD⟩ : ∃ D, firstD (fun d => canN (m : Int) (ws.drop (ws.length - c)) (((r : Int) + (d : Int) * wv) % (m : Int))) = D := ⟨_, rfl⟩
    rw [hDD] at d1 d2 hD
    have h1 : 0 ≤ (D : Int) * wv := Int.mul_nonneg (by omega) hwb.1
    have h2 : 0 ≤ ((r : Int) + (D : Int) * wv) % (m : Int) := Int.emod_nonneg _ (by omega)
    have h3 : ((r : Int) + (D : Int) * wv) % (m : Int) < m := Int.emod_lt_of_pos _ (by omega)
    show leastGo m ws (topB m) c _ _ = _
    rw [hD, hg, Int.tmod_eq_emod_of_nonneg (by omega), dtx_dig d1]
    have ih := least_go m hm ws hw c (by omega) (((r : Int) + (D : Int) * wv) % (m : Int)).toNat (p ++ [D]) (by omega) (by rw [Int.toNat_of_nonneg h2]; exact d2)
    have e1 : leastN (m : Int) (wv :: ws.drop (ws.length - c)) (r : Int) = (D :: (leastN (m : Int) (ws.drop (ws.length - c)) (((r : Int) + (D : Int) * wv) % (m : Int))).1, (leastN (m : Int) (ws.drop (ws.length - c)) (((r : Int) + (D : Int) * wv) % (m : Int))).2) := by
      show ((firstD fun d => canN (m : Int) (ws.drop (ws.length - c)) (((r : Int) + (d : Int) * wv) % (m : Int))) :: _, _) = _
      rw [hDD]
    rw [ih, Int.toNat_of_nonneg h2, List.append_assoc, e1]
    rfl
end Go.Proofs.YtepkhpnoibillaaDoor.PA

/-! The next right number: place by place; both programs tell the same. No condition but bounds. -/
namespace Go.Proofs.YtepkhpnoibillaaDoor.PA
open Go.RowKit Go.Proofs.YtepkhpnoibillaaDoorW.PrintWords
set_option linter.unusedVariables false

theorem firstO_ev {g : Nat → Nat → Option (ByteArray × Bool)} {r : Nat → ByteArray × Bool} (h : ∀ d, d < 10 → Ev (fun k => g k d) (r d)) : ∀ (q d : Nat), d + q = 10 →
    (∃ j, d ≤ j ∧ j < 10 ∧ (r j).2 = true ∧ (∀ i, d ≤ i → i < j → (r i).2 = false) ∧ Ev (fun k => firstO (g k) q d) ((r j).1, true)) ∨
    ((∀ i, d ≤ i → i < 10 → (r i).2 = false) ∧ Ev (fun k => firstO (g k) q d) ((⟨#[]⟩ : ByteArray), false))
  | 0, d, hd => .inr ⟨fun i h1 h2 => by omega, Ev.val rfl⟩
  | q + 1, d, hd => by
    cases hr : (r d).2 with
    | true => exact .inl ⟨d, Nat.le_refl _, by omega, hr, fun i h1 h2 => by omega, Ev.bind (h d (by omega)) (Ev.pos hr (Ev.val rfl))⟩
    | false =>
      have hn : ¬ (r d).2 = true := by rw [hr]; decide
      rcases firstO_ev h q (d + 1) (by omega) with ⟨j, j1, j2, j3, j4, j5⟩ | ⟨j1, j2⟩
      · refine .inl ⟨j, by omega, j2, j3, fun i i1 i2 => ?_, Ev.bind (h d (by omega)) (Ev.neg hn j5)⟩
        rcases Nat.lt_or_ge d i with h1 | h1
        · exact j4 i (by omega) i2
        · obtain rfl : i = d := by omega
          exact hr
      · refine .inr ⟨fun i i1 i2 => ?_, Ev.bind (h d (by omega)) (Ev.neg hn j2)⟩
        rcases Nat.lt_or_ge d i with h1 | h1
        · exact j1 i (by omega) i2
        · obtain rfl : i = d := by omega
          exact hr
theorem wsum_take (ws : List Int) (p : List Nat) (h : p.length ≤ ws.length) : wsum (ws.take p.length) p = wsum ws p := by
  have h2 := wsum_app (ws.take p.length) (ws.drop p.length) p [] (by rw [List.length_take]; omega)
  rw [List.take_append_drop, List.append_nil] at h2
  have e4 : ∀ l : List Int, wsum l [] = 0 := fun l => by cases l <;> rfl
  rw [h2, e4, Int.add_zero]
section
variable {m : Nat} {ws : List Int} (hm : 2 ≤ m ∧ m ≤ 13) (hn : ws.length ≤ 12) (hw : ∀ w ∈ ws, 0 ≤ w ∧ w < (m : Int))
include hm hw
theorem leastV_cases (p : List Nat) (hD : Digs p) (hp : p.length ≤ ws.length) :
    (∃ t c, leastV m ws (topB m) (dtx p) (wsum ws p) = (txt (p ++ t) c, true) ∧ IsR (m : Int) ws (p ++ t) c ∧ ∀ e2 c2, IsR (m : Int) ws e2 c2 → e2.take p.length = p → rk (p ++ t) c ≤ rk e2 c2) ∨
    (leastV m ws (topB m) (dtx p) (wsum ws p) = ((⟨#[]⟩ : ByteArray), false) ∧ NoHead (m : Int) ws p) := by
  have hmz : (0 : Int) < (m : Int) := by omega
  have hs := wsum_nn ws p (fun w hx => by have := hw w hx; omega) hD
  obtain ⟨S, hS⟩ : ∃ S, wsum ws p = S := ⟨_, rfl⟩
  have hr0 : 0 ≤ S % (m : Int) := Int.emod_nonneg _ (by omega)
  have hr1 : S % (m : Int) < m := Int.emod_lt_of_pos _ hmz
  have hno := noHead_iff hmz hp hD
  rw [wsum_take ws p hp] at hno
  rw [hS] at hs hno ⊢
  have htm : (Int.tmod S (m : Int)).toNat = (S % (m : Int)).toNat := by rw [Int.tmod_eq_emod_of_nonneg hs.1]
  have htab := tab_can m hm ws hw (ws.length - p.length) (by omega) (S % (m : Int)).toNat (by omega)
  rw [show ws.length - (ws.length - p.length) = p.length by omega, Int.toNat_of_nonneg hr0] at htab
  unfold leastV
  rw [dtx_size, htm, htab]
  cases hcan : canN (m : Int) (ws.drop p.length) (S % (m : Int)) with
  | false => exact .inr ⟨by rw [if_neg Bool.false_ne_true], hno.mp hcan⟩
  | true =>
    have hgo := least_go m hm ws hw (ws.length - p.length) (by omega) (S % (m : Int)).toNat p (by omega) (by rw [show ws.length - (ws.length - p.length) = p.length by omega, Int.toNat_of_nonneg hr0]; exact hcan)
    rw [show ws.length - (ws.length - p.length) = p.length by omega, Int.toNat_of_nonneg hr0] at hgo
    obtain ⟨l1, l2, l3, l4, l5⟩ := least_ok hmz (ws.drop p.length) (S % (m : Int)) hcan
    obtain ⟨q0, q1⟩ := leastN_rest hmz (ws.drop p.length) (S % (m : Int)) hr0 hr1
    obtain ⟨L, hL⟩ : ∃ L, leastN (m : Int) (ws.drop p.length) (S % (m : Int)) = L := ⟨_, rfl⟩
    rw [hL] at hgo l1 l2 l3 l4 l5 q0 q1
    obtain ⟨t, r⟩ := L
    simp only at hgo l1 l2 l3 l4 l5 q0 q1
    have hck := chkN_eq (m := m) (by omega) r.toNat
    rw [Int.toNat_of_nonneg q0] at hck
    have hc10 : chkN m r.toNat ≤ 10 := by
      unfold canN at l3
      have := of_decide_eq_true l3
      omega
    have hsum : wsum ws (p ++ t) = S + wsum (ws.drop p.length) t := by
      have h2 := wsum_app (ws.take p.length) (ws.drop p.length) p t (by rw [List.length_take]; omega)
      rw [List.take_append_drop, wsum_take ws p hp, hS] at h2
      exact h2
    have hlen : (p ++ t).length = ws.length := by rw [List.length_append, l1, List.length_drop]; omega
    have hrm : r % (m : Int) = wsum ws (p ++ t) % (m : Int) := by rw [l4, hsum, Int.emod_add_emod]
    have hR : IsR (m : Int) ws (p ++ t) (chkN m r.toNat) := by
      refine ⟨hlen, hD.app l2, hc10, ?_⟩
      have := (check_iff (m := m) (by omega) (wsum ws (p ++ t)) (chkN m r.toNat)).mpr
      apply this
      rw [← hrm, ← hck, Int.toNat_natCast]
      exact ⟨Nat.le_refl _, by rw [Nat.sub_self, Nat.zero_mod]⟩
    refine .inl ⟨t, chkN m r.toNat, ?_, hR, fun e2 c2 he2 ht2 => ?_⟩
    · rw [if_pos rfl, hgo]
      simp only
      rw [dtx_sign hc10]
    · have he3 : e2 = p ++ e2.drop p.length := by
        conv => lhs; rw [← List.take_append_drop p.length e2, ht2]
      have h3l : (e2.drop p.length).length = (ws.drop p.length).length := by rw [List.length_drop, List.length_drop, he2.1]
      have hs3 : wsum ws e2 = S + wsum (ws.drop p.length) (e2.drop p.length) := by
        have h2 := wsum_app (ws.take p.length) (ws.drop p.length) p (e2.drop p.length) (by rw [List.length_take]; omega)
        rw [List.take_append_drop, wsum_take ws p hp, hS, ← he3] at h2
        exact h2
      have hle := l5 (e2.drop p.length) c2 h3l (he2.2.1.drop _) he2.2.2.1 (by
        have h2 := he2.2.2.2
        rw [hs3] at h2
        rw [Int.add_assoc, Int.emod_add_emod, ← h2, Int.add_assoc])
      have hnv : nv (p ++ t) ≤ nv e2 := by
        conv => rhs; rw [he3]
        rw [nv_app, nv_app, l1, h3l]
        omega
      rcases Nat.lt_or_ge (nv (p ++ t)) (nv e2) with hlt | hge
      · unfold rk
        omega
      · have heq : p ++ t = e2 := nv_inj _ _ (hlen.trans he2.1.symm) (hD.app l2) he2.2.1 (by omega)
        have h2 := he2.2.2.2
        rw [← heq] at h2
        have h3 := ((check_iff (m := m) (by omega) _ _).mp h2).1
        rw [← hrm, ← hck, Int.toNat_natCast] at h3
        rw [← heq]
        unfold rk
        omega
include hn
theorem tryO_ev (p : List Nat) (hD : Digs p) (hp : p.length ≤ ws.length) : Ev (fun k => tryO k (m : Int) ws (topB m) (dtx p)) (leastV m ws (topB m) (dtx p) (wsum ws p)) := by
  have hs := wsum_nn ws p (fun w hx => by have := hw w hx; omega) hD
  unfold tryO
  refine Ev.bind (sumP_ev (by omega) (by omega) hn hw p hD hp) (Ev.pos ⟨rfl, hs.1⟩ (Ev.val ?_))
  rw [Int.toNat_natCast]
/-- what the program tells, going from place to place -/
theorem placeO_ev (e : List Nat) (c : Nat) (he : e.length = ws.length) (hD : Digs e) : ∀ i : Nat, i ≤ e.length → NoneFrom (m : Int) ws e i →
    (∃ e' c', Ev (fun k => placeO k (m : Int) ws (topB m) (txt e c) i) (txt e' c', true) ∧ IsR (m : Int) ws e' c' ∧ nv e < nv e' ∧ ∀ e2 c2, IsR (m : Int) ws e2 c2 → nv e < nv e2 → rk e' c' ≤ rk e2 c2) ∨
    (Ev (fun k => placeO k (m : Int) ws (topB m) (txt e c) i) ((⟨#[]⟩ : ByteArray), false) ∧ ∀ e2 c2, IsR (m : Int) ws e2 c2 → ¬ nv e < nv e2)
  | 0, _, hN => .inr ⟨Ev.val rfl, fun e2 c2 h h2 => hN e2 c2 h h2 rfl⟩
  | i + 1, hi, hN => by
    have hie : i < e.length := by omega
    have hd := hD _ (List.getElem_mem hie)
    have hdig : impl_digit.f (bt (txt e c) (i : Int)) = some ((e[i] : Nat) : Int) := by
      rw [bt_txt hD hie]
      unfold impl_digit.f
      congr 1
      omega
    have hP : ∀ d, d < 10 → Digs (e.take i ++ [d]) := fun d hd => (hD.take i).app (fun x hx => by rw [List.mem_singleton.mp hx]; exact hd)
    have hPl : ∀ d, (e.take i ++ [d]).length = i + 1 := fun d => by rw [List.length_append, List.length_take, List.length_singleton]; omega
    have hhead : ∀ d, d < 10 → headI (txt e c) i d = dtx (e.take i ++ [d]) := fun d hd => by
      unfold headI
      rw [txt_cut e c i (by omega), dtx_dig hd]
    have htry : ∀ d, d < 10 → Ev (fun k => tryO k (m : Int) ws (topB m) (headI (txt e c) i d)) (leastV m ws (topB m) (dtx (e.take i ++ [d])) (wsum ws (e.take i ++ [d]))) := fun d hd => by
      rw [hhead d hd]
      exact tryO_ev hm hn hw _ (hP d hd) (by rw [hPl]; omega)
    have hcases := fun d (hd : d < 10) => leastV_cases hm hw (e.take i ++ [d]) (hP d hd) (by rw [hPl]; omega)
    have hnoh : ∀ d, d < 10 → (leastV m ws (topB m) (dtx (e.take i ++ [d])) (wsum ws (e.take i ++ [d]))).2 = false → NoHead (m : Int) ws (e.take i ++ [d]) := fun d hd hf => by
      rcases hcases d hd with ⟨t, c', h1, _⟩ | ⟨_, h2⟩
      · rw [h1] at hf
        cases hf
      · exact h2
    have hfst := firstO_ev (g := fun k d => tryO k (m : Int) ws (topB m) (headI (txt e c) i d)) htry (9 - e[i]) (e[i] + 1) (by omega)
    have hbnd : 0 ≤ ((e[i] : Nat) : Int) ∧ ((e[i] : Nat) : Int) ≤ 9 := by omega
    rcases hfst with ⟨j, j1, j2, j3, j4, j5⟩ | ⟨j1, j2⟩
    · rcases hcases j j2 with ⟨t, c', h1, h2, h3⟩ | ⟨h1, _⟩
      · have hlt : nv e < nv (e.take i ++ [j] ++ t) := by
          have hl := h2.1
          rw [List.length_append, hPl] at hl
          have := nv_lt_of (p := e.take i) (a := e.drop (i + 1)) (b := t) (x := e[i]) (y := j) (by rw [List.length_drop]; omega) (hD.drop _) (by omega)
          rw [← split_at hie] at this
          rw [List.append_assoc]
          exact this
        refine .inl ⟨e.take i ++ [j] ++ t, c', ?_, h2, hlt, fun e2 c2 he2 hv2 => ?_⟩
        · rw [h1] at j5
          refine Ev.vbind hdig (Ev.pos hbnd ?_)
          rw [Int.toNat_natCast]
          exact Ev.bind j5 (Ev.pos rfl (Ev.val rfl))
        · have hla := least_above (m := (m : Int)) (ws := ws) he hD hie hN (show e[i] < j by omega) j2 (fun q q1 q2 => hnoh q (by omega) (j4 q (by omega) q2)) (t := t) (by have hl := h2.1; rw [List.length_append, hPl] at hl; omega)
            (fun d hd => h2.2.1 d (List.mem_append_right _ hd)) (fun e3 c3 hl3 hD3 hR3 => by
              have h4 := h3 (e.take i ++ j :: e3) c3 hR3 (by rw [hPl, show e.take i ++ j :: e3 = (e.take i ++ [j]) ++ e3 by simp, List.take_left' (by rw [hPl])])
              unfold rk at h4
              rw [show e.take i ++ j :: e3 = (e.take i ++ [j]) ++ e3 by simp, nv_app (e.take i ++ [j]) t, nv_app (e.take i ++ [j]) e3, hl3] at h4
              have hc3 := hR3.2.2.1
              omega) e2 c2 he2 hv2
          rw [show e.take i ++ j :: t = e.take i ++ [j] ++ t by simp] at hla
          rcases Nat.lt_or_ge (nv (e.take i ++ [j] ++ t)) (nv e2) with hlt2 | hge2
          · have := h2.2.2.1
            unfold rk
            omega
          · have heq : e.take i ++ [j] ++ t = e2 := nv_inj _ _ (h2.1.trans he2.1.symm) h2.2.1 he2.2.1 (by omega)
            refine h3 e2 c2 he2 ?_
            rw [← heq, List.take_left' rfl]
      · rw [h1] at j3
        cases j3
    · have hN2 := none_step he hD hie hN (fun d d1 d2 => hnoh d d2 (j1 d (by omega) d2))
      rcases placeO_ev e c he hD i (by omega) hN2 with ⟨e', c', h1, h2⟩ | ⟨h1, h2⟩
      · refine .inl ⟨e', c', ?_, h2⟩
        refine Ev.vbind hdig (Ev.pos hbnd ?_)
        rw [Int.toNat_natCast]
        exact Ev.bind j2 (Ev.neg (by decide) h1)
      · refine .inr ⟨?_, h2⟩
        refine Ev.vbind hdig (Ev.pos hbnd ?_)
        rw [Int.toNat_natCast]
        exact Ev.bind j2 (Ev.neg (by decide) h1)
end
theorem next_key (m : Int) (l : List Int) (s : ByteArray) (hl : l.length ≤ 1048576) (hs : s.size ≤ 1048576) :
    ∃ r : ByteArray × Bool, Ev (fun k => spec_NextRight.f k m l s) r ∧ Ev (fun k => impl_NextRight.f k m l s) r := by
  obtain ⟨b, hb, hq, hf⟩ := number_ev m l s hl hs
  unfold spec_NextRight.f impl_NextRight.f
  cases b with
  | false => exact ⟨((⟨#[]⟩ : ByteArray), false), Ev.bind hb (Ev.neg (by simp) (Ev.val rfl)), Ev.vbind hq (Ev.neg (by simp) (Ev.val rfl))⟩
  | true =>
    obtain ⟨g, hz⟩ := hf rfl
    obtain ⟨e, c, rfl, he, hD, hc⟩ := number_txt hl hs hq
    obtain ⟨m0, m1, l0, l1, hw12⟩ := sch_facts g
    have hw : ∀ w ∈ l, 0 ≤ w ∧ w < m := by
      unfold schB at g
      simp only [Bool.and_eq_true, List.all_eq_true, decide_eq_true_eq] at g
      intro w hx
      have := g.2 w hx
      unfold wB at this
      rw [wrap_in (by omega) (by omega)] at this
      simp only [Bool.and_eq_true, decide_eq_true_eq] at this
      omega
    obtain ⟨mn, rfl⟩ : ∃ mn : Nat, m = (mn : Int) := ⟨m.toNat, by omega⟩
    have hm : 2 ≤ mn ∧ mn ≤ 13 := by omega
    have hsn := wsum_nn l e hw12 hD
    have hsum := sumP_ev m0 m1 l1 hw e hD (by omega)
    have hchk := checks_ev mn hm l (wsum l e) hsn.1
    have htop := topO_ev mn hm l mn
    have hidx : strings_IndexByte.f sgN (bt (txt e c) (l.length : Int)) = some (c : Int) := by
      rw [← he, bt_txt_last]
      have := indexByte_f (sgB c)
      rw [sgB_chk ⟨c, by omega⟩] at this
      exact this
    have hcut : (txt e c).extract 0 l.length = dtx e := by rw [txt_cut e c l.length (by omega), ← he, List.take_length]
    have hbig : 2 ≤ (mn : Int) ∧ (mn : Int) ≤ 13 ∧ l.length ≤ 12 ∧ (∀ x ∈ l, 0 ≤ x ∧ x < (mn : Int)) ∧ (txt e c).size = l.length + 1 := ⟨m0, m1, l1, hw, by rw [txt_size, he]⟩
    have hin : (chkT mn 11 (((mn : Int) - wsum l e % mn) % mn).toNat).length ≤ 20 := by
      have := chkT_len mn 11 (((mn : Int) - wsum l e % mn) % mn).toNat
      omega
    have hrange := chkT_in mn 11 (((mn : Int) - wsum l e % mn) % mn).toNat
    have hfind := chkT_find mn (by omega) (c : Int) 11 (((mn : Int) - wsum l e % mn) % mn).toNat (by omega)
    generalize chkT mn 11 (((mn : Int) - wsum l e % mn) % mn).toNat = T at hchk hin hrange hfind
    have himpl : ∀ r, Ev (fun k => if (T.any fun c_ => decide ((c : Int) < c_)) = true then some ((txt e c).extract 0 l.length ++ sgN.extract ((T.find? fun c_ => decide ((c : Int) < c_)).getD 0).toNat (((T.find? fun c_ => decide ((c : Int) < c_)).getD 0).toNat + 1), true) else placeO k (mn : Int) l (topB mn) (txt e c) l.length) r →
        Ev (fun k => (impl_numberOk.f (mn : Int) l (txt e c)).bind fun g => if g = true then
    (if 2 ≤ (mn : Int) ∧ (mn : Int) ≤ 13 ∧ l.length ≤ 12 ∧ (∀ x ∈ l, 0 ≤ x ∧ x < (mn : Int)) ∧ (txt e c).size = l.length + 1 then
      (impl_Scheme_sum.f k (mn : Int) l ((txt e c).extract 0 l.length)).bind fun s => (impl_Scheme_checks.f k (mn : Int) l s.1).bind fun cs => (strings_IndexByte.f sgN (bt (txt e c) (l.length : Int))).bind fun j => (topO k (mn : Int) l (mn : Int).toNat).bind fun top =>
        if s.2 = (mn : Int) ∧ cs.1.length ≤ 20 ∧ (∀ x ∈ cs.1, 0 ≤ x ∧ x ≤ 10) then
          (if (cs.1.any fun c => decide (j < c)) = true then some ((txt e c).extract 0 l.length ++ sgN.extract ((cs.1.find? fun c => decide (j < c)).getD 0).toNat (((cs.1.find? fun c => decide (j < c)).getD 0).toNat + 1), true) else placeO k (mn : Int) l top (txt e c) l.length)
        else none
    else none)
  else some ((⟨#[]⟩ : ByteArray), false)) r := fun r hr => by
      refine Ev.vbind hq (Ev.pos rfl (Ev.pos hbig ?_))
      rw [← hcut] at hsum
      refine Ev.bind hsum (Ev.bind hchk (Ev.vbind hidx ?_))
      rw [Int.toNat_natCast]
      refine Ev.bind htop (Ev.pos ⟨rfl, hin, hrange⟩ ?_)
      exact hr
    have hdone : ∀ e' c', IsR (mn : Int) l e' c' → rk e c < rk e' c' → (∀ e2 c2, IsR (mn : Int) l e2 c2 → rk e c < rk e2 c2 → rk e' c' ≤ rk e2 c2) →
        Ev (fun k => (spec_ckNumber.f k (mn : Int) l (txt e c)).bind fun t120 => (if t120 = true then ((spec_ckNext.f k (txt e c)).bind fun t121 => (spec_NextRight.l0 k t121 (mn : Int) l)) else (some ((⟨#[]⟩ : ByteArray), false)))) (txt e' c', true) := fun e' c' hR hlt hmin => by
      refine Ev.bind hb (Ev.pos rfl ?_)
      rcases ckNext_ev e c hD (by omega) (by omega) hc with ⟨e2, c2, h1, h2, h3, h4, h5⟩ | ⟨h1, h2⟩
      · exact Ev.bind h1 (spec_some m0 m1 l1 l0 hw hR (rk e' c' - rk e2 c2) e2 c2 (h2.trans he) h3 h4 (by omega) (fun e3 c3 hr3 hle => hmin e3 c3 hr3 (by omega)))
      · have := rk_lt hR.2.1 hR.2.2.1
        rw [hR.1, ← he] at this
        omega
    rcases hfind with ⟨x, x1, x2, x3, x4, x5, x6, x7⟩ | ⟨x1, x2⟩
    · refine ⟨(txt e x, true), hdone e x ⟨he, hD, x1, (check_iff (by omega) _ _).mpr ⟨x2, x3⟩⟩ (by unfold rk; omega) (fun e2 c2 hr2 hlt => ?_), himpl _ (Ev.pos x5 (Ev.val ?_))⟩
      · rcases Nat.lt_trichotomy (nv e2) (nv e) with h1 | h1 | h1
        · have := hr2.2.2.1
          unfold rk at hlt ⊢
          omega
        · have heq : e2 = e := nv_inj _ _ (hr2.1.trans he.symm) hr2.2.1 hD h1
          have h2 := hr2.2.2.2
          rw [heq] at h2
          obtain ⟨h3, h4⟩ := (check_iff (by omega) _ _).mp h2
          have := x7 c2 hr2.2.2.1 h3 h4 (by unfold rk at hlt; rw [heq] at hlt; omega)
          unfold rk
          rw [heq]
          omega
        · unfold rk
          omega
      · rw [x6, Option.getD_some, Int.toNat_natCast, hcut, dtx_sign x1]
    · have hnT : ¬ (T.any fun c_ => decide ((c : Int) < c_)) = true := by rw [x1]; decide
      have hsame : ∀ e2 c2, IsR (mn : Int) l e2 c2 → rk e c < rk e2 c2 → nv e < nv e2 := fun e2 c2 hr2 hlt => by
        rcases Nat.lt_trichotomy (nv e2) (nv e) with h1 | h1 | h1
        · have := hr2.2.2.1
          unfold rk at hlt
          omega
        · have heq : e2 = e := nv_inj _ _ (hr2.1.trans he.symm) hr2.2.1 hD h1
          have h2 := hr2.2.2.2
          rw [heq] at h2
          obtain ⟨h3, h4⟩ := (check_iff (by omega) _ _).mp h2
          exact absurd (by unfold rk at hlt; rw [heq] at hlt; omega) (x2 c2 hr2.2.2.1 h3 h4)
        · exact h1
      have hpl := placeO_ev hm l1 hw e c he hD l.length (by omega) (by rw [← he]; exact he ▸ none_top he)
      rcases hpl with ⟨e', c', h1, h2, h3, h4⟩ | ⟨h1, h2⟩
      · refine ⟨(txt e' c', true), hdone e' c' h2 (by unfold rk; omega) (fun e2 c2 hr2 hlt => h4 e2 c2 hr2 (hsame e2 c2 hr2 hlt)), himpl _ (Ev.neg hnT h1)⟩
      · refine ⟨((⟨#[]⟩ : ByteArray), false), Ev.bind hb (Ev.pos rfl ?_), himpl _ (Ev.neg hnT h1)⟩
        rcases ckNext_ev e c hD (by omega) (by omega) hc with ⟨e2, c2, g1, g2, g3, g4, g5⟩ | ⟨g1, g2⟩
        · have hlt2 := rk_lt g3 g4
          rw [g2, he] at hlt2
          exact Ev.bind g1 (spec_none m0 m1 l1 l0 hw (11 * q10 l.length - 1 - rk e2 c2) e2 c2 (g2.trans he) g3 g4 (by omega) (fun e3 c3 hr3 hle => h2 e3 c3 hr3 (hsame e3 c3 hr3 (by omega))))
        · refine Ev.bind g1 (Ev.step (fun k => by rw [spec_NextRight.l0]) ?_)
          exact Ev.pos (by rw [toList_data]) (Ev.val rfl)
end Go.Proofs.YtepkhpnoibillaaDoor.PA
