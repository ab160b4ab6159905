/- The plain facts that the law FnChecksDoubled's proof leans on, in one text: each part has its own sentence. No condition but bounds. -/
import Derived.Test.YtkplbgeccaadeaaGreatDoorPAx0
import Derived.Test.YtkplbgeccaadeaaGreatDoorPAx1
import Derived.Test.YtkplbgeccaadeaaGreatDoorPAx2
import Derived.Test.YtkplbgeccaadeaaGreatDoorPAx3
import Derived.Test.YtkplbgeccaadeaaGreatDoorPAx4
import Derived.Test.YtkplbgeccaadeaaGreatDoorPAx5
import Derived.Test.YtkplbgeccaadeaaGreatDoorPAx6
import Derived.Test.YtkplbgeccaadeaaGreatDoorPAx7
import Derived.Test.YtkplbgeccaadeaaGreatDoorPAx8
import Derived.Lib.Strings
import Derived.Test.YtkplbgeccaadeaaGreatDoorWWords
import Derived.Test.YtkplbgeccaadeaaGreatDoorWMore
import Derived.Test.YtkplbgeccaadeaaGreatDoorXX
import Derived.Laws.Entries
import Derived.BigQuiet
import Derived.Deep.QuietTactic
import Derived.Deep.RegionHeld3
import Derived.Lib.SplitLaws
import Derived.Lib.IndexBytes
import Derived.Lib.Join
import Derived.Lib.IndexLaws
/-! Plain facts that the laws' pure proofs share: answers from some number of rounds on, numbers without wrap, strings as lists of bytes. No condition. -/
namespace Go.Proofs.YtkplbgeccaadeaaGreatDoor.PA
open Go.RowKit Go.Proofs.YtkplbgeccaadeaaGreatDoorW.PrintWords
set_option linter.unusedVariables false
theorem Ev.pos {α : Type} {c : Prop} [Decidable c] {a b : Nat → Option α} {r : α} (hc : c) (h : Ev a r) : Ev (fun k => if c then a k else b k) r := Ev.congr (fun k => if_pos hc) h
theorem Ev.neg {α : Type} {c : Prop} [Decidable c] {a b : Nat → Option α} {r : α} (hc : ¬ c) (h : Ev b r) : Ev (fun k => if c then a k else b k) r := Ev.congr (fun k => if_neg hc) h
theorem Ev.ite {α : Type} {c : Prop} [Decidable c] {a b : Nat → Option α} {r : α} (h1 : c → Ev a r) (h2 : ¬ c → Ev b r) : Ev (fun k => if c then a k else b k) r := by
  by_cases hc : c
  · exact Ev.pos hc (h1 hc)
  · exact Ev.neg hc (h2 hc)
theorem Ev.val {α : Type} {o : Option α} {r : α} (h : o = some r) : Ev (fun _ => o) r := ⟨0, fun _ _ => h⟩
theorem Ev.vbind {α β : Type} {o : Option α} {f : Nat → α → Option β} {a : α} {r : β} (h : o = some a) (k : Ev (fun n => f n a) r) : Ev (fun n => o.bind (f n)) r := Ev.bind (g := fun _ => o) (Ev.val h) k
theorem Ev.unique {α : Type} {g : Nat → Option α} {a b : α} (h : Ev g a) (k : Ev g b) : a = b := by
  obtain ⟨K, h⟩ := h
  obtain ⟨K', k⟩ := k
  exact Option.some.inj ((h (max K K') (Nat.le_max_left _ _)).symm.trans (k (max K K') (Nat.le_max_right _ _)))
theorem Ev.eq {α : Type} {g : Nat → Option α} {a b : α} (h : Ev g a) (e : a = b) : Ev g b := e ▸ h
theorem wrap_nat {i : Nat} (h : i < 4611686018427387904) : wrap64 ((i : Int) + 1) = ((i + 1 : Nat) : Int) := by unfold wrap64; omega
theorem wrap_in {n : Int} (h : -9223372036854775808 ≤ n) (h2 : n ≤ 9223372036854775807) : wrap64 n = n := by unfold wrap64; omega
theorem rd_nat {l : List Int} {i : Nat} (h : i < l.length) : rd l (i : Int) = l[i] := by simp [rd, h]
theorem rdS_nat {l : List ByteArray} {i : Nat} (h : i < l.length) : rdOf ByteArray.empty l (i : Int) = l[i] := by simp [rdOf, h]
theorem bt_nat {s : ByteArray} {i : Nat} (h : i < s.size) : bt s (i : Int) = ((s.data.toList[i]'(by simpa using h)).toNat : Int) := by
  unfold bt
  rw [dif_pos (by simpa using h)]
  rfl
theorem toList_data (s : ByteArray) : s.toList = s.data.toList := Go.Lib.toList_data s
theorem size_data (s : ByteArray) : s.size = s.data.toList.length := rfl
theorem ba_ext {a b : ByteArray} (h : a.data.toList = b.data.toList) : a = b := by
  cases a with
  | mk a => cases b with
    | mk b => exact congrArg ByteArray.mk (Array.toList_inj.mp h)
theorem toList_inj {a b : ByteArray} : a.toList = b.toList ↔ a = b := ⟨fun h => ba_ext (by rw [← toList_data, ← toList_data, h]), fun h => by rw [h]⟩
theorem data_extract (s : ByteArray) (a b : Nat) : (s.extract a b).data.toList = (s.data.toList.take b).drop a := by
  rw [ByteArray.data_extract, Array.toList_extract, List.extract_eq_take_drop, List.drop_take]
theorem data_append (a b : ByteArray) : (a ++ b).data.toList = a.data.toList ++ b.data.toList := by
  rw [ByteArray.data_append, Array.toList_append]
theorem size_append (a b : ByteArray) : (a ++ b).size = a.size + b.size := by rw [size_data, data_append, List.length_append]; rfl
theorem take_succ_get {α : Type} {l : List α} {i : Nat} (h : i < l.length) : l.take (i + 1) = l.take i ++ [l[i]] := by
  rw [List.take_add_one, List.getElem?_eq_getElem h]; rfl
/-- digits alone -/
def digB (c : UInt8) : Bool := decide (48 ≤ c.toNat) && decide (c.toNat ≤ 57)
def digitsB (s : ByteArray) (lo hi : Int) : Bool := decide (lo ≤ (s.size : Int)) && decide ((s.size : Int) ≤ hi) && s.data.toList.all digB
theorem contains_dig (c : UInt8) : ([48, 49, 50, 51, 52, 53, 54, 55, 56, 57] : List UInt8).contains c = digB c := by
  have h : ∀ n : Fin 256, ([48, 49, 50, 51, 52, 53, 54, 55, 56, 57] : List UInt8).contains (UInt8.ofNat n.val) = digB (UInt8.ofNat n.val) := by decide +kernel
  have := h ⟨c.toNat, c.toNat_lt⟩
  simpa using this
end Go.Proofs.YtkplbgeccaadeaaGreatDoor.PA
/-! What the reference's cursor draws: some number in range; the place goes on. No condition but bounds. -/
namespace Go.Proofs.YtkplbgeccaadeaaGreatDoor.PA
open Go.RowKit Go.Proofs.YtkplbgeccaadeaaGreatDoorW.PrintWords
set_option linter.unusedVariables false
/-- bytes -/
def okC (l : List Int) : Prop := ∀ y ∈ l, 0 ≤ y ∧ y ≤ 255
theorem bits_255 (x : Int) : 0 ≤ Go.bits .and .u64 x 255 ∧ Go.bits .and .u64 x 255 ≤ 255 := by
  have h : (BitVec.ofInt 64 x &&& BitVec.ofInt 64 255).toNat ≤ 255 := by
    rw [BitVec.toNat_and]
    exact Nat.and_le_right
  have e : Go.bits .and .u64 x 255 = IntKind.u64.wrap (((BitVec.ofInt 64 x &&& BitVec.ofInt 64 255).toNat : Nat) : Int) := rfl
  rw [e]
  generalize (BitVec.ofInt 64 x &&& BitVec.ofInt 64 255).toNat = n at h
  have : IntKind.u64.wrap ((n : Nat) : Int) = (n : Int) := by
    simp only [IntKind.wrap_u64]
    omega
  rw [this]
  omega
theorem rd_okC {l : List Int} (h : okC l) (a : Int) (h0 : 0 ≤ a) (h1 : a < l.length) : 0 ≤ rd l a ∧ rd l a ≤ 255 := by
  obtain ⟨i, rfl⟩ := Int.eq_ofNat_of_zero_le h0
  rw [rd_nat (by omega)]
  exact h _ (List.getElem_mem (by omega))
theorem next_ex {l : List Int} (h : okC l) {a s n : Int} (h0 : 0 ≤ a) (h1 : a ≤ n) (hn : n ≤ 2305843009213693952) : ∃ r a' s', spec_l1Cur_next.f l a s = some (r, a', s') ∧ 0 ≤ r ∧ r ≤ 255 ∧ 0 ≤ a' ∧ a' ≤ n + 1 := by
  have hw : wrap64 (a + 1) = a + 1 := wrap_in (by omega) (by omega)
  unfold spec_l1Cur_next.f
  rw [hw]
  by_cases c1 : a < (l.length : Int)
  · have hr := rd_okC h a h0 c1
    rw [if_pos c1, if_pos h0, if_pos (by omega), wrap_in (n := rd l a) (by omega) (by omega)]
    exact ⟨_, _, _, rfl, by omega, by omega, by omega, by omega⟩
  · rw [if_neg c1]
    by_cases c2 : a + 1 ≤ (l.length : Int)
    · rw [if_pos c2]
      exact ⟨_, _, _, rfl, by omega, by omega, by omega, by omega⟩
    · rw [if_neg c2]
      have hb := bits_255 (IntKind.u64.wrap (IntKind.u64.wrap (IntKind.u64.wrap (s * 6364136223846793005)) + 1442695040888963407) / 1099511627776)
      refine ⟨_, _, _, rfl, ?_, ?_, by omega, by omega⟩
      · rw [wrap_in (by omega) (by omega)]
        exact hb.1
      · rw [wrap_in (by omega) (by omega)]
        exact hb.2
theorem pick_ex {l : List Int} (h : okC l) {a s n : Int} (q : Int) (h0 : 0 ≤ a) (h1 : a ≤ n) (hn : n ≤ 1152921504606846976) : ∃ r a' s', spec_l1Cur_pick.f l a s q = some (r, a', s') ∧ 0 ≤ r ∧ (q ≤ 1 → r = 0) ∧ (1 ≤ q → r < q) ∧ 0 ≤ a' ∧ a' ≤ n + 2 := by
  unfold spec_l1Cur_pick.f
  by_cases c1 : q ≤ 1
  · rw [if_pos c1]
    exact ⟨0, a, s, rfl, by omega, by omega, by omega, h0, by omega⟩
  · rw [if_neg c1]
    obtain ⟨r, a1, s1, e1, r0, r1, b0, b1⟩ := next_ex h (s := s) h0 h1 (by omega)
    rw [e1, Option.bind_some]
    by_cases c2 : q > 200
    · rw [if_pos c2]
      obtain ⟨r2, a2, s2, e2, p0, p1, d0, d1⟩ := next_ex h (s := s1) b0 b1 (by omega)
      simp only
      rw [e2, Option.bind_some, if_neg (by omega)]
      have hw : wrap64 (wrap64 (r * 256) + r2) = r * 256 + r2 := by rw [wrap_in (n := r * 256) (by omega) (by omega), wrap_in (by omega) (by omega)]
      refine ⟨_, _, _, rfl, ?_, by omega, fun _ => ?_, d0, by show a2 ≤ n + 2; omega⟩
      · rw [hw]
        exact Int.tmod_nonneg _ (by omega)
      · exact Int.tmod_lt_of_pos _ (by omega)
    · rw [if_neg c2, if_neg (by omega)]
      exact ⟨_, _, _, rfl, Int.tmod_nonneg _ r0, by omega, fun _ => Int.tmod_lt_of_pos _ (by omega), b0, by show a1 ≤ n + 2; omega⟩
theorem one_ex {l : List Int} (h : okC l) {a s n : Int} (q : Int) (h0 : 0 ≤ a) (h1 : a ≤ n) (hn : n ≤ 1152921504606846976) : ∃ r a' s', spec_l1Cur_one.f l a s q = some (r, a', s') ∧ 0 ≤ a' ∧ a' ≤ n + 2 := by
  obtain ⟨r, a1, s1, e1, _, _, _, b0, b1⟩ := pick_ex h (s := s) q h0 h1 hn
  unfold spec_l1Cur_one.f
  rw [e1]
  exact ⟨_, _, _, rfl, b0, b1⟩
theorem of_ex {l : List Int} (h : okC l) {a s n : Int} (ts : List ByteArray) (ht : 1 ≤ ts.length) (hl : ts.length ≤ 1000) (h0 : 0 ≤ a) (h1 : a ≤ n) (hn : n ≤ 1152921504606846976) : ∃ r a' s', spec_l1Cur_of.f l a s ts = some (r, a', s') ∧ r ∈ ts ∧ 0 ≤ a' ∧ a' ≤ n + 2 := by
  obtain ⟨r, a1, s1, e1, r0, _, r2, b0, b1⟩ := pick_ex h (s := s) (ts.length : Int) h0 h1 hn
  unfold spec_l1Cur_of.f
  rw [e1, Option.bind_some, if_pos r0, if_pos (r2 (by omega))]
  obtain ⟨i, hi⟩ := Int.eq_ofNat_of_zero_le r0
  subst hi
  have hlt : i < ts.length := by have := r2 (by omega); omega
  exact ⟨_, _, _, rfl, by rw [rdS_nat hlt]; exact List.getElem_mem hlt, b0, b1⟩
theorem among_ex {l : List Int} (h : okC l) {a s n : Int} (ts : List Int) (ht : 1 ≤ ts.length) (hl : ts.length ≤ 1000) (h0 : 0 ≤ a) (h1 : a ≤ n) (hn : n ≤ 1152921504606846976) : ∃ r a' s', spec_l1Cur_among.f l a s ts = some (r, a', s') ∧ r ∈ ts ∧ 0 ≤ a' ∧ a' ≤ n + 2 := by
  obtain ⟨r, a1, s1, e1, r0, _, r2, b0, b1⟩ := pick_ex h (s := s) (ts.length : Int) h0 h1 hn
  unfold spec_l1Cur_among.f
  rw [e1, Option.bind_some, if_pos r0, if_pos (r2 (by omega))]
  obtain ⟨i, hi⟩ := Int.eq_ofNat_of_zero_le r0
  subst hi
  have hlt : i < ts.length := by have := r2 (by omega); omega
  exact ⟨_, _, _, rfl, by rw [rd_nat hlt]; exact List.getElem_mem hlt, b0, b1⟩
theorem num_1 : ∀ d : Fin 10, ∃ t, spec_l1Num.f 1 (d.val : Int) = some t ∧ t.size = 1 := by
  intro d
  have h : ∀ d : Fin 10, spec_l1Num.f 1 (d.val : Int) = some (⟨#[UInt8.ofNat (48 + d.val)]⟩ : ByteArray) := by decide +kernel
  exact ⟨_, h d, rfl⟩
theorem digits_l0_ex {l : List Int} (h : okC l) : ∀ (q : Nat) (x : ByteArray) (a s n : Int), 0 ≤ a → a ≤ n → q ≤ 1000 → n + 2 * q ≤ 1000000 → x.size + q ≤ 1000000 → ∃ t a' s', Ev (fun k => spec_l1Cur_digits.l0 k (q : Int) x l a s) (t, a', s') ∧ t.size = x.size + q ∧ 0 ≤ a' ∧ a' ≤ n + 2 * q
  | 0, x, a, s, n, h0, h1, hq, hn, hx => by
    refine ⟨x, a, s, ?_, by omega, h0, by omega⟩
    refine Ev.step (fun k => by rw [spec_l1Cur_digits.l0]) ?_
    exact Ev.neg (by omega) (Ev.val rfl)
  | q + 1, x, a, s, n, h0, h1, hq, hn, hx => by
    obtain ⟨r, a1, s1, e1, r0, _, r2, b0, b1⟩ := pick_ex h (s := s) 10 h0 h1 (by omega)
    have hr := r2 (by omega)
    obtain ⟨t, ht, hz⟩ := num_1 ⟨r.toNat, by omega⟩
    have ht2 : Ev (fun k => spec_l1Num.f k r) t := by
      refine ⟨1, fun k hk => ?_⟩
      have := leO_add (fun k => spec_l1Num.mono r k) (k := 1) (r := t) (by simpa [Int.toNat_of_nonneg r0] using ht) (k - 1)
      rwa [show 1 + (k - 1) = k by omega] at this
    have hw : wrap64 (((q + 1 : Nat) : Int) - 1) = (q : Int) := by rw [wrap_in (by omega) (by omega)]; omega
    obtain ⟨t2, a2, s2, e2, z2, d0, d1⟩ := digits_l0_ex h q (x ++ t) a1 s1 (n + 2) b0 b1 (by omega) (by omega) (by rw [size_append]; omega)
    refine ⟨t2, a2, s2, ?_, by rw [z2, size_append]; omega, d0, by omega⟩
    refine Ev.step (fun k => by rw [spec_l1Cur_digits.l0]) ?_
    refine Ev.pos (by omega) (Ev.vbind e1 (Ev.bind ht2 (Ev.pos (by omega) ?_)))
    rw [hw]
    exact e2
theorem digits_ex {l : List Int} (h : okC l) (q : Nat) (a s n : Int) (h0 : 0 ≤ a) (h1 : a ≤ n) (hq : q ≤ 1000) (hn : n ≤ 100000) : ∃ t a' s', Ev (fun k => spec_l1Cur_digits.f k l a s (q : Int)) (t, a', s') ∧ t.size = q ∧ 0 ≤ a' ∧ a' ≤ n + 2 * q := by
  obtain ⟨t, a', s', e, hz, b0, b1⟩ := digits_l0_ex h q (⟨#[]⟩ : ByteArray) a s n h0 h1 hq (by omega) (by show 0 + q ≤ _; omega)
  exact ⟨t, a', s', e, by rw [hz]; show 0 + q = q; omega, b0, b1⟩
end Go.Proofs.YtkplbgeccaadeaaGreatDoor.PA
/-! A text that the reference spoils: some other text, not much longer; the cursor goes on. No condition but bounds. -/
namespace Go.Proofs.YtkplbgeccaadeaaGreatDoor.PA
open Go.RowKit Go.Proofs.YtkplbgeccaadeaaGreatDoorW.PrintWords Go.Proofs.YtkplbgeccaadeaaGreatDoorW.PrintLast Go.Proofs.YtkplbgeccaadeaaGreatDoorW.PrintMore
attribute [local go_sem] max2_int min2_int max_two min_two max_three min_three max_four min_four
set_option linter.unusedVariables false
set_option linter.unusedSimpArgs false
/-- where the cursor stands: some bytes, not many of them taken -/
def CurA (w0 W : World) (g : Nat) (n : Int) : Prop := ∃ l a s, IsS80 w0 W g l a s ∧ okC l ∧ 0 ≤ a ∧ a ≤ n
theorem CurA.more {w0 W : World} {g : Nat} {n m : Int} (h : CurA w0 W g n) (hm : n ≤ m) : CurA w0 W g m := by
  obtain ⟨l, a, s, h1, h2, h3, h4⟩ := h
  exact ⟨l, a, s, h1, h2, h3, by omega⟩
theorem CurA.below {w0 W W' : World} {g : Nat} {n : Int} (h : CurA w0 W g n) (hb : Below W.heap.size W W') : CurA w0 W' g n := by
  obtain ⟨l, a, s, h1, h2, h3, h4⟩ := h
  exact ⟨l, a, s, h1.below hb, h2, h3, h4⟩
theorem pick_any {w0 w : World} {g : Nat} {n : Int} (q : Int) (h : CurA w0 w g n) (hn : n ≤ 1000000) (hB : Below w0.heap.size w0 w) :
    Calls Tryz.prog 85 #[.pointer (some ⟨g, 0, none⟩), .int .i64 q] w fun e w' => ∃ r : Int, e = .returned (.int .i64 r) ∧ 0 ≤ r ∧ (q ≤ 1 → r = 0) ∧ (1 ≤ q → r < q) ∧ CurA w0 w' g (n + 2) ∧ Below w0.heap.size w0 w' ∧ KeepBut w w' g none := by
  obtain ⟨l, a, s, h1, h2, h3, h4⟩ := h
  obtain ⟨r, a', s', e, r0, r1, r2, b0, b1⟩ := pick_ex h2 (s := s) q h3 h4 (by omega)
  refine (spec_l1Cur_pick.calls g l a s q r a' s' w0 w h1 hB e).mono ?_
  rintro e w' ⟨rfl, hI, hb, hk⟩
  exact ⟨r, rfl, r0, r1, r2, ⟨l, a', s', hI, h2, b0, b1⟩, hb, hk⟩
theorem one_any {w0 w : World} {g : Nat} {n : Int} (q : Int) (h : CurA w0 w g n) (hn : n ≤ 1000000) (hB : Below w0.heap.size w0 w) :
    Calls Tryz.prog 80 #[.pointer (some ⟨g, 0, none⟩), .int .i64 q] w fun e w' => ∃ r : Bool, e = .returned (.bool r) ∧ CurA w0 w' g (n + 2) ∧ Below w0.heap.size w0 w' ∧ KeepBut w w' g none := by
  obtain ⟨l, a, s, h1, h2, h3, h4⟩ := h
  obtain ⟨r, a', s', e, b0, b1⟩ := one_ex h2 (s := s) q h3 h4 (by omega)
  refine (spec_l1Cur_one.calls g l a s q r a' s' w0 w h1 hB e).mono ?_
  rintro e w' ⟨rfl, hI, hb, hk⟩
  exact ⟨r, rfl, ⟨l, a', s', hI, h2, b0, b1⟩, hb, hk⟩
theorem of_any {w0 w : World} {g : Nat} {n : Int} {A : Option Addr} {c : Nat} (ts : List ByteArray) (ht : 1 ≤ ts.length) (hl : ts.length ≤ 1000) (hC : Kd.C Kd.string w A ts.length ts) (hc : ts.length ≤ c) (hf : ∀ ad, A = some ad → 0 < ts.length → ad.block ≠ g) (h : CurA w0 w g n) (hn : n ≤ 1000000) (hB : Below w0.heap.size w0 w) :
    Calls Tryz.prog 81 #[.pointer (some ⟨g, 0, none⟩), .slice A ts.length c] w fun e w' => ∃ r, e = .returned (.string r) ∧ r ∈ ts ∧ CurA w0 w' g (n + 2) ∧ Below w0.heap.size w0 w' ∧ KeepBut w w' g none := by
  obtain ⟨l, a, s, h1, h2, h3, h4⟩ := h
  obtain ⟨r, a', s', e, hr, b0, b1⟩ := of_ex h2 (s := s) ts ht hl h3 h4 (by omega)
  refine (spec_l1Cur_of.calls g l a s A c ts r a' s' w0 w h1 hB hC hc hf e).mono ?_
  rintro e w' ⟨rfl, hI, hb, hk⟩
  exact ⟨r, rfl, hr, ⟨l, a', s', hI, h2, b0, b1⟩, hb, hk⟩
theorem digits_any {w0 w : World} {g : Nat} {n : Int} (q : Nat) (hq : q ≤ 1000) (h : CurA w0 w g n) (hn : n ≤ 100000) (hB : Below w0.heap.size w0 w) :
    Calls Tryz.prog 79 #[.pointer (some ⟨g, 0, none⟩), .int .i64 (q : Int)] w fun e w' => ∃ r, e = .returned (.string r) ∧ r.size = q ∧ CurA w0 w' g (n + 2 * q) ∧ Below w0.heap.size w0 w' ∧ KeepBut w w' g none := by
  obtain ⟨l, a, s, h1, h2, h3, h4⟩ := h
  obtain ⟨t, a', s', ⟨k, e⟩, hz, b0, b1⟩ := digits_ex h2 q a s n h3 h4 hq hn
  refine (spec_l1Cur_digits.calls k g l a s (q : Int) t a' s' w0 w h1 hB (e k (Nat.le_refl _))).mono ?_
  rintro e w' ⟨rfl, hI, hb, hk⟩
  exact ⟨t, rfl, hz, ⟨l, a', s', hI, h2, b0, b1⟩, hb, hk⟩
end Go.Proofs.YtkplbgeccaadeaaGreatDoor.PA
/-! A text that the reference spoils: some other text, not much longer; the cursor goes on. No condition but bounds. -/
namespace Go.Proofs.YtkplbgeccaadeaaGreatDoor.PA
open Go.RowKit Go.Proofs.YtkplbgeccaadeaaGreatDoorW.PrintWords Go.Proofs.YtkplbgeccaadeaaGreatDoorW.PrintLast Go.Proofs.YtkplbgeccaadeaaGreatDoorW.PrintMore
attribute [local go_sem] max2_int min2_int max_two min_two max_three min_three max_four min_four
set_option linter.unusedVariables false
set_option linter.unusedSimpArgs false
theorem spoil_sizes (x y : ByteArray) (i q n : Nat) (hi : i < x.size) (hy : y.size = 1) (hq : 0 < q) (hx : x.size + q ≤ n) :
    (x.extract 0 i ++ y ++ x.extract i x.size).size + (q - 1) ≤ n ∧ (x.extract 0 i ++ y ++ x.extract (i + 1) x.size).size + (q - 1) ≤ n ∧ (x.extract 0 i ++ x.extract (i + 1) x.size).size + (q - 1) ≤ n := by
  have e1 : (x.extract 0 i).size = i := by rw [ByteArray.size_extract]; omega
  have e2 : (x.extract i x.size).size = x.size - i := by rw [ByteArray.size_extract]; omega
  have e3 : (x.extract (i + 1) x.size).size = x.size - (i + 1) := by rw [ByteArray.size_extract]; omega
  refine ⟨?_, ?_, ?_⟩
  · rw [ByteArray.size_append, ByteArray.size_append]; omega
  · rw [ByteArray.size_append, ByteArray.size_append]; omega
  · rw [ByteArray.size_append]; omega
set_option maxHeartbeats 16000000 in
set_option maxRecDepth 100000 in
theorem spoilt_any {w0 w : World} {g : Nat} {n : Int} (t wi : ByteArray) (ht : t.size ≤ 1000) (hwi : 1 ≤ wi.size ∧ wi.size ≤ 100) (h : CurA w0 w g n) (hn : n ≤ 100000) (hB : Below w0.heap.size w0 w) :
    Calls Tryz.prog 105 #[.pointer (some ⟨g, 0, none⟩), .string t, .string wi] w fun e w' => ∃ r, e = .returned (.string r) ∧ r.size ≤ t.size + 2 ∧ CurA w0 w' g (n + 20) ∧ Below w0.heap.size w0 w' ∧ KeepBut w w' g none := by
  have h1 := pick_any 2 h (by omega) hB
  clear h hB
  go_enter Tryz.func105, Tryz.ntmps105
  go_wp2_with fail
  refine h1.mono ?_
  rintro e w1 ⟨r, rfl, r0, -, r2, hc1, hb1, hk1⟩
  clear h1
  obtain ⟨q0, hq0⟩ : ∃ q0 : Nat, r = (q0 : Int) := ⟨r.toNat, by omega⟩
  subst hq0
  have hq1 : q0 < 2 := by have := r2 (by omega); omega
  have hw1 : IntKind.i64.wrap (1 + (q0 : Int)) = ((q0 + 1 : Nat) : Int) := by rw [IntKind.wrap_i64]; omega
  have HC1 := Aside0.mk hc1
  have HB1 := Aside0.mk hb1
  have HK1 := Aside0.mk hk1
  clear hc1 hb1 hk1 r0 r2
  go_wp2
  go_loopg [1, 7] 3 (fun gg s1 s7 wr => ∃ (x : ByteArray) (q : Nat), s1 = .string x ∧ s7 = .int .i64 (q : Int) ∧ q ≤ 2 ∧ q ≤ gg ∧ Aside0 (x.size + q ≤ t.size + 2) ∧ Aside0 (CurA w0 wr g (n + 2 + 6 * (2 - (q : Int)))) ∧ Aside0 (Below w0.heap.size w0 wr) ∧ Aside0 (KeepBut w wr g none))
  case atStart => exact ⟨t, q0 + 1, rfl, rfl, by omega, by omega, ⟨by omega⟩, ⟨HC1.out.more (by omega)⟩, HB1, HK1⟩
  case round =>
    clear HC1 HB1 HK1
    obtain ⟨x, q, rfl, rfl, hq2, hgg, HX, HC, HB, HK⟩ := hrel
    by_cases hq : 0 < q ∧ 0 < x.size
    · obtain ⟨hqa, hqb⟩ := hq
      have z1 : decide (0 < (q : Int)) = true := decide_eq_true (by omega)
      have z2 : decide (0 < (x.size : Int)) = true := decide_eq_true (by omega)
      have z3 : (0 : Int) < (q : Int) := by omega
      have z4 : (0 : Int) < (x.size : Int) := by omega
      have hp1 := pick_any (w0 := w0) (w := wr) (g := g) (x.size : Int) HC.out (by omega) HB.out
      go_wp2_with fail
      refine hp1.mono ?_
      rintro e w2 ⟨i, rfl, i0, -, i2, hc2, hb2, hk2⟩
      clear hp1
      have hp2 := pick_any (w0 := w0) (w := w2) (g := g) (wi.size : Int) hc2 (by omega) hb2
      go_wp2_with fail
      refine hp2.mono ?_
      rintro e w3 ⟨j, rfl, j0, -, j2, hc3, hb3, hk3⟩
      clear hp2
      obtain ⟨i, rfl⟩ : ∃ i' : Nat, i = (i' : Int) := ⟨i.toNat, by omega⟩
      obtain ⟨j, rfl⟩ : ∃ j' : Nat, j = (j' : Int) := ⟨j.toNat, by omega⟩
      have hi : i < x.size := by have := i2 (by omega); omega
      have hj : j < wi.size := by have := j2 (by omega); omega
      clear i2 j2 i0 j0 hc2 hb2
      have HB3 := Aside0.mk hb3
      have HC3 := Aside0.mk hc3
      have HK3 := Aside0.mk ((HK.out.trans hk2 (Or.inl rfl)).trans hk3 (Or.inl rfl))
      clear hk2 hk3 hb3 hc3 HB HK HC
      go_wp2_with (first | ((with_reducible refine gate_dst (N := 32) rfl ?_); refine Kd.R_lit (Kd.int .u8) _ 5 ?hg (N := 32) ?hd (xs := ([(wi[j].toNat : Int)] : List Int)) (inner := [.int .u8 (wi[j].toNat : Int)]) (ok := fun _ => True) (okp := fun _ => True) ?hr ?hp (fun _ hk => hk) trivial (Below.refl _ _) (Nat.le_refl _) (by simp) ?_; (case hd => rfl); (case hg => rfl); (case hr => first | (go_simp; done) | (go_simp; rfl)); (case hp => exact (Reps.one (show Kd.M (Kd.int .u8) _ _ _ (wi[j].toNat : Int) [.int .u8 (wi[j].toNat : Int)] from rfl) (Reps.none _ _))); intro v232 w4 ho4 hb4 hg_ hnew_; clear hg_ hnew_; have HB4 := Aside0.mk (below_step HB3.out hb4); have HC4 := Aside0.mk (HC3.out.below hb4); have HK4 := Aside0.mk (HK3.out.trans (KeepBut.of_below hb4 g none) (Or.inl rfl)); have hcv5 := own_string (P := Tryz.prog) Tryz.underlying22 Tryz.underlying5 Tryz.underlying9 (Kd.own_of_R ho4)))
      have hp3 := pick_any (w0 := w0) (w := w4) (g := g) 3 HC4.out (by omega) HB4.out
      refine hp3.mono ?_
      rintro e w5 ⟨d, rfl, d0, -, d2, hc5, hb5, hk5⟩
      clear hp3
      have HC5 := Aside0.mk hc5
      have HB5 := Aside0.mk hb5
      have HK5 := Aside0.mk (HK4.out.trans hk5 (Or.inl rfl))
      have hd3 : d < 3 := d2 (by omega)
      clear hc5 hb5 hk5 HC4 HB4 HK4 HC3 HB3 HK3 d2 hcv5 ho4 hb4
      obtain ⟨y, hy⟩ : ∃ y : ByteArray, y = strOfNums [(wi[j].toNat : Int)] := ⟨_, rfl⟩
      have hys : y.size = 1 := by rw [hy]; simp [strOfNums]; rfl
      rw [← hy]
      clear hy
      have hxs := HX.out
      have hd : d = 0 ∨ d = 1 ∨ d = 2 := by omega
      have hX1 : x.size ≤ 1002 := by omega
      have hsz := Aside0.mk (spoil_sizes x y i q _ hi hys hqa hxs)
      have hw7 : IntKind.i64.wrap ((q : Int) - 1) = ((q - 1 : Nat) : Int) := by rw [IntKind.wrap_i64]; omega
      have HN := Aside0.mk (show i < x.size ∧ x.size ≤ 1002 ∧ y.size = 1 ∧ 0 < q ∧ q ≤ 2 from ⟨hi, hX1, hys, hqa, hq2⟩)
      have hin : (i : Int).toNat = i := Int.toNat_natCast i
      rw [← hin] at hsz
      generalize hxi : (i : Int) = xi at hsz hin ⊢
      obtain ⟨jk, hjk⟩ : ∃ j_ : Int, IntKind.i64.wrap (xi + 1) = j_ := ⟨_, rfl⟩
      have hke : jk = xi + 1 := by rw [← hjk, IntKind.wrap_i64]; omega
      have HF := Aside0.mk (show 0 ≤ xi ∧ xi.toNat = i ∧ jk = xi + 1 ∧ jk.toNat = xi.toNat + 1 from ⟨by omega, hin, hke, by omega⟩)
      rw [show xi.toNat + 1 = jk.toNat by omega] at hsz
      clear hi hX1 hys hxs hin hxi hke z3 z4 hq2 hqa hqb
      have z1 : (0 ≤ xi) = True := eq_true (by have := HN.out; have := HF.out; omega)
      have z2 : (xi ≤ (x.size : Int)) = True := eq_true (by have := HN.out; have := HF.out; omega)
      have z3 : (0 ≤ jk) = True := eq_true (by have := HN.out; have := HF.out; omega)
      have z4 : (jk ≤ (x.size : Int)) = True := eq_true (by have := HN.out; have := HF.out; omega)
      have y1 : decide (0 ≤ xi) = true := decide_eq_true (by have := HN.out; have := HF.out; omega)
      have y2 : decide (xi ≤ (x.size : Int)) = true := decide_eq_true (by have := HN.out; have := HF.out; omega)
      have y3 : decide (0 ≤ jk) = true := decide_eq_true (by have := HN.out; have := HF.out; omega)
      have y4 : decide (jk ≤ (x.size : Int)) = true := decide_eq_true (by have := HN.out; have := HF.out; omega)
      have s1 : (9223372036854775807 < xi.toNat + y.size) = False := eq_false (by have := HN.out; have := HF.out; omega)
      have s2 : (9223372036854775807 < xi.toNat + y.size + (x.size - xi.toNat)) = False := eq_false (by have := HN.out; have := HF.out; omega)
      have s3 : (9223372036854775807 < xi.toNat + y.size + (x.size - jk.toNat)) = False := eq_false (by have := HN.out; have := HF.out; omega)
      have s4 : (9223372036854775807 < xi.toNat + (x.size - jk.toNat)) = False := eq_false (by have := HN.out; have := HF.out; omega)
      rcases hd with rfl | rfl | rfl
      · go_wp2
        go_quiet (fail)
        go_wp2
        go_roundg (q - 1)
        case measure => have := HN.out; omega
        case rel => exact ⟨_, q - 1, rfl, (by rw [← hw7]), by have := HN.out; omega, Nat.le_refl _, ⟨hsz.out.1⟩, ⟨(HC5.out.below (by repeat (first | exact Below.refl _ _ | apply pw_below_drewN | apply below_drew1))).more (by have := HN.out; omega)⟩, ⟨by repeat (first | exact HB5.out | apply pw_below_drewN | apply below_drew1)⟩, ⟨HK5.out.trans (KeepBut.of_below (by repeat (first | exact Below.refl _ _ | apply pw_below_drewN | apply below_drew1)) g none) (Or.inl rfl)⟩⟩
      · go_wp2
        go_quiet (fail)
        go_wp2
        go_roundg (q - 1)
        case measure => have := HN.out; omega
        case rel => exact ⟨_, q - 1, rfl, (by rw [← hw7]), by have := HN.out; omega, Nat.le_refl _, ⟨hsz.out.2.1⟩, ⟨(HC5.out.below (by repeat (first | exact Below.refl _ _ | apply pw_below_drewN | apply below_drew1))).more (by have := HN.out; omega)⟩, ⟨by repeat (first | exact HB5.out | apply pw_below_drewN | apply below_drew1)⟩, ⟨HK5.out.trans (KeepBut.of_below (by repeat (first | exact Below.refl _ _ | apply pw_below_drewN | apply below_drew1)) g none) (Or.inl rfl)⟩⟩
      · go_wp2
        go_quiet (fail)
        go_wp2
        go_roundg (q - 1)
        case measure => have := HN.out; omega
        case rel => exact ⟨_, q - 1, rfl, (by rw [← hw7]), by have := HN.out; omega, Nat.le_refl _, ⟨hsz.out.2.2⟩, ⟨(HC5.out.below (by repeat (first | exact Below.refl _ _ | apply pw_below_drewN | apply below_drew1))).more (by have := HN.out; omega)⟩, ⟨by repeat (first | exact HB5.out | apply pw_below_drewN | apply below_drew1)⟩, ⟨HK5.out.trans (KeepBut.of_below (by repeat (first | exact Below.refl _ _ | apply pw_below_drewN | apply below_drew1)) g none) (Or.inl rfl)⟩⟩
    · have HX2 := HX.out
      by_cases hqa : 0 < q
      · have z1 : decide (0 < (q : Int)) = true := decide_eq_true (by omega)
        have z2 : decide (0 < (x.size : Int)) = false := decide_eq_false (by omega)
        have z3 : (0 : Int) < (q : Int) := by omega
        have z4 : ¬ (0 : Int) < (x.size : Int) := by omega
        clear hq
        go_wp2
        go_ret
        exact ⟨x, rfl, by omega, HC.out.more (by omega), HB.out, HK.out⟩
      · have z1 : decide (0 < (q : Int)) = false := decide_eq_false (by omega)
        have z3 : ¬ (0 : Int) < (q : Int) := by omega
        clear hq
        go_wp2
        go_ret
        exact ⟨x, rfl, by omega, HC.out.more (by omega), HB.out, HK.out⟩
end Go.Proofs.YtkplbgeccaadeaaGreatDoor.PA
/-! What the reference draws for a scheme: at most six weights, whatever they are. No condition but bounds. -/
namespace Go.Proofs.YtkplbgeccaadeaaGreatDoor.PA
open Go.RowKit Go.Proofs.YtkplbgeccaadeaaGreatDoorW.PrintWords
set_option linter.unusedVariables false
theorem sure_l0_ex {l : List Int} (h : okC l) (m : Int) (hm : 1 ≤ m) : ∀ (q : Nat) (a s n : Int) (ws : List Int), 0 ≤ a → a ≤ n → q ≤ 1000 → n + 2 * q ≤ 1000000 → ws.length + q ≤ 1000 → (∀ w ∈ ws, 0 ≤ w ∧ w < m) →
    ∃ vs a' s', Ev (fun k => spec_l1Cur_sureScheme.l0 k (q : Int) l a s m ws) (m, vs, a', s') ∧ vs.length = ws.length + q ∧ (∀ w ∈ vs, 0 ≤ w ∧ w < m) ∧ 0 ≤ a' ∧ a' ≤ n + 2 * q := by
  intro q
  induction q with
  | zero =>
    intro a s n ws h0 h1 hq hn hl hw
    refine ⟨ws, a, s, ?_, rfl, hw, h0, by omega⟩
    refine Ev.step (fun k => by rw [spec_l1Cur_sureScheme.l0]) ?_
    exact Ev.neg (by omega) (Ev.val rfl)
  | succ q ih =>
    intro a s n ws h0 h1 hq hn hl hw
    have hwr : wrap64 (((q + 1 : Nat) : Int) - 1) = (q : Int) := by rw [wrap_in (by omega) (by omega)]; omega
    have c0 : ((q + 1 : Nat) : Int) > 0 := by omega
    have c1 : ws.length < 17592186044416 := by omega
    have c2 : (ws ++ [(0 : Int)]).length + q ≤ 1000 := by rw [List.length_append]; simp; omega
    obtain ⟨r, a1, s1, e1, r0, _, r2, b0, b1⟩ := pick_ex h (s := s) m h0 h1 (by omega)
    have hr := r2 hm
    obtain ⟨vs, a2, s2, e2, z1, z2, z3, z4⟩ := ih a1 s1 (n + 2) (ws ++ [r]) b0 b1 (by omega) (by omega) (by rw [List.length_append] at c2 ⊢; exact c2) (fun w hx => by
      rcases List.mem_append.mp hx with hx | hx
      · exact hw w hx
      · rw [List.mem_singleton.mp hx]
        exact ⟨r0, hr⟩)
    refine ⟨vs, a2, s2, ?_, by rw [z1, List.length_append]; simp; omega, z2, z3, by omega⟩
    refine Ev.step (fun k => by rw [spec_l1Cur_sureScheme.l0]) ?_
    rw [hwr]
    refine Ev.pos c0 ?_
    refine Ev.vbind e1 ?_
    refine Ev.pos c1 ?_
    exact e2
theorem sure_ex {l : List Int} (h : okC l) {a s n : Int} (h0 : 0 ≤ a) (h1 : a ≤ n) (hn : n ≤ 1000) :
    ∃ m vs a' s', Ev (fun k => spec_l1Cur_sureScheme.f k l a s) (m, vs, a', s') ∧ 2 ≤ m ∧ m ≤ 13 ∧ 1 ≤ vs.length ∧ vs.length ≤ 6 ∧ (∀ w ∈ vs, 0 ≤ w ∧ w < m) ∧ 0 ≤ a' ∧ a' ≤ n + 16 := by
  obtain ⟨m, a1, s1, e1, m1, b0, b1⟩ := among_ex h (s := s) [10, 10, 11, 11, 7, 9, 13, 2] (by decide) (by decide) h0 h1 (by omega)
  have hm : 2 ≤ m ∧ m ≤ 13 := by
    simp only [List.mem_cons, List.not_mem_nil, or_false] at m1
    omega
  obtain ⟨r, a2, s2, e2, r0, _, r2, d0, d1⟩ := pick_ex h (s := s1) 6 b0 b1 (by omega)
  have hr := r2 (by omega)
  obtain ⟨q, hq⟩ : ∃ q : Nat, 1 + r = (q : Int) := ⟨(1 + r).toNat, by omega⟩
  obtain ⟨vs, a3, s3, e3, z1, z2, z3, z4⟩ := sure_l0_ex h m (by omega) q a2 s2 (n + 4) [] d0 (by omega) (by omega) (by omega) (by show 0 + q ≤ 1000; omega) (fun w hx => by cases hx)
  have hl : vs.length = q := by rw [z1]; show 0 + q = q; omega
  refine ⟨m, vs, a3, s3, ?_, hm.1, hm.2, by omega, by omega, z2, z3, by omega⟩
  unfold spec_l1Cur_sureScheme.f
  refine Ev.vbind e1 ?_
  refine Ev.vbind e2 ?_
  rw [show wrap64 (1 + r) = (q : Int) by rw [wrap_in (by omega) (by omega)]; exact hq]
  exact e3
theorem scheme_ex {l : List Int} (h : okC l) {a s n : Int} (h0 : 0 ≤ a) (h1 : a ≤ n) (hn : n ≤ 900) :
    ∃ m vs a' s', Ev (fun k => spec_l1Cur_scheme.f k l a s) (m, vs, a', s') ∧ vs.length ≤ 6 ∧ 0 ≤ a' ∧ a' ≤ n + 30 := by
  obtain ⟨m, vs, a1, s1, e1, m0, m1, v0, v1, hw, b0, b1⟩ := sure_ex h (s := s) h0 h1 (by omega)
  obtain ⟨r, a2, s2, e2, r0, _, r2, d0, d1⟩ := pick_ex h (s := s1) 16 b0 b1 (by omega)
  unfold spec_l1Cur_scheme.f
  by_cases c0 : r = 0
  · obtain ⟨x, a3, s3, e3, _, f0, f1⟩ := among_ex h (s := s2) [0, 1, (-1), 14, 4611686018427387904] (by decide) (by decide) d0 d1 (by omega)
    refine ⟨x, vs, a3, s3, ?_, v1, f0, by omega⟩
    refine Ev.bind e1 ?_
    refine Ev.vbind e2 ?_
    refine Ev.pos c0 ?_
    exact Ev.vbind e3 (Ev.val rfl)
  · by_cases c1 : r = 1
    · obtain ⟨x, a3, s3, e3, _, f0, f1⟩ := among_ex h (s := s2) [(-1), m, 4611686018427387904] (by simp) (by simp) d0 d1 (by omega)
      refine ⟨m, vs.set (0 : Int).toNat x, a3, s3, ?_, by rw [List.length_set]; exact v1, f0, by omega⟩
      refine Ev.bind e1 ?_
      refine Ev.vbind e2 ?_
      refine Ev.neg c0 ?_
      refine Ev.pos c1 ?_
      refine Ev.vbind e3 ?_
      exact Ev.pos (by show 0 < (vs.length : Int); omega) (Ev.val rfl)
    · by_cases c2 : r = 2
      · refine ⟨m, [], a2, s2, ?_, by simp, d0, by omega⟩
        refine Ev.bind e1 ?_
        refine Ev.vbind e2 ?_
        refine Ev.neg c0 ?_
        refine Ev.neg c1 ?_
        exact Ev.pos c2 (Ev.val rfl)
      · refine ⟨m, vs, a2, s2, ?_, v1, d0, by omega⟩
        refine Ev.bind e1 ?_
        refine Ev.vbind e2 ?_
        refine Ev.neg c0 ?_
        refine Ev.neg c1 ?_
        exact Ev.neg c2 (Ev.val rfl)
theorem drawScheme_ex {l : List Int} (h : okC l) : ∃ m vs, Ev (fun k => spec_DrawCountRight.f k l) (m, vs) ∧ vs.length ≤ 6 := by
  obtain ⟨m, vs, a', s', e, hl, _⟩ := scheme_ex h (a := 0) (s := 0) (n := 0) (by omega) (by omega) (by omega)
  refine ⟨m, vs, ?_, hl⟩
  unfold spec_DrawCountRight.f spec_DrawIsScheme.f
  refine Ev.bind (a := (m, vs)) ?_ (Ev.val rfl)
  refine Ev.vbind rfl ?_
  exact Ev.bind e (Ev.val rfl)
end Go.Proofs.YtkplbgeccaadeaaGreatDoor.PA
/-! A text cut at one byte: the library's pieces, told along the text. No condition. -/
namespace Go.Proofs.YtkplbgeccaadeaaGreatDoor.PA
open Go.RowKit Go.Proofs.YtkplbgeccaadeaaGreatDoorW.PrintWords
set_option linter.unusedVariables false
/-- the pieces between a byte, the first with something ahead of it -/
def cutL (c : UInt8) : List UInt8 → List UInt8 → List (List UInt8)
  | p, [] => [p]
  | p, b :: l => if b = c then p :: cutL c [] l else cutL c (p ++ [b]) l
theorem cutL_head (c : UInt8) : ∀ (l p : List UInt8), ∃ q r, cutL c [] l = q :: r ∧ cutL c p l = (p ++ q) :: r
  | [], p => ⟨[], [], rfl, by simp [cutL]⟩
  | b :: l, p => by
    by_cases h : b = c
    · exact ⟨[], cutL c [] l, by simp [cutL, h], by simp [cutL, h]⟩
    · obtain ⟨q, r, e1, e2⟩ := cutL_head c l [b]
      obtain ⟨q', r', e3, e4⟩ := cutL_head c l (p ++ [b])
      rw [e1] at e3
      injection e3 with e5 e6
      subst e5 e6
      refine ⟨[b] ++ q, r, ?_, ?_⟩
      · rw [cutL, if_neg h]; exact e2
      · rw [cutL, if_neg h, e4, List.append_assoc]
theorem splitK_cut (c : UInt8) : ∀ (l : List UInt8), Lib.splitK [c] 0 (Lib.count l [c]) l = cutL c [] l
  | [] => by rw [Lib.count_one]; rfl
  | b :: l => by
    have ih := splitK_cut c l
    by_cases h : b = c
    · subst h
      have hix : Lib.index (b :: l) [b] = 0 := by rw [Lib.index]; simp [List.isPrefixOf]
      rw [Lib.count_cons_eq, Nat.add_comm, Lib.splitK, hix]
      simp only [cutL, if_true]
      rw [if_neg (by decide), ← ih]
      rfl
    · have hp : ([c] : List UInt8).isPrefixOf (b :: l) = false := by simp [List.isPrefixOf, Ne.symm h]
      have hix : Lib.index (b :: l) [c] = if Lib.index l [c] == -1 then -1 else Lib.index l [c] + 1 := by rw [Lib.index, hp]; simp
      obtain ⟨q, r, e1, e2⟩ := cutL_head c l [b]
      have hcut : cutL c [] (b :: l) = ([b] ++ q) :: r := by rw [cutL, if_neg h]; exact e2
      rw [Lib.count_cons_ne b c l h, hcut]
      rw [e1] at ih
      cases hk : Lib.count l [c] with
      | zero =>
        rw [hk, Lib.splitK] at ih
        injection ih with i1 i2
        subst i1 i2
        rfl
      | succ k =>
        rw [hk, Lib.splitK] at ih
        rw [Lib.splitK, hix]
        by_cases hm : Lib.index l [c] = -1
        · rw [Lib.count_miss hm] at hk; omega
        · have hge := Lib.index_ge l [c]
          rw [if_neg (fun e => hm (beq_iff_eq.1 e))] at ih
          rw [if_neg (fun e => hm (beq_iff_eq.1 e)), if_neg (fun e => by have := beq_iff_eq.1 e; omega)]
          injection ih with i1 i2
          obtain ⟨j, hj⟩ : ∃ j : Nat, Lib.index l [c] = j := ⟨(Lib.index l [c]).toNat, by omega⟩
          rw [hj] at i1 i2 ⊢
          have e3 : ((j : Int) + 1).toNat = j + 1 := by omega
          rw [e3]
          simp only [Int.toNat_natCast, List.length_singleton, Nat.add_zero] at i1 i2 ⊢
          rw [show j + 1 + 1 = (j + 1) + 1 from rfl, List.drop_succ_cons, List.take_succ_cons, i1, i2]
          rfl
/-- the pieces as texts -/
def cutT (c : UInt8) (s : ByteArray) : List ByteArray := (cutL c [] s.data.toList).map fun l => ⟨l.toArray⟩
theorem split_cut (c : UInt8) (s : ByteArray) : Lib.splitB ⟨#[c]⟩ 0 (Lib.countB s ⟨#[c]⟩) s = cutT c s := by
  have h := Lib.splitB_data ⟨#[c]⟩ 0 (Lib.countB s ⟨#[c]⟩) s
  have h2 := splitK_cut c s.data.toList
  unfold cutT
  rw [← h2]
  have e : (Lib.splitB ⟨#[c]⟩ 0 (Lib.countB s ⟨#[c]⟩) s).map (fun x => (⟨x.data.toList.toArray⟩ : ByteArray)) = Lib.splitB ⟨#[c]⟩ 0 (Lib.countB s ⟨#[c]⟩) s := by
    have : (fun x : ByteArray => (⟨x.data.toList.toArray⟩ : ByteArray)) = id := by funext x; exact ba_ext (by simp)
    rw [this, List.map_id]
  rw [← e]
  have h3 := congrArg (List.map fun l => (⟨l.toArray⟩ : ByteArray)) h
  rw [List.map_map] at h3
  exact h3
theorem cutL_len (c : UInt8) : ∀ (l p : List UInt8), ((cutL c p l).map List.length).sum + (cutL c p l).length = p.length + l.length + 1
  | [], p => by simp [cutL]
  | b :: l, p => by
    by_cases h : b = c
    · have ih := cutL_len c l []
      simp only [cutL, h, if_true, List.map_cons, List.sum_cons, List.length_cons, List.length_nil] at ih ⊢
      omega
    · have ih := cutL_len c l (p ++ [b])
      simp only [cutL, h, if_false, List.length_append, List.length_cons, List.length_nil] at ih ⊢
      omega
theorem cutT_len (c : UInt8) (s : ByteArray) : (cutT c s).length ≤ s.size + 1 := by
  have hl := cutL_len c s.data.toList []
  unfold cutT
  rw [List.length_map, size_data]
  simp only [List.length_nil] at hl
  omega
theorem mem_le_sum : ∀ {l : List Nat} {n : Nat}, n ∈ l → n ≤ l.sum
  | a :: l, n, h => by
    rw [List.sum_cons]
    rcases List.mem_cons.mp h with rfl | h
    · omega
    · have := mem_le_sum h; omega
theorem cutT_size (c : UInt8) (s : ByteArray) : ∀ x ∈ cutT c s, x.size ≤ s.size := by
  intro x hx
  have hl := cutL_len c s.data.toList []
  unfold cutT at hx
  obtain ⟨l, hm, rfl⟩ := List.mem_map.mp hx
  have h1 : l.length ≤ ((cutL c [] s.data.toList).map List.length).sum := mem_le_sum (List.mem_map.mpr ⟨l, hm, rfl⟩)
  have h2 : 1 ≤ (cutL c [] s.data.toList).length := List.length_pos_iff.mpr (fun e => by rw [e] at hm; simp at hm)
  simp only [List.length_nil] at hl
  show l.length ≤ _
  rw [size_data]
  omega
end Go.Proofs.YtkplbgeccaadeaaGreatDoor.PA
/-! Texts joined by commas, one after the other. No condition. -/
namespace Go.Proofs.YtkplbgeccaadeaaGreatDoor.PA
open Go.RowKit Go.Proofs.YtkplbgeccaadeaaGreatDoorW.PrintWords
set_option linter.unusedVariables false
/-- the texts, joined by commas -/
def commaT (l : List ByteArray) : ByteArray := ⟨(Lib.join (l.map (·.data.toList)) [44]).toArray⟩
theorem join_take_succ {l : List ByteArray} {i : Nat} (h : i + 1 < l.length) : Lib.join ((l.take (i + 2)).map (·.data.toList)) [44] = Lib.join ((l.take (i + 1)).map (·.data.toList)) [44] ++ [44] ++ l[i + 1].data.toList := by
  cases l with
  | nil => simp at h
  | cons a l =>
    have h' : i < l.length := by simpa using h
    simp only [List.take_succ_cons, List.map_cons, Lib.join_cons]
    rw [take_succ_get h', List.map_append]
    simp [Lib.joinTail]
theorem comma_size (l : List ByteArray) (hs : ∀ y ∈ l, y.size ≤ 6) : ∀ i, i ≤ l.length → (commaT (l.take i)).size ≤ 7 * i
  | 0, _ => Nat.le_refl _
  | 1, h => by
    have hy := hs _ (List.getElem_mem (show 0 < l.length by omega))
    cases l with
    | nil => simp at h
    | cons a l =>
      have e : commaT ((a :: l).take 1) = a := ba_ext (by simp [commaT, Lib.join_one])
      rw [e]; exact Nat.le_trans hy (by decide)
  | i + 2, h => by
    have ih := comma_size l hs (i + 1) (by omega)
    have hy := hs _ (List.getElem_mem (show i + 1 < l.length by omega))
    have e := join_take_succ (l := l) (i := i) (by omega)
    have : (commaT (l.take (i + 2))).size = (commaT (l.take (i + 1))).size + 1 + (l[i + 1]'(by omega)).size := by
      show (Lib.join _ _).length = (Lib.join _ _).length + 1 + _
      rw [e, List.length_append, List.length_append]; rfl
    omega
theorem app_nil (a : ByteArray) : a ++ (⟨#[]⟩ : ByteArray) = a := ba_ext (by rw [data_append]; exact List.append_nil _)
theorem app_assoc (a b c : ByteArray) : a ++ b ++ c = a ++ (b ++ c) := ba_ext (by simp only [data_append, List.append_assoc])
theorem comma_zero (l : List ByteArray) : commaT (l.take 0) = ⟨#[]⟩ := rfl
theorem comma_one {l : List ByteArray} (h : 0 < l.length) : commaT (l.take 1) = l[0] := by
  apply ba_ext
  cases l with
  | nil => simp at h
  | cons a l => simp [commaT, Lib.join_one]
theorem comma_more {l : List ByteArray} {i : Nat} (h : i + 1 < l.length) : commaT (l.take (i + 2)) = (commaT (l.take (i + 1)) ++ (⟨#[44]⟩ : ByteArray)) ++ l[i + 1] := by
  apply ba_ext
  rw [data_append, data_append]
  show Lib.join _ _ = Lib.join _ _ ++ [44] ++ _
  rw [join_take_succ h]
end Go.Proofs.YtkplbgeccaadeaaGreatDoor.PA
/-! Cutting at a byte and joining by it undo one another. No condition but that the parts hold no such byte. -/
namespace Go.Proofs.YtkplbgeccaadeaaGreatDoor.PA
open Go.RowKit Go.Proofs.YtkplbgeccaadeaaGreatDoorW.PrintWords
set_option linter.unusedVariables false
theorem cut_none (c : UInt8) : ∀ (l p : List UInt8), c ∉ l → cutL c p l = [p ++ l]
  | [], p, _ => by simp [cutL]
  | b :: l, p, h => by
    have h1 : ¬ b = c := fun e => h (by simp [e])
    rw [cutL, if_neg h1, cut_none c l (p ++ [b]) (fun e => h (by simp [e]))]
    simp
theorem cut_mid (c : UInt8) (r : List UInt8) : ∀ (l p : List UInt8), c ∉ l → cutL c p (l ++ c :: r) = (p ++ l) :: cutL c [] r
  | [], p, _ => by simp [cutL]
  | b :: l, p, h => by
    have h1 : ¬ b = c := fun e => h (by simp [e])
    rw [List.cons_append, cutL, if_neg h1, cut_mid c r l (p ++ [b]) (fun e => h (by simp [e]))]
    simp
theorem join_cons2 (x y : List UInt8) (r : List (List UInt8)) (c : UInt8) : Lib.join (x :: y :: r) [c] = x ++ c :: Lib.join (y :: r) [c] := by
  rw [Lib.join_cons, Lib.join_cons]
  simp [Lib.joinTail]
theorem cut_join (c : UInt8) : ∀ (L : List (List UInt8)), L ≠ [] → (∀ x ∈ L, c ∉ x) → cutL c [] (Lib.join L [c]) = L
  | [], h, _ => absurd rfl h
  | [x], _, h => by rw [Lib.join_one, cut_none c x [] (h x (by simp))]; simp
  | x :: y :: r, _, h => by
    rw [join_cons2, cut_mid c _ x [] (h x (by simp)), cut_join c (y :: r) (by simp) (fun z hz => h z (List.mem_cons_of_mem _ hz))]
    rfl
theorem join_cut (c : UInt8) : ∀ (l p : List UInt8), Lib.join (cutL c p l) [c] = p ++ l
  | [], p => by simp [cutL, Lib.join_one]
  | b :: l, p => by
    by_cases h : b = c
    · obtain ⟨q, r, e, _⟩ := cutL_head c l []
      rw [cutL, if_pos h, e, join_cons2, ← e, join_cut c l [], h]
      simp
    · rw [cutL, if_neg h, join_cut c l (p ++ [b])]
      simp
theorem mk_list (L : List ByteArray) : (L.map (·.data.toList)).map (fun l => (⟨l.toArray⟩ : ByteArray)) = L := by
  rw [List.map_map]
  have : ((fun l => (⟨l.toArray⟩ : ByteArray)) ∘ (·.data.toList)) = id := by funext x; exact ba_ext (by simp)
  rw [this, List.map_id]
theorem cutT_data (c : UInt8) (s : ByteArray) : (cutT c s).map (·.data.toList) = cutL c [] s.data.toList := by
  unfold cutT
  rw [List.map_map]
  have : ((·.data.toList) ∘ (fun l => (⟨l.toArray⟩ : ByteArray))) = id := by funext x; simp
  rw [this, List.map_id]
theorem comma_cut (s : ByteArray) : commaT (cutT 44 s) = s := by
  apply ba_ext
  show Lib.join ((cutT 44 s).map (·.data.toList)) [44] = _
  rw [cutT_data, join_cut]
  rfl
theorem cut_comma {L : List ByteArray} (h0 : L ≠ []) (h : ∀ x ∈ L, (44 : UInt8) ∉ x.data.toList) : cutT 44 (commaT L) = L := by
  unfold cutT
  show (cutL 44 [] (Lib.join (L.map (·.data.toList)) [44])).map _ = _
  rw [cut_join 44 _ (by simpa using h0) (by simpa using h), mk_list]
theorem join_no (b c : UInt8) (hbc : b ≠ c) : ∀ (L : List (List UInt8)), (∀ x ∈ L, b ∉ x) → b ∉ Lib.join L [c]
  | [], _ => by simp [Lib.join_nil]
  | [x], h => by rw [Lib.join_one]; exact h x (by simp)
  | x :: y :: r, h => by
    rw [join_cons2]
    have h1 := h x (by simp)
    have h2 := join_no b c hbc (y :: r) (fun z hz => h z (List.mem_cons_of_mem _ hz))
    simp only [List.mem_append, List.mem_cons, not_or]
    exact ⟨h1, hbc, h2⟩
theorem comma_no (b : UInt8) (hb : b ≠ 44) {L : List ByteArray} (h : ∀ x ∈ L, b ∉ x.data.toList) : b ∉ (commaT L).data.toList :=
  join_no b 44 hb _ (by simpa using h)
theorem join_len (c : UInt8) : ∀ (L : List (List UInt8)), (∀ x ∈ L, x.length ≤ 2) → (Lib.join L [c]).length ≤ 3 * L.length
  | [], _ => by simp [Lib.join_nil]
  | [x], h => by
    have := h x (by simp)
    rw [Lib.join_one]; simp only [List.length_cons, List.length_nil]; omega
  | x :: y :: r, h => by
    have h1 := h x (by simp)
    have h2 := join_len c (y :: r) (fun z hz => h z (List.mem_cons_of_mem _ hz))
    rw [join_cons2]
    simp only [List.length_append, List.length_cons] at h2 ⊢
    omega
theorem comma_len {L : List ByteArray} (h : ∀ x ∈ L, x.size ≤ 2) : (commaT L).size ≤ 3 * L.length := by
  have := join_len 44 (L.map (·.data.toList)) (by
    intro x hx
    obtain ⟨y, hy, rfl⟩ := List.mem_map.mp hx
    exact h y hy)
  rw [List.length_map] at this
  exact this
/-- cut in two -/
theorem cutT_two (c : UInt8) (a b : ByteArray) (ha : c ∉ a.data.toList) (hb : c ∉ b.data.toList) : cutT c ((a ++ (⟨#[c]⟩ : ByteArray)) ++ b) = [a, b] := by
  unfold cutT
  rw [data_append, data_append]
  rw [show a.data.toList ++ (⟨#[c]⟩ : ByteArray).data.toList ++ b.data.toList = a.data.toList ++ c :: b.data.toList by simp, cut_mid c _ _ [] ha, cut_none c _ [] hb]
  simp only [List.nil_append, List.map_cons, List.map_nil]
theorem cutT_pair {c : UInt8} {s a b : ByteArray} (h : cutT c s = [a, b]) : s = (a ++ (⟨#[c]⟩ : ByteArray)) ++ b := by
  apply ba_ext
  have e := cutT_data c s
  rw [h] at e
  have e2 := join_cut c s.data.toList []
  rw [← e] at e2
  simp only [List.map_cons, List.map_nil, join_cons2, Lib.join_one, List.nil_append] at e2
  rw [data_append, data_append, ← e2]
  simp
theorem index_mid (c : UInt8) (r : List UInt8) : ∀ (l : List UInt8), c ∉ l → Lib.indexByte (l ++ c :: r) c = (l.length : Int)
  | [], _ => by simp [Lib.indexByte]
  | b :: l, h => by
    have h1 : ¬ b = c := fun e => h (by simp [e])
    have ih := index_mid c r l (fun e => h (by simp [e]))
    rw [List.cons_append, Lib.indexByte, if_neg (by simpa using h1), ih, if_neg (by simp)]
    simp
theorem cut_ex (s : ByteArray) (c : UInt8) (hs : s.size ≤ 1048576) : ∃ a b g, strings_Cut.f s ⟨#[c]⟩ = some (a, b, g) ∧ a.size ≤ s.size ∧ b.size ≤ s.size - 1 := by
  unfold strings_Cut.f stringslite_Cut.f stringslite_Index.f
  rw [if_pos (show (⟨#[c]⟩ : ByteArray).size = 1 from rfl)]
  simp only [Option.bind_some]
  have e : (⟨#[c]⟩ : ByteArray).data.toList.headD 0 = c := rfl
  rw [e]
  have h0 := Lib.indexByte_ge s.data.toList c
  have e1 : ((⟨#[c]⟩ : ByteArray).size : Int) = 1 := rfl
  rw [e1]
  by_cases hi : Lib.indexByte s.data.toList c ≥ 0
  · obtain ⟨o, ho⟩ : ∃ o : Nat, Lib.indexByte s.data.toList c = o := ⟨_, (Int.toNat_of_nonneg hi).symm⟩
    have h1 := (Lib.indexByte_some ho).1
    have h2 : o < s.size := by
      have := List.getElem?_eq_some_iff.mp h1
      obtain ⟨h, _⟩ := this
      exact h
    rw [ho, wrap_nat (by omega), if_pos (by omega), if_pos (by omega), if_pos (by omega), if_pos (by omega), if_pos (by omega)]
    refine ⟨_, _, _, rfl, ?_, ?_⟩
    · rw [ByteArray.size_extract]; omega
    · rw [ByteArray.size_extract]; omega
  · rw [if_neg hi]
    exact ⟨_, _, _, rfl, Nat.le_refl _, Nat.zero_le _⟩
theorem cut_two (c : UInt8) (a b : ByteArray) (ha : c ∉ a.data.toList) (hs : a.size + b.size ≤ 1048576) : strings_Cut.f ((a ++ (⟨#[c]⟩ : ByteArray)) ++ b) ⟨#[c]⟩ = some (a, b, true) := by
  unfold strings_Cut.f stringslite_Cut.f stringslite_Index.f
  rw [if_pos (show (⟨#[c]⟩ : ByteArray).size = 1 from rfl)]
  simp only [Option.bind_some]
  have e : (⟨#[c]⟩ : ByteArray).data.toList.headD 0 = c := rfl
  have e1 : ((⟨#[c]⟩ : ByteArray).size : Int) = 1 := rfl
  have e2 : ((a ++ (⟨#[c]⟩ : ByteArray)) ++ b).data.toList = a.data.toList ++ c :: b.data.toList := by rw [data_append, data_append]; simp
  have e3 : ((a ++ (⟨#[c]⟩ : ByteArray)) ++ b).size = a.size + 1 + b.size := by rw [size_append, size_append]; rfl
  rw [e, e1, e2, index_mid c _ _ ha, e3]
  rw [show (a.data.toList.length : Int) = (a.size : Int) from rfl, wrap_nat (by omega), if_pos (by omega), if_pos (by omega), if_pos (by omega), if_pos (by omega), if_pos (by omega)]
  simp only [Option.bind_some, Int.toNat_natCast]
  have x1 : ((a ++ (⟨#[c]⟩ : ByteArray)) ++ b).extract 0 a.size = a := by
    apply ba_ext
    rw [data_extract, e2]
    show ((a.data.toList ++ c :: b.data.toList).take a.data.toList.length).drop 0 = a.data.toList
    rw [List.drop_zero, List.take_left' rfl]
  have x2 : ((a ++ (⟨#[c]⟩ : ByteArray)) ++ b).extract (a.size + 1) (a.size + 1 + b.size) = b := by
    apply ba_ext
    rw [data_extract, e2]
    show ((a.data.toList ++ c :: b.data.toList).take (a.data.toList.length + 1 + b.data.toList.length)).drop (a.data.toList.length + 1) = b.data.toList
    rw [List.take_of_length_le (by simp only [List.length_append, List.length_cons]; omega), show a.data.toList ++ c :: b.data.toList = (a.data.toList ++ [c]) ++ b.data.toList by simp]
    exact List.drop_left' (by simp only [List.length_append, List.length_cons, List.length_nil])
  rw [x1, x2]
end Go.Proofs.YtkplbgeccaadeaaGreatDoor.PA
/-! Small numbers' digits: the reference and the program write the same. No condition but bounds. -/
namespace Go.Proofs.YtkplbgeccaadeaaGreatDoor.PA
open Go.RowKit Go.Proofs.YtkplbgeccaadeaaGreatDoorW.PrintWords
set_option linter.unusedVariables false
/-- a small number's digits -/
def decB (n : Int) : ByteArray := ⟨(Lib.decDigits n.toNat).toArray⟩
theorem num_small : ∀ n : Fin 100, spec_l1Num.f 3 (n.val : Int) = some (decB (n.val : Int)) := by decide +kernel
theorem dec_size : ∀ n : Fin 100, (decB (n.val : Int)).size ≤ 2 := by decide +kernel
theorem l1Num_ev (n : Int) (h0 : 0 ≤ n) (h1 : n < 100) : Ev (fun k => spec_l1Num.f k n) (decB n) := by
  obtain ⟨m, rfl⟩ := Int.eq_ofNat_of_zero_le h0
  refine ⟨3, fun k hk => ?_⟩
  have := leO_add (fun k => spec_l1Num.mono (m : Int) k) (num_small ⟨m, by omega⟩) (k - 3)
  rwa [show 3 + (k - 3) = k by omega] at this
theorem itoa_f (n : Int) (h0 : 0 ≤ n) (h1 : n < 100) : strconv_Itoa.f n = some (decB n) := by
  unfold strconv_Itoa.f
  rw [if_pos ⟨h0, h1⟩]; rfl
theorem dec_le (n : Int) (h0 : 0 ≤ n) (h1 : n < 100) : (decB n).size ≤ 6 := by
  obtain ⟨m, rfl⟩ := Int.eq_ofNat_of_zero_le h0
  have := dec_size ⟨m, by omega⟩
  simp only at this
  omega
end Go.Proofs.YtkplbgeccaadeaaGreatDoor.PA
/-! Is a number within bounds: the reference's and the program's own. No condition. -/
namespace Go.Proofs.YtkplbgeccaadeaaGreatDoor.PA
open Go.RowKit Go.Proofs.YtkplbgeccaadeaaGreatDoorW.PrintWords
set_option linter.unusedVariables false
theorem l1In_f (a b c : Int) : spec_l1In.f a b c = some (decide (b ≤ a) && decide (a ≤ c)) := by
  unfold spec_l1In.f
  by_cases h : a ≥ b
  · rw [if_pos h]; simp [show b ≤ a from h]
  · rw [if_neg h]; simp [show ¬ b ≤ a from h]
theorem in_f (a b c : Int) : impl_in.f a b c = some (decide (b ≤ a) && decide (a ≤ c)) := by
  unfold impl_in.f
  by_cases h : a ≥ b
  · rw [if_pos h]; simp [show b ≤ a from h]
  · rw [if_neg h]; simp [show ¬ b ≤ a from h]
end Go.Proofs.YtkplbgeccaadeaaGreatDoor.PA
/-! A short numeral read: the reference's reader and the library's, at what a number under a hundred is written as. No condition but bounds. -/
namespace Go.Proofs.YtkplbgeccaadeaaGreatDoor.PA
open Go.RowKit Go.Proofs.YtkplbgeccaadeaaGreatDoorW.PrintWords
set_option linter.unusedVariables false
/-- digits' value, something read ahead of them -/
def digN (n : Nat) (l : List UInt8) : Nat := l.foldl (fun n b => 10 * n + (b.toNat - 48)) n
def readL (l : List UInt8) : Int := if l.length = 0 ∨ 6 < l.length ∨ (l.head? = some 48 ∧ 1 < l.length) ∨ l.all digB = false then -1 else (digN 0 l : Int)
theorem digN_nil (n : Nat) : digN n [] = n := by unfold digN; rw [List.foldl_nil]
theorem digN_cons (n : Nat) (b : UInt8) (l : List UInt8) : digN n (b :: l) = digN (10 * n + (b.toNat - 48)) l := by unfold digN; rw [List.foldl_cons]
/-- what the reference's reader tells -/
def readV (x : ByteArray) : Int := readL x.data.toList
def p10 : Nat → Nat
  | 0 => 1
  | n + 1 => 10 * p10 n
theorem p10_le : ∀ i : Fin 6, p10 i.val ≤ 100000 := by decide
theorem dig_step (n b : Nat) (hn : n ≤ 100000) (h1 : 48 ≤ b) (h2 : b ≤ 57) : wrap64 (wrap64 (10 * (n : Int)) + ((b : Int) - 48) % 256) = ((10 * n + (b - 48) : Nat) : Int) := by
  rw [wrap_in (n := 10 * (n : Int)) (by omega) (by omega), show ((b : Int) - 48) % 256 = (b : Int) - 48 by omega, wrap_in (by omega) (by omega)]
  omega
theorem read_step (x : ByteArray) (hx : x.size ≤ 6) (i n : Nat) (hi : i < x.size) (hn : n < p10 i)
    (ih : ∀ m, m < p10 (i + 1) → Ev (fun k => spec_l1Read.l0 k x (m : Int) ((i + 1 : Nat) : Int)) (if (x.data.toList.drop (i + 1)).all digB = true then (digN m (x.data.toList.drop (i + 1)) : Int) else -1)) :
    Ev (fun k => spec_l1Read.l0 k x (n : Int) (i : Int)) (if (x.data.toList.drop i).all digB = true then (digN n (x.data.toList.drop i) : Int) else -1) := by
  have hl : i < x.data.toList.length := hi
  have hp : p10 i ≤ 100000 := p10_le ⟨i, by omega⟩
  have hbt := bt_nat hi
  rw [List.drop_eq_getElem_cons hl]
  generalize hb : x.data.toList[i] = b at hbt ⊢
  generalize x.data.toList.drop (i + 1) = r at ih ⊢
  have hb2 := b.toNat_lt
  refine Ev.step (fun k => by rw [spec_l1Read.l0]) ?_
  refine Ev.pos (by omega) (Ev.pos (by omega) ?_)
  rw [hbt]
  refine Ev.ite (fun h1 => Ev.val ?_) (fun h1 => Ev.ite (fun h2 => Ev.val ?_) (fun h2 => ?_))
  · have hd : digB b = false := by unfold digB; rw [decide_eq_false (show ¬ 48 ≤ b.toNat by omega), Bool.false_and]
    rw [List.all_cons, hd, Bool.false_and, if_neg (by decide)]
  · have hd : digB b = false := by unfold digB; rw [decide_eq_false (show ¬ b.toNat ≤ 57 by omega), Bool.and_false]
    rw [List.all_cons, hd, Bool.false_and, if_neg (by decide)]
  · have z1 : n ≤ 100000 := by omega
    have z2 : 48 ≤ b.toNat := by omega
    have z3 : b.toNat ≤ 57 := by omega
    have z4 : i < 4611686018427387904 := by omega
    rw [dig_step n b.toNat z1 z2 z3]
    rw [wrap_nat z4]
    have hd : digB b = true := by unfold digB; rw [decide_eq_true (show 48 ≤ b.toNat by omega), decide_eq_true (show b.toNat ≤ 57 by omega), Bool.and_true]
    have h9 : 10 * n + (b.toNat - 48) < p10 (i + 1) := by show _ < 10 * p10 i; omega
    refine Ev.eq (ih _ h9) ?_
    rw [List.all_cons, hd, Bool.true_and, digN_cons]
theorem read_l0 (x : ByteArray) (hx : x.size ≤ 6) (d : Nat) : ∀ (i n : Nat), i + d = x.size → n < p10 i → Ev (fun k => spec_l1Read.l0 k x (n : Int) (i : Int)) (if (x.data.toList.drop i).all digB = true then (digN n (x.data.toList.drop i) : Int) else -1) := by
  induction d with
  | zero =>
    intro i n h hn
    refine Ev.step (fun k => by rw [spec_l1Read.l0]) ?_
    refine Ev.neg (by omega) (Ev.val ?_)
    rw [List.drop_of_length_le (show x.data.toList.length ≤ i from by show x.size ≤ i; omega), List.all_nil, if_pos rfl, digN_nil]
  | succ d ih =>
    intro i n h hn
    exact read_step x hx i n (by omega) hn (fun m hm => ih (i + 1) m (by omega) hm)
theorem l1Read_ev (x : ByteArray) (hx : x.size ≤ 1073741824) : Ev (fun k => spec_l1Read.f k x) (readV x) := by
  unfold spec_l1Read.f readV readL
  have hz : x.data.toList.length = x.size := rfl
  by_cases h1 : 1 ≤ x.size ∧ x.size ≤ 6
  · refine Ev.vbind (show spec_l1In.f (x.size : Int) 1 6 = some true by unfold spec_l1In.f; rw [if_pos (by omega)]; simp; omega) (Ev.pos rfl (Ev.pos (by omega) ?_))
    have hb : bt x 0 = ((x.data.toList[0]'(by rw [hz]; omega)).toNat : Int) := bt_nat (s := x) (i := 0) (by omega)
    have hh : x.data.toList.head? = some (x.data.toList[0]'(by rw [hz]; omega)) := by rw [List.head?_eq_getElem?, List.getElem?_eq_getElem]
    have main : Ev (fun k => spec_l1Read.j0 k x false) (if x.data.toList.all digB = true then (digN 0 x.data.toList : Int) else -1) := by
      refine Ev.step (fun k => by rw [spec_l1Read.j0]) ?_
      exact Ev.neg (by simp) (read_l0 x h1.2 x.size 0 0 (by omega) (by decide))
    have bad : Ev (fun k => spec_l1Read.j0 k x true) (-1) := by
      refine Ev.step (fun k => by rw [spec_l1Read.j0]) ?_
      exact Ev.pos rfl (Ev.val rfl)
    have good : ¬ (x.data.toList.head? = some 48 ∧ 1 < x.data.toList.length) → Ev (fun k => spec_l1Read.j0 k x false) (if x.data.toList.length = 0 ∨ 6 < x.data.toList.length ∨ (x.data.toList.head? = some 48 ∧ 1 < x.data.toList.length) ∨ x.data.toList.all digB = false then -1 else (digN 0 x.data.toList : Int)) := by
      intro hn
      refine Ev.eq main ?_
      cases ha : x.data.toList.all digB
      · rw [if_neg (by simp), if_pos (by simp)]
      · rw [if_pos rfl, if_neg]
        rintro (h | h | h | h)
        · omega
        · omega
        · exact hn h
        · simp at h
    refine Ev.ite (fun h2 => ?_) (fun h2 => good (fun h => h2 ?_))
    · have h3 : x.data.toList[0]'(by rw [hz]; omega) = 48 := by
        rw [hb] at h2
        exact UInt8.toNat_inj.mp (by show _ = 48; omega)
      by_cases h4 : 1 < x.size
      · rw [show decide ((x.size : Int) > 1) = true by simp; omega]
        refine Ev.eq bad ?_
        rw [if_pos (.inr (.inr (.inl ⟨by rw [hh, h3], by omega⟩)))]
      · rw [show decide ((x.size : Int) > 1) = false by simp; omega]
        exact good (fun h => h4 (by omega))
    · rw [hb]
      have := h.1
      rw [hh] at this
      rw [Option.some.inj this]
      rfl
  · have e : spec_l1In.f (x.size : Int) 1 6 = some false := by
      unfold spec_l1In.f
      by_cases h2 : (x.size : Int) ≥ 1
      · rw [if_pos h2]; simp; omega
      · rw [if_neg h2]
    refine Ev.vbind e (Ev.neg (by simp) ?_)
    refine Ev.step (fun k => by rw [spec_l1Read.j0]) ?_
    refine Ev.pos rfl (Ev.val ?_)
    rw [if_pos (by omega)]
theorem digN_ge : ∀ (l : List UInt8) (n : Nat), n ≤ digN n l
  | [], n => Nat.le_refl _
  | b :: l, n => by
    have := digN_ge l (10 * n + (b.toNat - 48))
    rw [digN_cons]
    omega
theorem dec_1 : ∀ a : Fin 10, Lib.decDigits a.val = [UInt8.ofNat (48 + a.val)] := by decide +kernel
theorem dec_2 : ∀ a b : Fin 10, 1 ≤ a.val → Lib.decDigits (10 * a.val + b.val) = [UInt8.ofNat (48 + a.val), UInt8.ofNat (48 + b.val)] := by decide +kernel
theorem dig_of {b : UInt8} (h : digB b = true) : ∃ a : Fin 10, b = UInt8.ofNat (48 + a.val) ∧ b.toNat - 48 = a.val := by
  simp only [digB, Bool.and_eq_true, decide_eq_true_eq] at h
  refine ⟨⟨b.toNat - 48, by omega⟩, ?_, rfl⟩
  show b = UInt8.ofNat (48 + (b.toNat - 48))
  rw [show 48 + (b.toNat - 48) = b.toNat by omega]
  simp
theorem read_1 (a : UInt8) (h : digB a = true) : [a] = Lib.decDigits (digN 0 [a]) := by
  obtain ⟨x, e, ev⟩ := dig_of h
  have hn : digN 0 [a] = x.val := by rw [digN_cons, digN_nil, ev, Nat.mul_zero, Nat.zero_add]
  rw [hn, dec_1 x, ← e]
theorem read_2 (a b : UInt8) (ha : digB a = true) (hb : digB b = true) (h0 : a ≠ 48) : [a, b] = Lib.decDigits (digN 0 [a, b]) := by
  obtain ⟨x, e, ev⟩ := dig_of ha
  obtain ⟨y, f, fv⟩ := dig_of hb
  have hx : 1 ≤ x.val := by
    rcases Nat.eq_zero_or_pos x.val with h | h
    · exact absurd (by rw [e, h]; rfl) h0
    · exact h
  have hn : digN 0 [a, b] = 10 * x.val + y.val := by rw [digN_cons, digN_cons, digN_nil, ev, fv, Nat.mul_zero, Nat.zero_add]
  rw [hn, dec_2 x y hx, ← e, ← f]
theorem read_3 (a b c : UInt8) (r : List UInt8) (ha : digB a = true) (h0 : a ≠ 48) : 100 ≤ digN 0 (a :: b :: c :: r) := by
  obtain ⟨x, e, ev⟩ := dig_of ha
  have hx : 1 ≤ x.val := by
    rcases Nat.eq_zero_or_pos x.val with h | h
    · exact absurd (by rw [e, h]; rfl) h0
    · exact h
  rw [digN_cons, digN_cons, digN_cons, ev]
  have := digN_ge r (10 * (10 * (10 * 0 + x.val) + (b.toNat - 48)) + (c.toNat - 48))
  omega
theorem readL_dec (l : List UInt8) (h0 : 0 ≤ readL l) (h1 : readL l < 100) : l = Lib.decDigits (readL l).toNat := by
  have key : ¬ (l.length = 0 ∨ 6 < l.length ∨ (l.head? = some 48 ∧ 1 < l.length) ∨ l.all digB = false) ∧ readL l = (digN 0 l : Int) := by
    unfold readL at h0 ⊢
    split at h0
    · omega
    · rename_i hc
      exact ⟨hc, if_neg hc⟩
  obtain ⟨hc, e⟩ := key
  rw [e] at h1 ⊢
  rw [Int.toNat_natCast]
  clear h0 e
  have c1 : l.length ≠ 0 := fun e => hc (.inl e)
  have c3 : ¬ (l.head? = some 48 ∧ 1 < l.length) := fun e => hc (.inr (.inr (.inl e)))
  have c4 : l.all digB = true := by
    cases h : l.all digB
    · exact absurd (.inr (.inr (.inr h))) hc
    · rfl
  clear hc
  cases l with
  | nil => exact absurd rfl c1
  | cons a l =>
    rw [List.all_cons, Bool.and_eq_true] at c4
    cases l with
    | nil => exact read_1 a c4.1
    | cons b l =>
      have h0 : a ≠ 48 := fun e => c3 ⟨by rw [e]; rfl, by simp only [List.length_cons]; omega⟩
      have c5 := c4.2
      rw [List.all_cons, Bool.and_eq_true] at c5
      cases l with
      | nil => exact read_2 a b c4.1 c5.1 h0
      | cons c r =>
        have := read_3 a b c r c4.1 h0
        omega
theorem read_dec {x : ByteArray} (h0 : 0 ≤ readV x) (h1 : readV x < 100) : x = decB (readV x) :=
  ba_ext (readL_dec x.data.toList h0 h1)
theorem readL_of : ∀ n : Fin 100, readL (Lib.decDigits n.val) = (n.val : Int) := by decide +kernel
theorem readV_dec {v : Int} (h0 : 0 ≤ v) (h1 : v < 100) : readV (decB v) = v := by
  have := readL_of ⟨v.toNat, by omega⟩
  show readL (Lib.decDigits v.toNat) = v
  rw [this]; show ((v.toNat : Nat) : Int) = v; omega
theorem dec_dig : ∀ n : Fin 100, (Lib.decDigits n.val).all digB = true := by decide +kernel
theorem decB_no {v : Int} (h0 : 0 ≤ v) (h1 : v < 100) {c : UInt8} (hc : digB c = false) : c ∉ (decB v).data.toList := by
  intro hm
  have := List.all_eq_true.mp (dec_dig ⟨v.toNat, by omega⟩) c hm
  rw [hc] at this; simp at this
theorem atoi_of : ∀ n : Fin 100, Lib.atoiAll (Lib.decDigits n.val) = .ok (n.val : Int) := by decide +kernel
theorem atoi_dec {v : Int} (h0 : 0 ≤ v) (h1 : v < 100) : strconv_Atoi.f (decB v) = some (v, false) := by
  have hz := (dec_le v h0 h1)
  unfold strconv_Atoi.f
  rw [if_pos (by omega)]
  have := atoi_of ⟨v.toNat, by omega⟩
  have e : atoiV (decB v) = v := by
    unfold atoiV
    show (match Lib.atoiAll (Lib.decDigits v.toNat) with | .ok v => v | .«syntax» => 0 | .range => _) = v
    rw [this]; show ((v.toNat : Nat) : Int) = v; omega
  rw [e]
end Go.Proofs.YtkplbgeccaadeaaGreatDoor.PA
/-! The reference's own way to cut a text gives the library's pieces. No condition but bounds. -/
namespace Go.Proofs.YtkplbgeccaadeaaGreatDoor.PA
open Go.RowKit Go.Proofs.YtkplbgeccaadeaaGreatDoorW.PrintWords
set_option linter.unusedVariables false
theorem l1Split_l0 (s : ByteArray) (c : UInt8) (hs : s.size ≤ 1073741824) : ∀ (d i a : Nat) (x : List ByteArray), i + d = s.size → a ≤ i → x.length ≤ i → Ev (fun k => spec_l1Split.l0 k s (c.toNat : Int) x (a : Int) (i : Int)) (x ++ (cutL c ((s.data.toList.take i).drop a) (s.data.toList.drop i)).map fun l => ⟨l.toArray⟩)
  | 0, i, a, x, h, ha, hx => by
    refine Ev.step (fun k => by rw [spec_l1Split.l0]) ?_
    refine Ev.neg (by omega) (Ev.pos (by omega) (Ev.pos (by omega) (Ev.pos (by omega) (Ev.val ?_))))
    have e : s.extract a s.size = ⟨((s.data.toList.take i).drop a).toArray⟩ := ba_ext (by rw [data_extract, show i = s.size by omega])
    rw [List.drop_of_length_le (i := i) (by rw [← size_data]; omega), cutL, List.map_cons, List.map_nil, Int.toNat_natCast, e]
  | d + 1, i, a, x, h, ha, hx => by
    have hi : i < s.data.toList.length := by rw [← size_data]; omega
    refine Ev.step (fun k => by rw [spec_l1Split.l0]) ?_
    refine Ev.pos (by omega) (Ev.pos (by omega) ?_)
    rw [bt_nat (by omega), wrap_nat (by omega), List.drop_eq_getElem_cons hi]
    by_cases e : s.data.toList[i] = c
    · refine Ev.pos (by rw [e]) (Ev.pos (by omega) (Ev.pos (by omega) (Ev.pos (by omega) (Ev.pos (by omega) ?_))))
      have ih := l1Split_l0 s c hs d (i + 1) (i + 1) (x ++ [s.extract a i]) (by omega) (Nat.le_refl _) (by simp; omega)
      have e1 : (s.data.toList.take (i + 1)).drop (i + 1) = [] := List.drop_of_length_le (by rw [List.length_take]; omega)
      rw [e1] at ih
      rw [cutL, if_pos e, List.map_cons]
      have e2 : (⟨((s.data.toList.take i).drop a).toArray⟩ : ByteArray) = s.extract a i := ba_ext (by rw [data_extract])
      rw [e2]
      simpa using ih
    · refine Ev.neg (fun h => e ?_) ?_
      · exact UInt8.toNat_inj.mp (by omega)
      · have ih := l1Split_l0 s c hs d (i + 1) a x (by omega) (by omega) (by omega)
        rw [cutL, if_neg e]
        rw [take_succ_get hi, List.drop_append_of_le_length (by rw [List.length_take]; omega)] at ih
        exact ih
theorem l1Split_ev (s : ByteArray) (c : UInt8) (hs : s.size ≤ 1073741824) : Ev (fun k => spec_l1Split.f k s (c.toNat : Int)) (cutT c s) := by
  have := l1Split_l0 s c hs s.size 0 0 [] (by omega) (Nat.le_refl _) (Nat.le_refl _)
  unfold spec_l1Split.f cutT
  simpa using this
end Go.Proofs.YtkplbgeccaadeaaGreatDoor.PA
/-! The laws' equality over lists of whole numbers is equality. No condition but bounds. -/
namespace Go.Proofs.YtkplbgeccaadeaaGreatDoor.PA
open Go.RowKit Go.Proofs.YtkplbgeccaadeaaGreatDoorW.PrintWords
set_option linter.unusedVariables false
end Go.Proofs.YtkplbgeccaadeaaGreatDoor.PA
/-! The laws' own helpers over lists of whole numbers: copying keeps them. No condition but bounds. -/
namespace Go.Proofs.YtkplbgeccaadeaaGreatDoor.PA
open Go.RowKit Go.Proofs.YtkplbgeccaadeaaGreatDoorW.PrintWords
set_option linter.unusedVariables false
end Go.Proofs.YtkplbgeccaadeaaGreatDoor.PA
/-! Schemes, sums and checks: the reference's and the program's are one. No condition but bounds. -/
namespace Go.Proofs.YtkplbgeccaadeaaGreatDoor.PA
open Go.RowKit Go.Proofs.YtkplbgeccaadeaaGreatDoorW.PrintWords
set_option linter.unusedVariables false
def wB (m w : Int) : Bool := decide (0 ≤ w) && decide (w ≤ wrap64 (m - 1))
def schB (m : Int) (l : List Int) : Bool := decide (2 ≤ m) && decide (m ≤ 13) && (decide (1 ≤ (l.length : Int)) && decide ((l.length : Int) ≤ 12)) && l.all (wB m)
theorem sch_l0 (m : Int) (l : List Int) (hl : l.length ≤ 1048576) : ∀ (d i : Nat), i + d = l.length → Ev (fun k => spec_l1All.l0 k 0 (wrap64 (m - 1)) l (l.length : Int) (i : Int)) ((l.drop i).all (wB m))
  | 0, i, h => by
    refine Ev.step (fun k => by rw [spec_l1All.l0]) ?_
    refine Ev.neg (by omega) (Ev.val ?_)
    rw [List.drop_of_length_le (by omega)]; rfl
  | d + 1, i, h => by
    have hi : i < l.length := by omega
    refine Ev.step (fun k => by rw [spec_l1All.l0]) ?_
    refine Ev.pos (by omega) (Ev.pos (by omega) (Ev.pos (by omega) ?_))
    rw [rd_nat hi, wrap_nat (by omega), List.drop_eq_getElem_cons hi, List.all_cons]
    refine Ev.vbind (l1In_f _ _ _) ?_
    have ih := sch_l0 m l hl d (i + 1) (by omega)
    show Ev (fun k => if wB m l[i] = true then _ else _) _
    cases wB m l[i] with
    | true => exact Ev.pos rfl (by rw [Bool.true_and]; exact ih)
    | false => exact Ev.neg (by simp) (Ev.val rfl)
theorem ckGood_ev (m : Int) (l : List Int) (hl : l.length ≤ 1048576) : Ev (fun k => spec_ckGood.f k m l) (schB m l) := by
  unfold spec_ckGood.f schB
  refine Ev.vbind (l1In_f _ _ _) ?_
  cases decide (2 ≤ m) && decide (m ≤ 13) with
  | false => exact Ev.neg (by simp) (Ev.val rfl)
  | true =>
    refine Ev.pos rfl (Ev.vbind (l1In_f _ _ _) ?_)
    cases decide (1 ≤ (l.length : Int)) && decide ((l.length : Int) ≤ 12) with
    | false => exact Ev.neg (by simp) (Ev.val rfl)
    | true =>
      have h := sch_l0 m l hl l.length 0 (by omega)
      rw [List.drop_zero] at h
      exact Ev.pos rfl (Ev.bind (g := fun k => spec_l1All.f k l 0 (wrap64 (m - 1))) h (Ev.val rfl))
theorem isScheme_f (m : Int) (l : List Int) (hl : l.length ≤ 1048576) : impl_IsScheme.f m l = some (schB m l) := by
  unfold impl_IsScheme.f schB
  have hany : anyO (fun x => (impl_in.f x 0 (wrap64 (m - 1))).map (!·)) l = some (l.any (fun x => !wB m x)) := by
    refine anyO_pure _ _ l (fun x _ => ?_)
    rw [in_f]; rfl
  rw [hany, Option.bind_some, if_pos (by omega)]
  have e : l.any (fun x => !wB m x) = !l.all (wB m) := by
    clear hany hl
    induction l with
    | nil => rfl
    | cons a l ih => rw [List.any_cons, List.all_cons, ih, Bool.not_and]
  rw [e, Bool.not_not]
theorem sch_facts {m : Int} {l : List Int} (h : schB m l = true) : 2 ≤ m ∧ m ≤ 13 ∧ 1 ≤ l.length ∧ l.length ≤ 12 ∧ ∀ w ∈ l, 0 ≤ w ∧ w ≤ 12 := by
  unfold schB at h
  simp only [Bool.and_eq_true, List.all_eq_true, decide_eq_true_eq] at h
  have hw : wrap64 (m - 1) = m - 1 := wrap_in (by omega) (by omega)
  refine ⟨by omega, by omega, by omega, by omega, fun w hw2 => ?_⟩
  have := h.2 w hw2
  unfold wB at this
  simp only [Bool.and_eq_true, decide_eq_true_eq, hw] at this
  omega
end Go.Proofs.YtkplbgeccaadeaaGreatDoor.PA
/-! A scheme's text. No condition but bounds. -/
namespace Go.Proofs.YtkplbgeccaadeaaGreatDoor.PA
open Go.RowKit Go.Proofs.YtkplbgeccaadeaaGreatDoorW.PrintWords
set_option linter.unusedVariables false
section
variable (l : List Int) (hl : l.length ≤ 20) (hs : ∀ y ∈ l, 0 ≤ y ∧ y < 100)
include hl hs
omit hl in
theorem decs_le : ∀ y ∈ l.map decB, y.size ≤ 6 := by
  intro y hy
  obtain ⟨n, hn, rfl⟩ := List.mem_map.mp hy
  exact dec_le n (hs n hn).1 (hs n hn).2
theorem ckText_l0 (p : ByteArray) (hp : p.size ≤ 1000) : ∀ (d i : Nat), i + d = l.length → Ev (fun k => spec_ckText.l0 k (p ++ commaT ((l.map decB).take i)) l (l.length : Int) (i : Int)) (p ++ commaT (l.map decB))
  | 0, i, h => by
    refine Ev.step (fun k => by rw [spec_ckText.l0]) ?_
    refine Ev.neg (by omega) (Ev.val ?_)
    rw [List.take_of_length_le (by simp; omega)]
  | d + 1, i, h => by
    have hi : i < l.length := by omega
    have hy := hs _ (List.getElem_mem hi)
    have hz := comma_size (l.map decB) (decs_le l hs) i (by simp; omega)
    have hd := dec_le l[i] hy.1 hy.2
    have hg : (l.map decB)[i]'(by simpa using hi) = decB l[i] := by simp
    refine Ev.step (fun k => by rw [spec_ckText.l0]) ?_
    refine Ev.pos (by omega) (Ev.pos (by omega) (Ev.pos (by omega) ?_))
    rw [rd_nat hi, wrap_nat (by omega)]
    have ih := ckText_l0 p hp d (i + 1) (by omega)
    cases i with
    | zero =>
      refine Ev.neg (by omega) (Ev.bind (l1Num_ev _ hy.1 hy.2) (Ev.pos (by rw [size_append]; omega) ?_))
      have e : p ++ commaT ((l.map decB).take 0) ++ decB l[0] = p ++ commaT ((l.map decB).take 1) := by
        rw [comma_one (by simpa using hi), hg, comma_zero, app_nil]
      rw [e]
      exact ih
    | succ i =>
      refine Ev.pos (by omega) (Ev.pos (by rw [size_append]; omega) (Ev.bind (l1Num_ev _ hy.1 hy.2) (Ev.pos (by rw [size_append, size_append]; show _ + 1 + _ ≤ _; omega) ?_)))
      have e : p ++ commaT ((l.map decB).take (i + 1)) ++ (⟨#[44]⟩ : ByteArray) ++ decB l[i + 1] = p ++ commaT ((l.map decB).take (i + 2)) := by
        rw [comma_more (by simpa using hi), hg]
        simp only [app_assoc]
      rw [e]
      exact ih
theorem schemeText_l0 (m : Int) (ws : List Int) (h0 : 0 ≤ m) (h1 : m < 100) : ∀ (d i : Nat), i + d = l.length → Ev (fun k => impl_SchemeText.l0 k ((l.map decB).take i) l (l.length : Int) (i : Int) m ws) ((decB m ++ (⟨#[58]⟩ : ByteArray)) ++ commaT (l.map decB), true)
  | 0, i, h => by
    have hz := comma_size (l.map decB) (decs_le l hs) l.length (by simp)
    have hd := dec_le m h0 h1
    rw [List.take_of_length_le (by simp)] at hz
    refine Ev.step (fun k => by rw [impl_SchemeText.l0]) ?_
    refine Ev.neg (by omega) ?_
    rw [List.take_of_length_le (by simp; omega)]
    have hj : strings_Join.f (l.map decB) (⟨#[44]⟩ : ByteArray) = some (commaT (l.map decB)) := by
      unfold strings_Join.f
      have hz' : (Lib.join ((l.map decB).map (·.data.toList)) [44]).length ≤ 7 * l.length := hz
      rw [if_pos ⟨by show (Lib.join _ [44]).length ≤ _; omega, by simp; omega⟩]; rfl
    refine Ev.vbind (itoa_f m h0 h1) (Ev.pos (by omega) (Ev.vbind hj (Ev.pos ?_ (Ev.val rfl))))
    rw [size_append]; show _ + 1 + _ ≤ _; omega
  | d + 1, i, h => by
    have hi : i < l.length := by omega
    have hy := hs _ (List.getElem_mem hi)
    refine Ev.step (fun k => by rw [impl_SchemeText.l0]) ?_
    refine Ev.pos (by omega) (Ev.pos (by omega) (Ev.pos (by omega) ?_))
    rw [rd_nat hi, wrap_nat (by omega)]
    refine Ev.vbind (itoa_f _ hy.1 hy.2) (Ev.pos (by simp; omega) ?_)
    have e : (l.map decB).take i ++ [decB l[i]] = (l.map decB).take (i + 1) := by rw [take_succ_get (by simpa using hi)]; simp
    rw [e]
    exact schemeText_l0 m ws h0 h1 d (i + 1) (by omega)
end
end Go.Proofs.YtkplbgeccaadeaaGreatDoor.PA
/-! A scheme out of its text: the key. No condition but bounds. -/
namespace Go.Proofs.YtkplbgeccaadeaaGreatDoor.PA
open Go.RowKit Go.Proofs.YtkplbgeccaadeaaGreatDoorW.PrintWords
set_option linter.unusedVariables false
/-- a scheme's text -/
def schT (m : Int) (l : List Int) : ByteArray := (decB m ++ (⟨#[58]⟩ : ByteArray)) ++ commaT (l.map decB)
theorem schemeTextI_ev (m : Int) (l : List Int) (h1 : l.length ≤ 1048576) : Ev (fun k => impl_SchemeText.f k m l) (if schB m l = true then (schT m l, true) else (⟨#[]⟩, false)) := by
  have hi := isScheme_f m l h1
  unfold impl_SchemeText.f
  cases g : schB m l with
  | false =>
    rw [g] at hi
    exact Ev.vbind hi (Ev.neg (by simp) (Ev.val rfl))
  | true =>
    rw [g] at hi
    obtain ⟨m0, m1, l0, l1, hw⟩ := sch_facts g
    have hs : ∀ y ∈ l, 0 ≤ y ∧ y < 100 := fun y hy => by have := hw y hy; omega
    have e2 := schemeText_l0 l (by omega) hs m l (by omega) (by omega) l.length 0 (by omega)
    exact Ev.vbind hi (Ev.pos rfl e2)
theorem ckParse_l0 (m : Int) (L : List ByteArray) (hL : L.length ≤ 1000) (hz : ∀ x ∈ L, x.size ≤ 1073741824) (d : Nat) : ∀ (i : Nat) (acc : List Int), i + d = L.length → acc.length = i →
    Ev (fun k => spec_ckParse.l0 k L (L.length : Int) (i : Int) m acc) (if schB m (acc ++ (L.drop i).map readV) = true then (m, acc ++ (L.drop i).map readV, true) else (0, [], false)) := by
  induction d with
  | zero =>
    intro i acc h ha
    rw [List.drop_of_length_le (show L.length ≤ i by omega), List.map_nil, List.append_nil]
    refine Ev.step (fun k => by rw [spec_ckParse.l0]) ?_
    refine Ev.neg (by omega) (Ev.bind (ckGood_ev m acc (by omega)) ?_)
    cases schB m acc
    · exact Ev.neg (by simp) (Ev.val rfl)
    · exact Ev.pos rfl (Ev.val rfl)
  | succ d ih =>
    intro i acc h ha
    have hi : i < L.length := by omega
    refine Ev.step (fun k => by rw [spec_ckParse.l0]) ?_
    refine Ev.pos (by omega) (Ev.pos (by omega) (Ev.pos (by omega) ?_))
    rw [rdS_nat hi, wrap_nat (by omega), List.drop_eq_getElem_cons hi, List.map_cons]
    refine Ev.bind (l1Read_ev _ (hz _ (List.getElem_mem hi))) (Ev.pos (by omega) ?_)
    have := ih (i + 1) (acc ++ [readV L[i]]) (by omega) (by simp; omega)
    simpa using this
theorem parseI_l0 (t : ByteArray) (m : Int) (L : List ByteArray) (hL : L.length ≤ 1048576) (hz : ∀ x ∈ L, x.size ≤ 1073741824) (d : Nat) : ∀ (i : Nat) (acc : List Int), i + d = L.length → acc.length = i →
    Ev (fun k => impl_ParseScheme.l0 k t L (L.length : Int) (i : Int) m acc) (if schB m (acc ++ (L.drop i).map atoiV) = true ∧ schT m (acc ++ (L.drop i).map atoiV) = t then (m, acc ++ (L.drop i).map atoiV, true) else (0, [], false)) := by
  induction d with
  | zero =>
    intro i acc h ha
    rw [List.drop_of_length_le (show L.length ≤ i by omega), List.map_nil, List.append_nil]
    refine Ev.step (fun k => by rw [impl_ParseScheme.l0]) ?_
    refine Ev.neg (by omega) (Ev.bind (schemeTextI_ev m acc (by omega)) ?_)
    cases schB m acc
    · exact Ev.neg (by simp) (Ev.val rfl)
    · refine Ev.pos rfl ?_
      by_cases e : schT m acc = t
      · exact Ev.pos (by rw [← e]; rfl) (Ev.val (by rw [if_pos ⟨rfl, e⟩]))
      · exact Ev.neg (fun x => e (toList_inj.mp x)) (Ev.val (by rw [if_neg (fun x => e x.2)]))
  | succ d ih =>
    intro i acc h ha
    have hi : i < L.length := by omega
    refine Ev.step (fun k => by rw [impl_ParseScheme.l0]) ?_
    refine Ev.pos (by omega) (Ev.pos (by omega) (Ev.pos (by omega) ?_))
    rw [rdS_nat hi, wrap_nat (by omega), List.drop_eq_getElem_cons hi, List.map_cons]
    refine Ev.vbind (show strconv_Atoi.f L[i] = some (atoiV L[i], false) by unfold strconv_Atoi.f; rw [if_pos (hz _ (List.getElem_mem hi))]) (Ev.pos (by omega) ?_)
    have := ih (i + 1) (acc ++ [atoiV L[i]]) (by omega) (by simp; omega)
    simpa using this
theorem atoiV_dec {v : Int} (h0 : 0 ≤ v) (h1 : v < 100) : atoiV (decB v) = v := by
  have := atoi_dec h0 h1
  unfold strconv_Atoi.f at this
  split at this
  · exact (Prod.mk.inj (Option.some.inj this)).1
  · exact absurd this (by simp)
theorem map_back (f : ByteArray → Int) (l : List Int) (h : ∀ y ∈ l, f (decB y) = y) : (l.map decB).map f = l := by
  rw [List.map_map]
  exact (List.map_congr_left (fun y hy => h y hy)).trans (List.map_id l)
theorem parse_good (m : Int) (l : List Int) (g : schB m l = true) (ht : (schT m l).size ≤ 1048576) : Ev (fun k => spec_ParseScheme.f k (schT m l)) (m, l, true) ∧ Ev (fun k => impl_ParseScheme.f k (schT m l)) (m, l, true) := by
  obtain ⟨m0, m1, l0, l1, hw⟩ := sch_facts g
  have hs : ∀ y ∈ l, 0 ≤ y ∧ y < 100 := fun y hy => by have := hw y hy; omega
  have z1 : (decB m).size ≤ 2 := dec_size ⟨m.toNat, by omega⟩ |> fun h => by rwa [show ((⟨m.toNat, by omega⟩ : Fin 100).val : Int) = m by show ((m.toNat : Nat) : Int) = m; omega] at h
  have z2 : (commaT (l.map decB)).size ≤ 3 * l.length := by
    have := comma_len (L := l.map decB) (by
      intro x hx
      obtain ⟨y, hy, rfl⟩ := List.mem_map.mp hx
      have hy2 := hs y hy
      have h := dec_size ⟨y.toNat, by omega⟩
      rwa [show ((⟨y.toNat, by omega⟩ : Fin 100).val : Int) = y by show ((y.toNat : Nat) : Int) = y; omega] at h)
    rwa [List.length_map] at this
  have z3 : (schT m l).size ≤ 40 := by
    unfold schT
    rw [size_append, size_append]; show _ + 1 + _ ≤ _; omega
  have n1 : (58 : UInt8) ∉ (decB m).data.toList := decB_no (by omega) (by omega) (by decide)
  have n2 : (58 : UInt8) ∉ (commaT (l.map decB)).data.toList := comma_no 58 (by decide) (by
    intro x hx
    obtain ⟨y, hy, rfl⟩ := List.mem_map.mp hx
    exact decB_no (hs y hy).1 (hs y hy).2 (by decide))
  have n3 : cutT 44 (commaT (l.map decB)) = l.map decB := cut_comma (by intro e; rw [List.map_eq_nil_iff] at e; rw [e] at l0; simp at l0) (by
    intro x hx
    obtain ⟨y, hy, rfl⟩ := List.mem_map.mp hx
    exact decB_no (hs y hy).1 (hs y hy).2 (by decide))
  have zs : ∀ x ∈ l.map decB, x.size ≤ 1073741824 := fun x hx => by have := decs_le l hs x hx; omega
  refine ⟨?_, ?_⟩
  · have hj : Ev (fun k => spec_ckParse.j0 k [decB m, commaT (l.map decB)] false) (m, l, true) := by
      refine Ev.step (fun k => by rw [spec_ckParse.j0]) ?_
      refine Ev.neg (by simp) (Ev.pos (by simp) (Ev.bind (Ev.eq (l1Read_ev (decB m) (by omega)) (readV_dec (by omega) (by omega))) (Ev.pos (by simp) ?_)))
      refine Ev.bind (Ev.eq (l1Split_ev (commaT (l.map decB)) 44 (by omega)) n3) ?_
      have := ckParse_l0 m (l.map decB) (by simp; omega) zs l.length 0 [] (by simp) rfl
      rw [List.nil_append, List.drop_zero, map_back readV l (fun y hy => readV_dec (hs y hy).1 (hs y hy).2), if_pos g] at this
      exact this
    unfold spec_ParseScheme.f
    refine Ev.bind (a := (m, l, true)) ?_ (Ev.val rfl)
    unfold spec_ckParse.f
    exact Ev.bind (Ev.eq (l1Split_ev (schT m l) 58 (by omega)) (cutT_two 58 _ _ n1 n2)) (Ev.neg (by omega) hj)
  · unfold impl_ParseScheme.f
    refine Ev.vbind (cut_two 58 (decB m) (commaT (l.map decB)) n1 (by omega)) (Ev.vbind (atoi_dec (by omega) (by omega)) ?_)
    refine Ev.vbind (show strings_Split.f (commaT (l.map decB)) ⟨#[44]⟩ = some (l.map decB) by unfold strings_Split.f; rw [if_pos ⟨rfl, by omega⟩, split_cut, n3]) ?_
    have := parseI_l0 (schT m l) m (l.map decB) (by simp; omega) zs l.length 0 [] (by simp) rfl
    rw [List.nil_append, List.drop_zero, map_back atoiV l (fun y hy => atoiV_dec (hs y hy).1 (hs y hy).2), if_pos ⟨g, rfl⟩] at this
    exact this
theorem parseScheme_key2 (t : ByteArray) (ht : t.size ≤ 1048576) :
    ∃ (m : Int) (l : List Int) (b : Bool), Ev (fun k => spec_ParseScheme.f k t) (m, l, b) ∧ Ev (fun k => impl_ParseScheme.f k t) (m, l, b) ∧ l.length ≤ 1048576 ∧ (b = true → schB m l = true ∧ t = schT m l) := by
  by_cases hP : ∃ m l, schB m l = true ∧ t = schT m l
  · obtain ⟨m, l, g, rfl⟩ := hP
    obtain ⟨m0, m1, l0, l1, hw⟩ := sch_facts g
    obtain ⟨p1, p2⟩ := parse_good m l g ht
    exact ⟨m, l, true, p1, p2, by omega, fun _ => ⟨g, rfl⟩⟩
  · refine ⟨0, [], false, ?_, ?_, by simp, by simp⟩
    · unfold spec_ParseScheme.f
      refine Ev.bind (a := (0, [], false)) ?_ (Ev.val rfl)
      unfold spec_ckParse.f
      have bad : ∀ P, Ev (fun k => spec_ckParse.j0 k P true) (0, [], false) := fun P => by
        refine Ev.step (fun k => by rw [spec_ckParse.j0]) ?_
        exact Ev.pos rfl (Ev.val rfl)
      refine Ev.bind (l1Split_ev t 58 (by omega)) (Ev.ite (fun _ => bad _) (fun hz => ?_))
      by_cases h2 : (cutT 58 t).length = 2
      · rw [h2]
        have hcs := cutT_size 58 t
        obtain ⟨a, b, e⟩ : ∃ a b, cutT 58 t = [a, b] := by
          match h : cutT 58 t, h2 with
          | [a, b], _ => exact ⟨a, b, rfl⟩
        rw [e] at hcs ⊢
        have ha := hcs a (by simp)
        have hb := hcs b (by simp)
        show Ev (fun k => spec_ckParse.j0 k [a, b] false) (0, [], false)
        refine Ev.step (fun k => by rw [spec_ckParse.j0]) ?_
        refine Ev.neg (by simp) (Ev.pos (by simp) (Ev.bind (l1Read_ev a (by omega)) (Ev.pos (by simp) (Ev.bind (l1Split_ev b 44 (by omega)) ?_))))
        have hl := cutT_len 44 b
        have := ckParse_l0 (readV a) (cutT 44 b) (by omega) (fun x hx => by have := cutT_size 44 b x hx; omega) (cutT 44 b).length 0 [] (by simp) rfl
        rw [List.nil_append, List.drop_zero, if_neg] at this
        · exact this
        · intro g
          obtain ⟨m0, m1, l0, l1, hw⟩ := sch_facts g
          refine hP ⟨_, _, g, ?_⟩
          rw [cutT_pair e]
          unfold schT
          rw [← read_dec (x := a) (by omega) (by omega)]
          have : ((cutT 44 b).map readV).map decB = cutT 44 b := by
            rw [List.map_map]
            refine (List.map_congr_left (fun y hy => ?_)).trans (List.map_id _)
            have := hw (readV y) (List.mem_map.mpr ⟨y, hy, rfl⟩)
            exact (read_dec (by omega) (by omega)).symm
          rw [this, comma_cut]
      · have e : (((cutT 58 t).length : Int) != 2) = true := by simp; omega
        rw [e]
        exact bad _
    · unfold impl_ParseScheme.f
      obtain ⟨a, b, gg, hc, ha, hb⟩ := cut_ex t 58 ht
      have hl := cutT_len 44 b
      refine Ev.vbind hc (Ev.vbind (show strconv_Atoi.f a = some (atoiV a, false) by unfold strconv_Atoi.f; rw [if_pos (by omega)]) ?_)
      refine Ev.vbind (show strings_Split.f b ⟨#[44]⟩ = some (cutT 44 b) by unfold strings_Split.f; rw [if_pos ⟨rfl, by omega⟩, split_cut]) ?_
      have := parseI_l0 t (atoiV a) (cutT 44 b) (by omega) (fun x hx => by have := cutT_size 44 b x hx; omega) (cutT 44 b).length 0 [] (by simp) rfl
      rw [List.nil_append, List.drop_zero, if_neg (fun h => hP ⟨_, _, h.1, h.2.symm⟩)] at this
      exact this
end Go.Proofs.YtkplbgeccaadeaaGreatDoor.PA
/-! The checks that a sum has: the program's list of them. No condition but bounds. -/
namespace Go.Proofs.YtkplbgeccaadeaaGreatDoor.PA
open Go.RowKit Go.Proofs.YtkplbgeccaadeaaGreatDoorW.PrintWords
set_option linter.unusedVariables false
/-- the checks from one on, so many at most -/
def chkT (m : Nat) : Nat → Nat → List Int
  | 0, _ => []
  | f + 1, c => if c ≤ 10 then (c : Int) :: chkT m f (c + m) else []
theorem checks_l0 (m : Nat) (hm : 2 ≤ m ∧ m ≤ 13) (ws : List Int) : ∀ (f c : Nat) (acc : List Int), c ≤ 30 → 11 ≤ c + f → acc.length + f ≤ 1000 → Ev (fun k => impl_Scheme_checks.l0 k acc (c : Int) (m : Int) ws) (acc ++ chkT m f c, (m : Int))
  | 0, c, acc, h30, h, ha => by
    refine Ev.step (fun k => by rw [impl_Scheme_checks.l0]) ?_
    refine Ev.neg (by omega) (Ev.val ?_)
    unfold chkT
    rw [List.append_nil]
  | f + 1, c, acc, h30, h, ha => by
    refine Ev.step (fun k => by rw [impl_Scheme_checks.l0]) ?_
    unfold chkT
    by_cases hc : c ≤ 10
    · have hw : wrap64 ((c : Int) + (m : Int)) = ((c + m : Nat) : Int) := by rw [wrap_in (by omega) (by omega)]; omega
      refine Ev.pos (by omega) (Ev.pos (by omega) ?_)
      rw [hw, if_pos hc]
      have ih := checks_l0 m hm ws f (c + m) (acc ++ [(c : Int)]) (by omega) (by omega) (by rw [List.length_append]; simp; omega)
      refine Ev.eq ih ?_
      rw [List.append_assoc]
      rfl
    · refine Ev.neg (by omega) (Ev.val ?_)
      rw [if_neg hc, List.append_nil]
theorem checks_ev (m : Nat) (hm : 2 ≤ m ∧ m ≤ 13) (ws : List Int) (v : Int) (hv : 0 ≤ v) : Ev (fun k => impl_Scheme_checks.f k (m : Int) ws v) (chkT m 11 (((m : Int) - v % m) % m).toNat, (m : Int)) := by
  have h1 : 0 ≤ v % (m : Int) := Int.emod_nonneg _ (by omega)
  have h2 : v % (m : Int) < m := Int.emod_lt_of_pos _ (by omega)
  have h3 : 0 ≤ ((m : Int) - v % m) % m := Int.emod_nonneg _ (by omega)
  have h4 : ((m : Int) - v % m) % m < m := Int.emod_lt_of_pos _ (by omega)
  have hc : impl_Scheme_check.f (m : Int) ws v = some ((((((m : Int) - v % m) % m).toNat : Nat) : Int), (m : Int)) := by
    unfold impl_Scheme_check.f
    rw [if_neg (by omega), Int.tmod_eq_emod_of_nonneg hv, wrap_in (by omega) (by omega), Int.tmod_eq_emod_of_nonneg (by omega), Int.toNat_of_nonneg h3]
  unfold impl_Scheme_checks.f
  refine Ev.vbind hc ?_
  have h := checks_l0 m hm ws 11 (((m : Int) - v % m) % m).toNat [] (by omega) (by omega) (by simp)
  rw [List.nil_append] at h
  exact h
end Go.Proofs.YtkplbgeccaadeaaGreatDoor.PA
/-! The least right number above another one, told by lists of digits: plain numbers, no program in sight. No condition. -/
namespace Go.Proofs.YtkplbgeccaadeaaGreatDoor.PA
set_option linter.unusedVariables false
def q10 : Nat → Nat
  | 0 => 1
  | n + 1 => 10 * q10 n
def Digs (l : List Nat) : Prop := ∀ d ∈ l, d < 10
theorem Digs.left {a b : List Nat} (h : Digs (a ++ b)) : Digs a := fun x hx => h x (List.mem_append_left _ hx)
theorem Digs.take {e : List Nat} (h : Digs e) (i : Nat) : Digs (e.take i) := fun d hd => h d (List.mem_of_mem_take hd)
theorem Digs.drop {e : List Nat} (h : Digs e) (i : Nat) : Digs (e.drop i) := fun d hd => h d (List.mem_of_mem_drop hd)
end Go.Proofs.YtkplbgeccaadeaaGreatDoor.PA
/-! How many numbers are right: both programs count the same, digits by their sums; how many at least and at most. No condition but bounds. -/
namespace Go.Proofs.YtkplbgeccaadeaaGreatDoor.PA
open Go.RowKit Go.Proofs.YtkplbgeccaadeaaGreatDoorW.PrintWords
set_option linter.unusedVariables false
theorem sum_set : ∀ (X : List Int) (j : Nat) (v : Int) (h : j < X.length), (X.set j v).sum = X.sum - X[j] + v
  | [], j, v, h => absurd h (by simp)
  | x :: X, 0, v, h => by
    simp only [List.set_cons_zero, List.sum_cons, List.getElem_cons_zero]
    omega
  | x :: X, j + 1, v, h => by
    have hj : j < X.length := by simpa using h
    have := sum_set X j v hj
    simp only [List.set_cons_succ, List.sum_cons, List.getElem_cons_succ]
    omega
theorem sum_nn : ∀ (X : List Int), (∀ x ∈ X, 0 ≤ x) → 0 ≤ X.sum
  | [], _ => by simp
  | x :: X, h => by
    have h1 := h x (List.mem_cons_self ..)
    have h2 := sum_nn X (fun y hy => h y (List.mem_cons_of_mem _ hy))
    rw [List.sum_cons]
    omega
theorem le_sum : ∀ (X : List Int) (j : Nat) (hj : j < X.length), (∀ x ∈ X, 0 ≤ x) → X[j] ≤ X.sum
  | [], j, hj, _ => absurd hj (by simp)
  | x :: X, 0, hj, h => by
    have h2 := sum_nn X (fun y hy => h y (List.mem_cons_of_mem _ hy))
    rw [List.sum_cons, List.getElem_cons_zero]
    omega
  | x :: X, j + 1, hj, h => by
    have h1 := h x (List.mem_cons_self ..)
    have h2 := le_sum X j (by simpa using hj) (fun y hy => h y (List.mem_cons_of_mem _ hy))
    rw [List.sum_cons, List.getElem_cons_succ]
    omega
theorem sum_rep (n : Nat) : (List.replicate n (0 : Int)).sum = 0 := by
  induction n with
  | zero => rfl
  | succ n ih => rw [List.replicate_succ, List.sum_cons, ih]; rfl
/-- a list of counts, so many of them -/
def Cnt (m : Nat) (X : List Int) : Prop := X.length = m ∧ ∀ x ∈ X, 0 ≤ x
theorem Cnt.set {m : Nat} {X : List Int} (h : Cnt m X) (j : Nat) {v : Int} (hv : 0 ≤ v) : Cnt m (X.set j v) := ⟨by rw [List.length_set]; exact h.1, fun x hx => by
  rcases List.mem_or_eq_of_mem_set hx with h1 | h1
  · exact h.2 x h1
  · rw [h1]; exact hv⟩
section
variable {m : Nat} {ws : List Int} (hm : 2 ≤ m ∧ m ≤ 13) (hn : ws.length ≤ 12) (hw : ∀ w ∈ ws, 0 ≤ w ∧ w < (m : Int))
include hm
/-- the ten digits at one rest -/
theorem l2_cps {w : Int} (h0 : 0 ≤ w ∧ w < (m : Int)) (i : Int) (now : List Int) (r : Nat) (hr : r < m) (n : Int) (hn0 : 0 ≤ n) : ∀ (q d : Nat) (X : List Int), d + q = 10 → Cnt m X → X.sum + q * n ≤ 1000000000000000 →
    ∃ Y, Cnt m Y ∧ Y.sum = X.sum + q * n ∧ X.getD 0 0 ≤ Y.getD 0 0 ∧ (r = 0 → d = 0 → X.getD 0 0 + n ≤ Y.getD 0 0) ∧
      (∀ R, Ev (fun k => impl_CountRight.l1 k w Y ws (ws.length : Int) i now (now.length : Int) (wrap64 ((r : Int) + 1)) (m : Int) ws) R → Ev (fun k => impl_CountRight.l2 k w X (r : Int) n ws (ws.length : Int) i now (now.length : Int) (r : Int) (d : Int) (m : Int) ws) R) ∧
      (∀ R, Ev (fun k => spec_CountRight.l1 k w Y ws (ws.length : Int) i now (now.length : Int) (wrap64 ((r : Int) + 1)) (m : Int) ws) R → Ev (fun k => spec_CountRight.l2 k w X (r : Int) n (d : Int) ws (ws.length : Int) i now (now.length : Int) (r : Int) (m : Int) ws) R) := by
  intro q
  induction q with
  | zero =>
    intro d X hd hX hs
    have hd10 : d = 10 := by omega
    refine ⟨X, hX, by simp, Int.le_refl _, fun _ h => by omega, fun R hR => ?_, fun R hR => ?_⟩
    · refine Ev.step (fun k => by rw [impl_CountRight.l2]) ?_
      exact Ev.neg (by omega) hR
    · refine Ev.step (fun k => by rw [spec_CountRight.l2]) ?_
      exact Ev.neg (by omega) hR
  | succ q ih =>
    intro d X hd hX hs
    have hp0 : 0 ≤ (d : Int) * w := Int.mul_nonneg (by omega) h0.1
    have hp1 : (d : Int) * w ≤ 9 * 12 := Int.mul_le_mul (by omega) (by omega) h0.1 (by decide)
    have hcm : w * (d : Int) = (d : Int) * w := Int.mul_comm _ _
    obtain ⟨j, hj⟩ : ∃ j : Nat, Int.tmod ((r : Int) + (d : Int) * w) (m : Int) = (j : Int) := ⟨_, (Int.toNat_of_nonneg (Int.tmod_nonneg _ (by omega))).symm⟩
    have hjm : j < m := by
      have := Int.tmod_lt_of_pos ((r : Int) + (d : Int) * w) (b := (m : Int)) (by omega)
      omega
    have hjl : j < X.length := by rw [hX.1]; exact hjm
    have hx0 := hX.2 _ (List.getElem_mem hjl)
    have hxs := le_sum X j hjl hX.2
    have hqn : 0 ≤ (q : Int) * n := Int.mul_nonneg (by omega) hn0
    have hmul : ((q + 1 : Nat) : Int) * n = (q : Int) * n + n := by
      rw [show ((q + 1 : Nat) : Int) = (q : Int) + 1 by omega, Int.add_mul, Int.one_mul]
    rw [hmul] at hs ⊢
    have hsum := sum_set X j (X[j] + n) hjl
    obtain ⟨Y, y1, y2, y3, y4, y5, y6⟩ := ih (d + 1) (X.set j (X[j] + n)) (by omega) (hX.set j (by omega)) (by rw [hsum]; omega)
    have hw1 : wrap64 ((r : Int) + wrap64 ((d : Int) * w)) = (r : Int) + (d : Int) * w := by rw [wrap_in (n := (d : Int) * w) (by omega) (by omega), wrap_in (by omega) (by omega)]
    have hw2 : wrap64 ((r : Int) + wrap64 (w * (d : Int))) = (r : Int) + (d : Int) * w := by rw [hcm]; exact hw1
    have hget : ∀ v, X.getD 0 0 ≤ (X.set j v).getD 0 0 ∨ j = 0 := fun v => by
      rcases Nat.eq_zero_or_pos j with h | h
      · exact .inr h
      · left
        simp only [List.getD]
        rw [List.getElem?_set_ne (by omega)]
        exact Int.le_refl _
    have hg0 : X.getD 0 0 ≤ (X.set j (X[j] + n)).getD 0 0 := by
      rcases hget (X[j] + n) with h | h
      · exact h
      · subst h
        simp only [List.getD]
        rw [List.getElem?_set_self hjl, List.getElem?_eq_getElem hjl]
        simp only [Option.getD_some]
        omega
    refine ⟨Y, y1, by rw [y2, hsum]; omega, by omega, fun hr0 hd0 => ?_, fun R hR => ?_, fun R hR => ?_⟩
    · subst hr0
      subst hd0
      have hj0 : j = 0 := by
        have : Int.tmod (((0 : Nat) : Int) + ((0 : Nat) : Int) * w) (m : Int) = 0 := by simp
        omega
      subst hj0
      have : X.getD 0 0 + n = (X.set 0 (X[0] + n)).getD 0 0 := by
        simp only [List.getD]
        rw [List.getElem?_set_self hjl, List.getElem?_eq_getElem hjl]
        rfl
      omega
    · refine Ev.step (fun k => by rw [impl_CountRight.l2]) ?_
      rw [hw1, hj, rd_nat hjl, Int.toNat_natCast, wrap_nat (i := d) (by omega), wrap_in (n := X[j] + n) (by omega) (by omega)]
      refine Ev.pos (by omega) ?_
      refine Ev.neg (by omega) ?_
      refine Ev.pos (by omega) ?_
      refine Ev.pos (by omega) ?_
      exact y5 R hR
    · refine Ev.step (fun k => by rw [spec_CountRight.l2]) ?_
      rw [hw2, hj, rd_nat hjl, Int.toNat_natCast, wrap_nat (i := d) (by omega), wrap_in (n := X[j] + n) (by omega) (by omega)]
      refine Ev.pos (by omega) ?_
      refine Ev.neg (by omega) ?_
      refine Ev.pos (by omega) ?_
      refine Ev.pos (by omega) ?_
      exact y6 R hR
/-- all rests at one place -/
theorem l1_cps {w : Int} (h0 : 0 ≤ w ∧ w < (m : Int)) (i : Int) (now : List Int) (hN : Cnt m now) (hNs : now.sum ≤ 10000000000000) : ∀ (q r : Nat) (X : List Int), r + q = m → Cnt m X → X.sum = 10 * (now.take r).sum →
    ∃ Y, Cnt m Y ∧ Y.sum = 10 * now.sum ∧ X.getD 0 0 ≤ Y.getD 0 0 ∧ (r = 0 → now.getD 0 0 ≤ Y.getD 0 0) ∧
      (∀ R, Ev (fun k => impl_CountRight.l0 k Y ws (ws.length : Int) (wrap64 (i + 1)) (m : Int) ws) R → Ev (fun k => impl_CountRight.l1 k w X ws (ws.length : Int) i now (now.length : Int) (r : Int) (m : Int) ws) R) ∧
      (∀ R, Ev (fun k => spec_CountRight.l0 k Y ws (ws.length : Int) (wrap64 (i + 1)) (m : Int) ws) R → Ev (fun k => spec_CountRight.l1 k w X ws (ws.length : Int) i now (now.length : Int) (r : Int) (m : Int) ws) R) := by
  intro q
  induction q with
  | zero =>
    intro r X hr hX hs
    have hrm : r = m := by omega
    refine ⟨X, hX, by rw [hs, List.take_of_length_le (by rw [hN.1]; omega)], Int.le_refl _, fun h => by omega, fun R hR => ?_, fun R hR => ?_⟩
    · refine Ev.step (fun k => by rw [impl_CountRight.l1]) ?_
      exact Ev.neg (by rw [hN.1]; omega) hR
    · refine Ev.step (fun k => by rw [spec_CountRight.l1]) ?_
      exact Ev.neg (by rw [hN.1]; omega) hR
  | succ q ih =>
    intro r X hr hX hs
    have hrl : r < now.length := by rw [hN.1]; omega
    have a1 : (r : Int) < (now.length : Int) := by omega
    have a0 : (0 : Int) ≤ (r : Int) := by omega
    have hn0 := hN.2 _ (List.getElem_mem hrl)
    have htk : (now.take (r + 1)).sum = (now.take r).sum + now[r] := by
      rw [take_succ_get hrl, List.sum_append]
      simp
    have htl : (now.take (r + 1)).sum ≤ now.sum := by
      have h1 : now.sum = (now.take (r + 1)).sum + (now.drop (r + 1)).sum := by rw [← List.sum_append, List.take_append_drop]
      have h2 := sum_nn (now.drop (r + 1)) (fun x hx => hN.2 x (List.mem_of_mem_drop hx))
      omega
    have hX0 := sum_nn X hX.2
    obtain ⟨Z, z1, z2, z3, z4, z5, z6⟩ := l2_cps (ws := ws) hm h0 i now r (by omega) now[r] hn0 10 0 X (by omega) hX (by omega)
    obtain ⟨Y, y1, y2, y3, y4, y5, y6⟩ := ih (r + 1) Z (by omega) z1 (by rw [z2, hs, htk]; omega)
    have hwr : wrap64 ((r : Int) + 1) = ((r + 1 : Nat) : Int) := wrap_nat (by omega)
    rw [hwr] at z5 z6
    rw [show ((0 : Nat) : Int) = 0 from rfl] at z5 z6
    refine ⟨Y, y1, y2, by omega, fun h => ?_, fun R hR => ?_, fun R hR => ?_⟩
    · subst h
      have hX00 : 0 ≤ X.getD 0 0 := by
        simp only [List.getD]
        rw [List.getElem?_eq_getElem (by rw [hX.1]; omega)]
        exact hX.2 _ (List.getElem_mem _)
      have hnow : now.getD 0 0 = now[0] := by simp [List.getD, hrl]
      have := z4 rfl rfl
      rw [hnow]
      omega
    · refine Ev.step (fun k => by rw [impl_CountRight.l1]) ?_
      rw [rd_nat hrl]
      refine Ev.pos a1 ?_
      refine Ev.pos a0 ?_
      refine Ev.pos a1 ?_
      exact z5 R (y5 R hR)
    · refine Ev.step (fun k => by rw [spec_CountRight.l1]) ?_
      rw [rd_nat hrl]
      refine Ev.pos a1 ?_
      refine Ev.pos a0 ?_
      refine Ev.pos a1 ?_
      exact z6 R (y6 R hR)
include hn hw
/-- all places -/
theorem l0_cps : ∀ (q i : Nat) (now : List Int), i + q = ws.length → Cnt m now → now.sum = q10 i →
    ∃ Y, Cnt m Y ∧ Y.sum = q10 ws.length ∧ now.getD 0 0 ≤ Y.getD 0 0 ∧
      (∀ R, Ev (fun k => impl_CountRight.l3 k 0 Y (Y.length : Int) 0 (m : Int) ws) R → Ev (fun k => impl_CountRight.l0 k now ws (ws.length : Int) (i : Int) (m : Int) ws) R) ∧
      (∀ R, Ev (fun k => spec_CountRight.l3 k 0 Y (Y.length : Int) 0 (m : Int) ws) R → Ev (fun k => spec_CountRight.l0 k now ws (ws.length : Int) (i : Int) (m : Int) ws) R) := by
  intro q
  induction q with
  | zero =>
    intro i now hi hN hs
    have hil : i = ws.length := by omega
    refine ⟨now, hN, by rw [hs, hil], Int.le_refl _, fun R hR => ?_, fun R hR => ?_⟩
    · refine Ev.step (fun k => by rw [impl_CountRight.l0]) ?_
      exact Ev.neg (by omega) hR
    · refine Ev.step (fun k => by rw [spec_CountRight.l0]) ?_
      exact Ev.neg (by omega) hR
  | succ q ih =>
    intro i now hi hN hs
    have hil : i < ws.length := by omega
    have b1 : (i : Int) < (ws.length : Int) := by omega
    have b0 : (0 : Int) ≤ (i : Int) := by omega
    have b2 : (0 : Int) ≤ (m : Int) := by omega
    have b3 : m ≤ 35184372088832 := by omega
    have hwb := hw _ (List.getElem_mem hil)
    have hq : ∀ n : Nat, n ≤ 12 → q10 n ≤ 1000000000000 := by decide +kernel
    have hqi := hq i (by omega)
    obtain ⟨Z, z1, z2, z3, z4, z5, z6⟩ := l1_cps (ws := ws) hm hwb (i : Int) now hN (by rw [hs]; omega) m 0 (List.replicate m 0) (by omega) ⟨by simp, fun x hx => by rw [(List.mem_replicate.mp hx).2]; omega⟩ (by rw [sum_rep]; simp)
    have hz : Z.sum = q10 (i + 1) := by
      rw [z2, hs]
      show 10 * (q10 i : Int) = ((10 * q10 i : Nat) : Int)
      omega
    obtain ⟨Y, y1, y2, y3, y4, y5⟩ := ih (i + 1) Z (by omega) z1 hz
    have hwr : wrap64 ((i : Int) + 1) = ((i + 1 : Nat) : Int) := wrap_nat (by omega)
    rw [hwr] at z5 z6
    rw [show ((0 : Nat) : Int) = 0 from rfl] at z5 z6
    refine ⟨Y, y1, y2, by have := z4 rfl; omega, fun R hR => ?_, fun R hR => ?_⟩
    · refine Ev.step (fun k => by rw [impl_CountRight.l0]) ?_
      rw [rd_nat hil, Int.toNat_natCast]
      refine Ev.pos b1 ?_
      refine Ev.pos b0 ?_
      refine Ev.pos b1 ?_
      refine Ev.pos b2 ?_
      refine Ev.pos b3 ?_
      exact z5 R (y4 R hR)
    · refine Ev.step (fun k => by rw [spec_CountRight.l0]) ?_
      rw [rd_nat hil, Int.toNat_natCast]
      refine Ev.pos b1 ?_
      refine Ev.pos b0 ?_
      refine Ev.pos b1 ?_
      refine Ev.pos b2 ?_
      refine Ev.pos b3 ?_
      exact z6 R (y5 R hR)
end
/-- how many checks a rest has -/
def ckN (m r : Nat) : Nat := ((List.range 11).filter fun c => (r + c) % m == 0).length
theorem ckN_chkT : ∀ m : Fin 14, 2 ≤ m.val → ∀ r : Fin 14, r.val < m.val → (chkT m.val 11 (((m.val : Int) - (r.val : Int) % m.val) % m.val).toNat).length = ckN m.val r.val := by decide +kernel
theorem ckN_bounds : ∀ m : Fin 14, 2 ≤ m.val → ∀ r : Fin 14, r.val < m.val → ckN m.val r.val ≤ 6 ∧ (m.val = 11 → ckN m.val r.val = 1) ∧ (m.val = 10 → 1 ≤ ckN m.val r.val ∧ ckN m.val r.val ≤ 2) ∧ (11 < m.val → ckN m.val r.val ≤ 1) ∧ 1 ≤ ckN m.val 0 := by decide +kernel
/-- a sum of counts, each as often as its rest has checks -/
def wck (m : Nat) : Nat → List Int → Int
  | _, [] => 0
  | r, x :: X => x * (ckN m r : Int) + wck m (r + 1) X
theorem vchk_ev (m : Nat) (hm : 2 ≤ m ∧ m ≤ 13) (ws : List Int) (v : Int) (hv : 0 ≤ v) : Ev (fun k => virt_checks26.f k (m : Int) ws v) (chkT m 11 (((m : Int) - v % m) % m).toNat) := by
  unfold virt_checks26.f
  exact Ev.bind (checks_ev m hm ws v hv) (Ev.pos rfl (Ev.val rfl))
theorem impl_l3 (m : Nat) (hm : 2 ≤ m ∧ m ≤ 13) (ws : List Int) (Y : List Int) (hY : Cnt m Y) (hs : Y.sum ≤ 1000000000000) : ∀ (q r : Nat) (x : Int), r + q = m → 0 ≤ x → x ≤ 6 * (Y.take r).sum →
    ∃ v, Ev (fun k => impl_CountRight.l3 k x Y (Y.length : Int) (r : Int) (m : Int) ws) (v, true) ∧ v = x + wck m r (Y.drop r)
  | 0, r, x, hr, h0, h1 => by
    refine ⟨x, ?_, by rw [List.drop_of_length_le (by rw [hY.1]; omega)]; show x = x + 0; omega⟩
    refine Ev.step (fun k => by rw [impl_CountRight.l3]) ?_
    exact Ev.neg (by rw [hY.1]; omega) (Ev.val rfl)
  | q + 1, r, x, hr, h0, h1 => by
    have hrl : r < Y.length := by rw [hY.1]; omega
    have hy := hY.2 _ (List.getElem_mem hrl)
    have hys := le_sum Y r hrl hY.2
    have hck := vchk_ev m hm ws (r : Int) (by omega)
    have hcl := ckN_chkT ⟨m, by omega⟩ hm.1 ⟨r, by omega⟩ (by show r < m; omega)
    have hcb := (ckN_bounds ⟨m, by omega⟩ hm.1 ⟨r, by omega⟩ (by show r < m; omega)).1
    simp only at hcl hcb
    have htk : (Y.take (r + 1)).sum = (Y.take r).sum + Y[r] := by
      rw [take_succ_get hrl, List.sum_append]
      simp
    have htl : (Y.take (r + 1)).sum ≤ Y.sum := by
      have e1 : Y.sum = (Y.take (r + 1)).sum + (Y.drop (r + 1)).sum := by rw [← List.sum_append, List.take_append_drop]
      have e2 := sum_nn (Y.drop (r + 1)) (fun x hx => hY.2 x (List.mem_of_mem_drop hx))
      omega
    have hp0 : 0 ≤ Y[r] * (ckN m r : Int) := Int.mul_nonneg hy (by omega)
    have hp1 : Y[r] * (ckN m r : Int) ≤ Y[r] * 6 := Int.mul_le_mul_of_nonneg_left (by omega) hy
    obtain ⟨v, e, hv⟩ := impl_l3 m hm ws Y hY hs q (r + 1) (x + Y[r] * (ckN m r : Int)) (by omega) (by omega) (by omega)
    refine ⟨v, ?_, ?_⟩
    · refine Ev.step (fun k => by rw [impl_CountRight.l3]) ?_
      refine Ev.pos (by omega) (Ev.pos (by omega) (Ev.pos (by omega) (Ev.bind hck ?_)))
      rw [rd_nat hrl, hcl, wrap_nat (i := r) (by omega), wrap_in (n := Y[r] * (ckN m r : Int)) (by omega) (by omega), wrap_in (by omega) (by omega)]
      exact e
    · rw [hv, List.drop_eq_getElem_cons hrl]
      show _ = x + (Y[r] * (ckN m r : Int) + wck m (r + 1) (Y.drop (r + 1)))
      omega
def ckF (m r c : Nat) : Nat := ((List.range 11).filter fun q => decide (c ≤ q) && (r + q) % m == 0).length
theorem ckF_all (m r : Nat) : ckF m r 0 = ckN m r := by
  unfold ckF ckN
  congr 2
theorem ckF_end (m r : Nat) : ckF m r 11 = 0 := by
  unfold ckF
  rw [List.length_eq_zero_iff, List.filter_eq_nil_iff]
  intro a ha
  have := List.mem_range.mp ha
  simp
  omega
theorem ckF_step : ∀ m : Fin 14, 2 ≤ m.val → ∀ r : Fin 14, r.val < m.val → ∀ c : Fin 11, ckF m.val r.val c.val = (if (r.val + c.val) % m.val = 0 then 1 else 0) + ckF m.val r.val (c.val + 1) := by decide +kernel
theorem spec_l4 (m : Nat) (hm : 2 ≤ m ∧ m ≤ 13) (ws Y : List Int) (r : Nat) (hr : r < m) (n : Int) (hn : 0 ≤ n ∧ n ≤ 1000000000000) : ∀ (q c : Nat) (x : Int), c + q = 11 → 0 ≤ x → x + q * 1000000000000 ≤ 100000000000000 →
    ∀ R, Ev (fun k => spec_CountRight.l3 k (x + n * (ckF m r c : Int)) Y (Y.length : Int) (wrap64 ((r : Int) + 1)) (m : Int) ws) R → Ev (fun k => spec_CountRight.l4 k x (r : Int) n (c : Int) Y (Y.length : Int) (r : Int) (m : Int) ws) R
  | 0, c, x, hc, h0, h1, R, hR => by
    have hc11 : c = 11 := by omega
    subst hc11
    rw [ckF_end] at hR
    refine Ev.step (fun k => by rw [spec_CountRight.l4]) ?_
    refine Ev.neg (by omega) ?_
    rw [show x + n * ((0 : Nat) : Int) = x by simp] at hR
    exact hR
  | q + 1, c, x, hc, h0, h1, R, hR => by
    have c1 : (c : Int) ≤ 10 := by omega
    have c2 : ¬ (m : Int) = 0 := by omega
    have c3 : c + 1 + q = 11 := by omega
    have c4 : 0 ≤ x + n := by omega
    have hst := ckF_step ⟨m, by omega⟩ hm.1 ⟨r, by omega⟩ hr ⟨c, by omega⟩
    simp only at hst
    have htm : Int.tmod (wrap64 ((r : Int) + (c : Int))) (m : Int) = (((r + c) % m : Nat) : Int) := by
      rw [wrap_in (by clear hst; omega) (by clear hst; omega), Int.tmod_eq_emod_of_nonneg (by clear hst; omega)]
      rw [← Int.natCast_add]
      exact (Int.natCast_emod _ _).symm
    have hwc : wrap64 ((c : Int) + 1) = ((c + 1 : Nat) : Int) := wrap_nat (by omega)
    refine Ev.step (fun k => by rw [spec_CountRight.l4]) ?_
    rw [htm, hwc]
    refine Ev.pos c1 ?_
    refine Ev.neg c2 ?_
    by_cases hd : (r + c) % m = 0
    · rw [if_pos hd] at hst
      have hwx : wrap64 (x + n) = x + n := wrap_in (by clear hst htm; omega) (by clear hst htm; omega)
      refine Ev.pos (by rw [hd]; rfl) ?_
      rw [hwx]
      refine spec_l4 m hm ws Y r hr n hn q (c + 1) (x + n) c3 c4 (by clear hst htm; omega) R ?_
      have e : x + n + n * (ckF m r (c + 1) : Int) = x + n * (ckF m r c : Int) := by
        rw [hst]
        have : ((1 + ckF m r (c + 1) : Nat) : Int) = 1 + (ckF m r (c + 1) : Int) := by omega
        rw [this, Int.mul_add, Int.mul_one, Int.add_assoc]
      rw [e]
      exact hR
    · rw [if_neg hd, Nat.zero_add] at hst
      refine Ev.neg (by clear hst htm; omega) ?_
      refine spec_l4 m hm ws Y r hr n hn q (c + 1) x c3 h0 (by clear hst htm; omega) R ?_
      rw [← hst]
      exact hR
theorem part_le (X : List Int) (hX : ∀ x ∈ X, 0 ≤ x) (r : Nat) (hr : r < X.length) : (X.take (r + 1)).sum = (X.take r).sum + X[r] ∧ (X.take (r + 1)).sum ≤ X.sum := by
  refine ⟨by rw [take_succ_get hr, List.sum_append]; simp, ?_⟩
  have e1 : X.sum = (X.take (r + 1)).sum + (X.drop (r + 1)).sum := by rw [← List.sum_append, List.take_append_drop]
  have e2 := sum_nn (X.drop (r + 1)) (fun x hx => hX x (List.mem_of_mem_drop hx))
  omega
theorem step_le (m : Nat) (hm : 2 ≤ m ∧ m ≤ 13) (X : List Int) (hX : ∀ x ∈ X, 0 ≤ x) (hs : X.sum ≤ 1000000000000) (r : Nat) (hr : r < X.length) (hrm : r < m) (x : Int) (h0 : 0 ≤ x) (h1 : x ≤ 6 * (X.take r).sum) :
    0 ≤ X[r] ∧ X[r] ≤ 1000000000000 ∧ 0 ≤ x + X[r] * (ckN m r : Int) ∧ x + X[r] * (ckN m r : Int) ≤ 6 * (X.take (r + 1)).sum ∧ x + 11 * 1000000000000 ≤ 100000000000000 := by
  have hy := hX _ (List.getElem_mem hr)
  have hys := le_sum X r hr hX
  have hcb := (ckN_bounds ⟨m, by omega⟩ hm.1 ⟨r, by omega⟩ hrm).1
  simp only at hcb
  obtain ⟨p1, p2⟩ := part_le X hX r hr
  have hp0 : 0 ≤ X[r] * (ckN m r : Int) := Int.mul_nonneg hy (by omega)
  have hp1 : X[r] * (ckN m r : Int) ≤ X[r] * 6 := Int.mul_le_mul_of_nonneg_left (by omega) hy
  refine ⟨hy, by omega, by omega, by omega, by omega⟩
theorem spec_l3 (m : Nat) (hm : 2 ≤ m ∧ m ≤ 13) (ws : List Int) (Y : List Int) (hY : Cnt m Y) (hs : Y.sum ≤ 1000000000000) : ∀ (q r : Nat) (x : Int), r + q = m → 0 ≤ x → x ≤ 6 * (Y.take r).sum →
    Ev (fun k => spec_CountRight.l3 k x Y (Y.length : Int) (r : Int) (m : Int) ws) (x + wck m r (Y.drop r), true) := by
  intro q
  induction q with
  | zero =>
    intro r x hr h0 h1
    refine Ev.step (fun k => by rw [spec_CountRight.l3]) ?_
    refine Ev.neg (by rw [hY.1]; omega) (Ev.val ?_)
    rw [List.drop_of_length_le (by rw [hY.1]; omega)]
    show some (x, true) = some (x + 0, true)
    rw [Int.add_zero]
  | succ q ih =>
    intro r x hr h0 h1
    have hrl : r < Y.length := by rw [hY.1]; omega
    have hrm : r < m := by omega
    have c1 : (r : Int) < (Y.length : Int) := by omega
    have c0 : (0 : Int) ≤ (r : Int) := by omega
    have c2 : r + 1 + q = m := by omega
    have hwr : wrap64 ((r : Int) + 1) = ((r + 1 : Nat) : Int) := wrap_nat (by omega)
    obtain ⟨d1, d2, d3, d4, d5⟩ := step_le m hm Y hY.2 hs r hrl hrm x h0 h1
    have ih2 := ih (r + 1) (x + Y[r] * (ckN m r : Int)) c2 d3 d4
    refine Ev.step (fun k => by rw [spec_CountRight.l3]) ?_
    rw [rd_nat hrl]
    refine Ev.pos c1 ?_
    refine Ev.pos c0 ?_
    refine Ev.pos c1 ?_
    refine spec_l4 m hm ws Y r hrm Y[r] ⟨d1, d2⟩ 11 0 x rfl h0 d5 _ ?_
    rw [ckF_all, hwr]
    refine Ev.eq ih2 ?_
    rw [List.drop_eq_getElem_cons hrl]
    show (x + Y[r] * (ckN m r : Int) + wck m (r + 1) (Y.drop (r + 1)), true) = (x + (Y[r] * (ckN m r : Int) + wck m (r + 1) (Y.drop (r + 1))), true)
    rw [Int.add_assoc]
/-- what the sum tells -/
theorem wck_bounds (m : Nat) (hm : 2 ≤ m ∧ m ≤ 13) : ∀ (X : List Int) (r : Nat), r + X.length ≤ m → (∀ x ∈ X, 0 ≤ x) → 0 ≤ wck m r X ∧ (m = 11 → wck m r X = X.sum) ∧ (m = 10 → X.sum ≤ wck m r X ∧ wck m r X ≤ 2 * X.sum) ∧ (11 < m → wck m r X ≤ X.sum)
  | [], r, _, _ => by
    refine ⟨Int.le_refl _, fun _ => rfl, fun _ => ⟨Int.le_refl _, Int.le_refl _⟩, fun _ => Int.le_refl _⟩
  | x :: X, r, hr, hX => by
    have hx := hX x (List.mem_cons_self ..)
    rw [List.length_cons] at hr
    obtain ⟨i1, i2, i3, i4⟩ := wck_bounds m hm X (r + 1) (by omega) (fun y hy => hX y (List.mem_cons_of_mem _ hy))
    obtain ⟨b1, b2, b3, b4, _⟩ := ckN_bounds ⟨m, by omega⟩ hm.1 ⟨r, by omega⟩ (by show r < m; omega)
    simp only at b1 b2 b3 b4
    have e : wck m r (x :: X) = x * (ckN m r : Int) + wck m (r + 1) X := rfl
    rw [e, List.sum_cons]
    have hp0 : 0 ≤ x * (ckN m r : Int) := Int.mul_nonneg hx (by omega)
    refine ⟨by omega, fun h => ?_, fun h => ?_, fun h => ?_⟩
    · rw [b2 h, i2 h]
      omega
    · have h1 : x * 1 ≤ x * (ckN m r : Int) := Int.mul_le_mul_of_nonneg_left (by have := (b3 h).1; omega) hx
      have h2 : x * (ckN m r : Int) ≤ x * 2 := Int.mul_le_mul_of_nonneg_left (by have := (b3 h).2; omega) hx
      have := i3 h
      omega
    · have h2 : x * (ckN m r : Int) ≤ x * 1 := Int.mul_le_mul_of_nonneg_left (by have := b4 h; omega) hx
      have := i4 h
      omega
/-- how many numbers are right: the same in both, and how many at least and at most -/
theorem count_key (m : Int) (l : List Int) (hl : l.length ≤ 1048576) : ∃ r : Int × Bool, Ev (fun k => spec_CountRight.f k m l) r ∧ Ev (fun k => impl_CountRight.f k m l) r ∧ r.2 = schB m l ∧
    (r.2 = true → 1 ≤ r.1 ∧ (m = 11 → r.1 = q10 l.length) ∧ (m = 10 → q10 l.length ≤ r.1 ∧ r.1 ≤ 2 * q10 l.length) ∧ (11 < m → r.1 ≤ q10 l.length)) := by
  have hg := ckGood_ev m l hl
  have hi := isScheme_f m l hl
  unfold spec_CountRight.f impl_CountRight.f
  cases g : schB m l with
  | false =>
    rw [g] at hg hi
    exact ⟨(0, false), Ev.bind hg (Ev.neg (by simp) (Ev.val rfl)), Ev.vbind hi (Ev.neg (by simp) (Ev.val rfl)), rfl, by simp⟩
  | true =>
    rw [g] at hg hi
    obtain ⟨m0, m1, l0, l1, hw12⟩ := sch_facts g
    have hw : ∀ w ∈ l, 0 ≤ w ∧ w < m := by
      have g2 := g
      unfold schB at g2
      simp only [Bool.and_eq_true, List.all_eq_true, decide_eq_true_eq] at g2
      intro w hx
      have := g2.2 w hx
      unfold wB at this
      rw [wrap_in (by omega) (by omega)] at this
      simp only [Bool.and_eq_true, decide_eq_true_eq] at this
      omega
    obtain ⟨mn, rfl⟩ : ∃ mn : Nat, m = (mn : Int) := ⟨m.toNat, by omega⟩
    have hm : 2 ≤ mn ∧ mn ≤ 13 := by omega
    have hq : ∀ n : Nat, n ≤ 12 → q10 n ≤ 1000000000000 := by decide +kernel
    have hql := hq l.length l1
    obtain ⟨X, hX⟩ : ∃ X, X = (List.replicate mn (0 : Int)).set 0 1 := ⟨_, rfl⟩
    have hXc : Cnt mn X := by
      rw [hX]
      exact Cnt.set ⟨by simp, fun x hx => by rw [(List.mem_replicate.mp hx).2]; omega⟩ 0 (by omega)
    have hXs : X.sum = 1 := by
      rw [hX, sum_set _ 0 1 (by simp; omega), sum_rep]
      simp
    have hX0 : X.getD 0 0 = 1 := by
      rw [hX]
      simp only [List.getD]
      rw [List.getElem?_set_self (by simp; omega)]
      rfl
    obtain ⟨Y, y1, y2, y3, y4, y5⟩ := l0_cps hm l1 hw l.length 0 X (by omega) hXc (by rw [hXs]; rfl)
    have hYs : Y.sum ≤ 1000000000000 := by rw [y2]; omega
    obtain ⟨v, e1, hv⟩ := impl_l3 mn hm l Y y1 hYs mn 0 0 (by omega) (by omega) (by simp)
    have e2 := spec_l3 mn hm l Y y1 hYs mn 0 0 (by omega) (by omega) (by simp)
    rw [List.drop_zero, Int.zero_add] at hv e2
    obtain ⟨w0, w1, w2, w3⟩ := wck_bounds mn hm Y 0 (by rw [y1.1]; omega) y1.2
    have hpos : 1 ≤ wck mn 0 Y := by
      cases Y with
      | nil => have := y1.1; simp at this; omega
      | cons y Y =>
        have hy : 1 ≤ y := by have := y3; rw [hX0] at this; exact this
        have hck := (ckN_bounds ⟨mn, by omega⟩ hm.1 ⟨0, by omega⟩ (by show 0 < mn; omega)).2.2.2.2
        simp only at hck
        have i1 := (wck_bounds mn hm Y 1 (by have := y1.1; rw [List.length_cons] at this; omega) (fun x hx => y1.2 x (List.mem_cons_of_mem _ hx))).1
        have h1 : y * 1 ≤ y * (ckN mn 0 : Int) := Int.mul_le_mul_of_nonneg_left (by omega) (by omega)
        show 1 ≤ y * (ckN mn 0 : Int) + wck mn 1 Y
        omega
    have hset : ∀ c : Int, (((List.replicate mn (0 : Int)).set (0 : Int).toNat 1) = X) := fun _ => hX.symm
    refine ⟨(wck mn 0 Y, true), ?_, ?_, rfl, fun _ => ⟨hpos, fun h => ?_, fun h => ?_, fun h => ?_⟩⟩
    · refine Ev.bind hg (Ev.pos rfl (Ev.pos (by omega) (Ev.pos (by omega) (Ev.vbind rfl ?_))))
      rw [Int.toNat_natCast, hset 0]
      exact Ev.pos (by simp; omega) (y5 _ e2)
    · refine Ev.vbind hi (Ev.pos rfl (Ev.pos (by omega) (Ev.pos (by omega) (Ev.vbind rfl ?_))))
      rw [Int.toNat_natCast, hset 0]
      refine Ev.pos (by simp; omega) (y4 _ ?_)
      rw [← hv]
      exact e1
    · have := w1 (by omega)
      show wck mn 0 Y = _
      rw [this, y2]
    · have := w2 (by omega)
      show _ ≤ wck mn 0 Y ∧ wck mn 0 Y ≤ _
      omega
    · have := w3 (by omega)
      show wck mn 0 Y ≤ _
      omega
end Go.Proofs.YtkplbgeccaadeaaGreatDoor.PA
/-! The two digits that a weight misses, as the reference lists them; a number without its sign. No condition but bounds. -/
namespace Go.Proofs.YtkplbgeccaadeaaGreatDoor.PA
open Go.RowKit Go.Proofs.YtkplbgeccaadeaaGreatDoorW.PrintWords
set_option linter.unusedVariables false
section
variable {x m t : Int} (hm : m ≠ 0) (ht : spec_l1Abs.f x = some t)
include hm ht
theorem missed_l1 (a : Nat) (P : ∀ (out : List (List Int)), out.length ≤ 100 * (a + 1) → Ev (fun k => spec_ckMissed.l0 k x m out ((a + 1 : Nat) : Int)) (out ++ pairsP (missP m t) (10 - (a + 1)) (a + 1))) (ha : a < 10) :
    ∀ (q b : Nat) (out : List (List Int)), b + q = 10 → out.length + q ≤ 100 * (a + 1) → Ev (fun k => spec_ckMissed.l1 k x m out (a : Int) (b : Int)) (out ++ (rowP (missP m t) a q b ++ pairsP (missP m t) (10 - (a + 1)) (a + 1)))
  | 0, b, out, hb, ho => by
    refine Ev.step (fun k => by rw [spec_ckMissed.l1]) ?_
    refine Ev.neg (by omega) ?_
    rw [wrap_nat (by omega)]
    simpa [rowP] using P out (by omega)
  | q + 1, b, out, hb, ho => by
    refine Ev.step (fun k => by rw [spec_ckMissed.l1]) ?_
    refine Ev.pos (by omega) (Ev.vbind ht (Ev.neg hm ?_))
    rw [wrap_nat (by omega)]
    refine Ev.ite (fun h => ?_) (fun h => ?_)
    · refine Ev.pos (by omega) ?_
      have := missed_l1 a P ha q (b + 1) (out ++ [[(a : Int), (b : Int)]]) (by omega) (by simp; omega)
      refine Ev.eq this ?_
      rw [rowP, if_pos (show missP m t a b = true by unfold missP; simpa using h)]
      simp
    · have := missed_l1 a P ha q (b + 1) out (by omega) (by omega)
      refine Ev.eq this ?_
      rw [rowP, if_neg (show ¬ missP m t a b = true by unfold missP; simpa using h)]
      simp
theorem missed_l0 : ∀ (q a : Nat) (out : List (List Int)), a + q = 10 → out.length ≤ 100 * a → Ev (fun k => spec_ckMissed.l0 k x m out (a : Int)) (out ++ pairsP (missP m t) q a)
  | 0, a, out, h, ho => by
    refine Ev.step (fun k => by rw [spec_ckMissed.l0]) ?_
    exact Ev.neg (by omega) (Ev.val (by simp [pairsP]))
  | q + 1, a, out, h, ho => by
    refine Ev.step (fun k => by rw [spec_ckMissed.l0]) ?_
    refine Ev.pos (by omega) ?_
    rw [wrap_nat (by omega)]
    have e : 10 - (a + 1) = q := by omega
    have := missed_l1 hm ht a (fun o ho => by rw [e]; exact missed_l0 q (a + 1) o (by omega) ho) (by omega) (9 - a) (a + 1) out (by omega) (by omega)
    rw [e] at this
    exact this
theorem ckMissed_ev : Ev (fun k => spec_ckMissed.f k x m) (pairsP (missP m t) 10 0) := by
  unfold spec_ckMissed.f
  simpa using missed_l0 hm ht 10 0 [] (by omega) (by simp)
end
theorem abs_ex (x : Int) : ∃ t, spec_l1Abs.f x = some t ∧ impl_size.f x = some t := by
  refine ⟨mx x (wrap64 (-x)), ?_, rfl⟩
  unfold spec_l1Abs.f spec_l1Most.f mx
  by_cases h : x > wrap64 (-x)
  · rw [if_pos h, if_neg (by omega)]; rfl
  · by_cases h2 : x < wrap64 (-x)
    · rw [if_neg h, if_pos h2]; rfl
    · have : x = wrap64 (-x) := by omega
      rw [if_neg h, if_neg h2]; simp; omega
end Go.Proofs.YtkplbgeccaadeaaGreatDoor.PA
/-! Are all errors of one digit found, and all swaps of neighbours: the program and the reference say the same. No condition but bounds. -/
namespace Go.Proofs.YtkplbgeccaadeaaGreatDoor.PA
open Go.RowKit Go.Proofs.YtkplbgeccaadeaaGreatDoorW.PrintWords
set_option linter.unusedVariables false
theorem abs_nn {x : Int} (h0 : 0 ≤ x) (h1 : x ≤ 1000) : spec_l1Abs.f x = some x := by
  obtain ⟨t, h2, h3⟩ := abs_ex x
  have e : impl_size.f x = some (mx x (wrap64 (-x))) := rfl
  rw [e] at h3
  rw [h2, ← h3]
  have : wrap64 (-x) = -x := wrap_in (by omega) (by omega)
  rw [this]
  unfold mx
  split <;> congr 1 <;> omega
/-- does a weight miss something -/
def missB (m x : Int) : Bool := decide (0 < (pairsP (missP m x) 10 0).length)
theorem singles_l0 (m : Int) (hm : m ≠ 0) (l : List Int) (hl : l.length ≤ 12) (hw : ∀ w ∈ l, 0 ≤ w ∧ w ≤ 12) : ∀ (q i : Nat), i + q = l.length → Ev (fun k => spec_FindsAllSingles.l0 k l (l.length : Int) (i : Int) m l) (!((l.drop i).any (missB m)), true) := by
  intro q
  induction q with
  | zero =>
    intro i hi
    refine Ev.step (fun k => by rw [spec_FindsAllSingles.l0]) ?_
    refine Ev.neg (by omega) (Ev.val ?_)
    rw [List.drop_of_length_le (by omega)]
    rfl
  | succ q ih =>
    intro i hi
    have hil : i < l.length := by omega
    have hwb := hw _ (List.getElem_mem hil)
    have ih2 := ih (i + 1) (by omega)
    have hck := ckMissed_ev hm (abs_nn hwb.1 (by omega))
    refine Ev.step (fun k => by rw [spec_FindsAllSingles.l0]) ?_
    rw [rd_nat hil, List.drop_eq_getElem_cons hil, List.any_cons]
    refine Ev.pos (by omega) ?_
    refine Ev.pos (by omega) ?_
    refine Ev.pos (by omega) ?_
    refine Ev.bind hck ?_
    rw [wrap_nat (i := i) (by omega)]
    by_cases hp : 0 < (pairsP (missP m l[i]) 10 0).length
    · refine Ev.pos (by omega) (Ev.val ?_)
      rw [show missB m l[i] = true from decide_eq_true hp]
      rfl
    · refine Ev.neg (by omega) ?_
      rw [show missB m l[i] = false from decide_eq_false hp, Bool.false_or]
      exact ih2
theorem singles_key (m : Int) (l : List Int) (hl : l.length ≤ 1048576) : ∃ b, Ev (fun k => spec_FindsAllSingles.f k m l) (b, schB m l) ∧ impl_FindsAllSingles.f m l = some (b, schB m l) ∧ (schB m l = true → b = !(l.any (missB m))) := by
  have hg := ckGood_ev m l hl
  have hi := isScheme_f m l hl
  unfold spec_FindsAllSingles.f impl_FindsAllSingles.f
  cases g : schB m l with
  | false =>
    rw [g] at hg hi
    exact ⟨false, Ev.bind hg (Ev.neg (by simp) (Ev.val rfl)), by rw [hi]; rfl, by simp⟩
  | true =>
    rw [g] at hg hi
    obtain ⟨m0, m1, l0, l1, hw⟩ := sch_facts g
    have h := singles_l0 m (by omega) l l1 hw l.length 0 (by omega)
    rw [List.drop_zero] at h
    refine ⟨!(l.any (missB m)), Ev.bind hg (Ev.pos rfl h), ?_, fun _ => rfl⟩
    rw [hi, Option.bind_some, if_pos rfl, if_pos ⟨hl, by omega⟩]
    rfl
theorem swaps_l0 (m : Int) (hm : m ≠ 0) (l : List Int) (hl : l.length ≤ 12) : ∀ (q i : Nat), 1 ≤ i → i + q = l.length → ∃ b, fswO m l q i = some b ∧ Ev (fun k => spec_FindsAllSwaps.l0 k (i : Int) m l) (b, true) := by
  intro q
  induction q with
  | zero =>
    intro i h1 hi
    refine ⟨true, rfl, ?_⟩
    refine Ev.step (fun k => by rw [spec_FindsAllSwaps.l0]) ?_
    exact Ev.neg (by omega) (Ev.val rfl)
  | succ q ih =>
    intro i h1 hi
    have hw : wrap64 ((i : Int) - 1) = (i : Int) - 1 := wrap_in (by omega) (by omega)
    have c1 : (i : Int) < (l.length : Int) := by omega
    have c2 : (0 : Int) ≤ (i : Int) - 1 := by omega
    have c3 : (i : Int) - 1 < (l.length : Int) := by omega
    have c4 : (0 : Int) ≤ (i : Int) := by omega
    have hwi : wrap64 ((i : Int) + 1) = ((i + 1 : Nat) : Int) := wrap_nat (by omega)
    obtain ⟨b, i1, i2⟩ := ih (i + 1) (by omega) (by omega)
    obtain ⟨t, t1, t2⟩ := abs_ex (wrap64 (rd l ((i : Int) - 1) - rd l (i : Int)))
    have hck := ckMissed_ev hm t1
    have hspec : ∀ R, Ev (fun k => if ((pairsP (missP m t) 10 0).length : Int) > 0 then some (false, true) else spec_FindsAllSwaps.l0 k ((i + 1 : Nat) : Int) m l) R → Ev (fun k => spec_FindsAllSwaps.l0 k (i : Int) m l) R := fun R hR => by
      refine Ev.step (fun k => by rw [spec_FindsAllSwaps.l0]) ?_
      rw [hw, hwi]
      refine Ev.pos c1 ?_
      refine Ev.pos c2 ?_
      refine Ev.pos c3 ?_
      refine Ev.pos c4 ?_
      exact Ev.bind hck hR
    by_cases hp : 0 < (pairsP (missP m t) 10 0).length
    · refine ⟨false, ?_, hspec _ (Ev.pos (by omega) (Ev.val rfl))⟩
      rw [fswO, t2, Option.bind_some, if_pos hp]
    · refine ⟨b, ?_, hspec _ (Ev.neg (by omega) i2)⟩
      rw [fswO, t2, Option.bind_some, if_neg hp]
      exact i1
theorem swaps_key (m : Int) (l : List Int) (hl : l.length ≤ 1048576) : ∃ b, Ev (fun k => spec_FindsAllSwaps.f k m l) (b, schB m l) ∧ impl_FindsAllSwaps.f m l = some (b, schB m l) := by
  have hg := ckGood_ev m l hl
  have hi := isScheme_f m l hl
  unfold spec_FindsAllSwaps.f impl_FindsAllSwaps.f
  cases g : schB m l with
  | false =>
    rw [g] at hg hi
    exact ⟨false, Ev.bind hg (Ev.neg (by simp) (Ev.val rfl)), by rw [hi]; rfl⟩
  | true =>
    rw [g] at hg hi
    obtain ⟨m0, m1, l0, l1, hw⟩ := sch_facts g
    obtain ⟨b, h1, h2⟩ := swaps_l0 m (by omega) l l1 (l.length - 1) 1 (Nat.le_refl _) (by omega)
    refine ⟨b, Ev.bind hg (Ev.pos rfl h2), ?_⟩
    rw [hi, Option.bind_some, if_pos rfl, if_pos ⟨hl, l0, by omega⟩, h1]
    rfl
end Go.Proofs.YtkplbgeccaadeaaGreatDoor.PA
/-! The digits whose swap a doubled sum misses: in both programs nought and nine alone. No condition. -/
namespace Go.Proofs.YtkplbgeccaadeaaGreatDoor.PA
open Go.RowKit Go.Proofs.YtkplbgeccaadeaaGreatDoorW.PrintWords
set_option linter.unusedVariables false
theorem dblM_impl : impl_DoubledMissed.f = some [[0, 9]] := by
  have h : pairsP dblP 10 0 = [[0, 9]] := by decide +kernel
  unfold impl_DoubledMissed.f
  rw [h]
theorem dblM_spec : Ev (fun k => spec_DoubledMissed.f k) [[0, 9]] := by
  have h : spec_DoubledMissed.f 100 = some [[0, 9]] := by decide +kernel
  refine ⟨100, fun k hk => ?_⟩
  have := leO_add (fun k => spec_DoubledMissed.mono k) (k := 100) h (k - 100)
  rwa [show 100 + (k - 100) = k by omega] at this
end Go.Proofs.YtkplbgeccaadeaaGreatDoor.PA
/-! Digits alone, as the program asks for them. No condition but bounds of size. -/
namespace Go.Proofs.YtkplbgeccaadeaaGreatDoor.PA
open Go.RowKit Go.Proofs.YtkplbgeccaadeaaGreatDoorW.PrintWords
set_option linter.unusedVariables false
theorem over_digits (s : ByteArray) (hs : s.size ≤ 140737488355328) : impl_over.f s (⟨#[48, 49, 50, 51, 52, 53, 54, 55, 56, 57]⟩ : ByteArray) = some (s.data.toList.all digB) := by
  unfold impl_over.f
  rw [if_pos ⟨hs, by decide, by decide⟩]
  congr 1
  exact congrArg (fun f => s.data.toList.all f) (funext contains_dig)
end Go.Proofs.YtkplbgeccaadeaaGreatDoor.PA
/-! Texts of digits, as the program asks for them. No condition but bounds of size. -/
namespace Go.Proofs.YtkplbgeccaadeaaGreatDoor.PA
open Go.RowKit Go.Proofs.YtkplbgeccaadeaaGreatDoorW.PrintWords
set_option linter.unusedVariables false
theorem isDigits_f (s : ByteArray) (lo hi : Int) (hs : s.size ≤ 140737488355328) : impl_isDigits.f s lo hi = some (digitsB s lo hi) := by
  unfold impl_isDigits.f digitsB
  rw [in_f, Option.bind_some]
  cases decide (lo ≤ (s.size : Int)) && decide ((s.size : Int) ≤ hi) with
  | true => rw [if_pos rfl, over_digits s hs]; simp
  | false => rw [if_neg (by simp)]; simp
end Go.Proofs.YtkplbgeccaadeaaGreatDoor.PA
/-! Digits, as the reference's checks ask for them. No condition but bounds of size. -/
namespace Go.Proofs.YtkplbgeccaadeaaGreatDoor.PA
open Go.RowKit Go.Proofs.YtkplbgeccaadeaaGreatDoorW.PrintWords
set_option linter.unusedVariables false
theorem ckDigits_l0 (s : ByteArray) (hs : s.size ≤ 4611686018427387903) : ∀ (d i : Nat), i + d = s.size → Ev (fun k => spec_ckDigits.l0 k s (i : Int)) ((s.data.toList.drop i).all digB)
  | 0, i, h => by
    refine Ev.step (fun k => by rw [spec_ckDigits.l0]) (Ev.neg (by omega) (Ev.val ?_))
    rw [List.drop_of_length_le (by rw [← size_data]; omega)]; rfl
  | d + 1, i, h => by
    have hi : i < s.data.toList.length := by rw [← size_data]; omega
    refine Ev.step (fun k => by rw [spec_ckDigits.l0]) (Ev.pos (by omega) (Ev.pos (by omega) ?_))
    rw [bt_nat (by omega), List.drop_eq_getElem_cons hi, List.all_cons, wrap_nat (by omega)]
    unfold digB
    refine Ev.ite (fun e => Ev.val ?_) (fun e => Ev.ite (fun e2 => Ev.val ?_) (fun e2 => ?_))
    · simp only [show ¬ 48 ≤ (s.data.toList[i]).toNat by omega, decide_false, Bool.false_and]
    · simp only [show ¬ (s.data.toList[i]).toNat ≤ 57 by omega, decide_false, Bool.and_false, Bool.false_and]
    · simp only [show 48 ≤ (s.data.toList[i]).toNat by omega, show (s.data.toList[i]).toNat ≤ 57 by omega, decide_true, Bool.true_and]
      exact ckDigits_l0 s hs d (i + 1) (by omega)
end Go.Proofs.YtkplbgeccaadeaaGreatDoor.PA
/-! Doubled sums: the reference's and the program's are one. No condition but bounds. -/
namespace Go.Proofs.YtkplbgeccaadeaaGreatDoor.PA
open Go.RowKit Go.Proofs.YtkplbgeccaadeaaGreatDoorW.PrintWords
set_option linter.unusedVariables false
theorem ckLong_ev (s : ByteArray) (lo hi : Int) (hs : s.size ≤ 4611686018427387903) : Ev (fun k => spec_ckLong.f k s lo hi) (digitsB s lo hi) := by
  unfold spec_ckLong.f digitsB
  refine Ev.vbind (l1In_f _ _ _) ?_
  cases decide (lo ≤ (s.size : Int)) && decide ((s.size : Int) ≤ hi) with
  | true =>
    have h := ckDigits_l0 s hs s.size 0 (by omega)
    rw [List.drop_zero] at h
    exact Ev.pos rfl (Ev.bind (g := fun k => spec_ckDigits.f k s) h (Ev.val rfl))
  | false => exact Ev.neg (by simp) (Ev.val rfl)
theorem doubled_l0 (s : ByteArray) (hs : s.size ≤ 4611686018427387903) : ∀ (d i : Nat) (x : Int), i + d = s.size →
    ∃ v, Ev (fun k => spec_ckDoubled.l0 k s x (i : Int)) v ∧ Ev (fun k => impl_doubledSum.l0 k s x (s.size : Int) (i : Int)) v
  | 0, i, x, h => by
    refine ⟨x, ?_, ?_⟩
    · refine Ev.step (fun k => by rw [spec_ckDoubled.l0]) ?_
      exact Ev.neg (by omega) (Ev.val rfl)
    · refine Ev.step (fun k => by rw [impl_doubledSum.l0]) ?_
      exact Ev.neg (by omega) (Ev.val rfl)
  | d + 1, i, x, h => by
    have hj : wrap64 (wrap64 ((s.size : Int) - 1) - (i : Int)) = ((s.size - 1 - i : Nat) : Int) := by
      rw [wrap_in (n := (s.size : Int) - 1) (by omega) (by omega), wrap_in (by omega) (by omega)]; omega
    generalize hb : bt s ((s.size - 1 - i : Nat) : Int) = b
    have hc : ∃ c : Int, c = (b - 48) % 256 ∧ 0 ≤ c ∧ c < 256 := ⟨_, rfl, by omega, by omega⟩
    obtain ⟨c, hc, hc0, hc1⟩ := hc
    by_cases ho : Int.tmod (i : Int) 2 = 1
    · obtain ⟨v, h1, h2⟩ := doubled_l0 s hs d (i + 1) (wrap64 (x + (2 * c / 10 + 2 * c % 10))) (by omega)
      refine ⟨v, ?_, ?_⟩
      · refine Ev.step (fun k => by rw [spec_ckDoubled.l0]) ?_
        rw [hj, hb, ← hc]
        refine Ev.pos (by omega) (Ev.pos (by omega) (Ev.pos (by omega) (Ev.pos ho ?_)))
        rw [wrap_nat (by omega)]
        exact h1
      · refine Ev.step (fun k => by rw [impl_doubledSum.l0]) ?_
        rw [hj, hb]
        refine Ev.pos (by omega) (Ev.pos (by omega) (Ev.pos (by omega) (Ev.vbind (a := c) (by rw [hc]; rfl) (Ev.pos ho (Ev.vbind (a := 2 * c / 10 + 2 * c % 10) ?_ ?_)))))
        · unfold impl_doubled.f
          rw [wrap_in (n := 2 * c) (by omega) (by omega), Int.tdiv_eq_ediv_of_nonneg (by omega), Int.tmod_eq_emod_of_nonneg (by omega), wrap_in (n := 2 * c / 10) (by omega) (by omega), wrap_in (by omega) (by omega)]
        · rw [wrap_nat (by omega)]
          exact h2
    · obtain ⟨v, h1, h2⟩ := doubled_l0 s hs d (i + 1) (wrap64 (x + c)) (by omega)
      refine ⟨v, ?_, ?_⟩
      · refine Ev.step (fun k => by rw [spec_ckDoubled.l0]) ?_
        rw [hj, hb, ← hc]
        refine Ev.pos (by omega) (Ev.pos (by omega) (Ev.pos (by omega) (Ev.neg ho ?_)))
        rw [wrap_nat (by omega)]
        exact h1
      · refine Ev.step (fun k => by rw [impl_doubledSum.l0]) ?_
        rw [hj, hb]
        refine Ev.pos (by omega) (Ev.pos (by omega) (Ev.pos (by omega) (Ev.vbind (a := c) (by rw [hc]; rfl) (Ev.neg ho ?_))))
        rw [wrap_nat (by omega)]
        exact h2
theorem doubled_ev (s : ByteArray) (hs : s.size ≤ 4611686018427387903) : ∃ v, Ev (fun k => spec_ckDoubled.f k s) v ∧ Ev (fun k => impl_doubledSum.f k s) v := doubled_l0 s hs s.size 0 0 (by omega)
end Go.Proofs.YtkplbgeccaadeaaGreatDoor.PA
/-! Doubled sums as a plain sum over digits, and what the swap of two neighbours does to them. No condition but bounds. -/
namespace Go.Proofs.YtkplbgeccaadeaaGreatDoor.PA
open Go.RowKit Go.Proofs.YtkplbgeccaadeaaGreatDoorW.PrintWords
set_option linter.unusedVariables false
/-- one digit's part of the doubled sum, at its place from the right -/
def dv (j : Nat) (c : Int) : Int := if j % 2 = 1 then 2 * c / 10 + 2 * c % 10 else c
def sumG (g : Nat → Int) : Nat → Int
  | 0 => 0
  | n + 1 => sumG g n + dv n (g n)
theorem dv_b (j : Nat) {c : Int} (h0 : 0 ≤ c) (h1 : c ≤ 255) : 0 ≤ dv j c ∧ dv j c ≤ 255 := by
  unfold dv
  split <;> omega
theorem dv_9 (j : Nat) {c : Int} (h0 : 0 ≤ c) (h1 : c ≤ 9) : 0 ≤ dv j c ∧ dv j c ≤ 9 := by
  unfold dv
  split <;> omega
theorem sumG_b {g : Nat → Int} (m : Nat) : ∀ n, n ≤ m → (∀ i, i < m → 0 ≤ g i ∧ g i ≤ 255) → 0 ≤ sumG g n ∧ sumG g n ≤ 255 * n
  | 0, _, _ => ⟨Int.le_refl _, Int.le_refl _⟩
  | n + 1, hn, h => by
    have h1 := sumG_b m n (by omega) h
    have h2 := h n (by omega)
    have h3 := dv_b n h2.1 h2.2
    unfold sumG
    omega
theorem sumG_9 {g : Nat → Int} (m : Nat) : ∀ n, n ≤ m → (∀ i, i < m → 0 ≤ g i ∧ g i ≤ 9) → 0 ≤ sumG g n ∧ sumG g n ≤ 9 * n
  | 0, _, _ => ⟨Int.le_refl _, Int.le_refl _⟩
  | n + 1, hn, h => by
    have h1 := sumG_9 m n (by omega) h
    have h2 := h n (by omega)
    have h3 := dv_9 n h2.1 h2.2
    unfold sumG
    omega
theorem sumG_same {g g' : Nat → Int} : ∀ n, (∀ i, i < n → g' i = g i) → sumG g' n = sumG g n
  | 0, _ => rfl
  | n + 1, h => by
    unfold sumG
    rw [sumG_same n (fun i hi => h i (by omega)), h n (by omega)]
theorem sumG_swap {g g' : Nat → Int} (j : Nat) (h0 : g' j = g (j + 1)) (h1 : g' (j + 1) = g j) : ∀ d, (∀ i, i < j + 2 + d → i ≠ j → i ≠ j + 1 → g' i = g i) →
    sumG g' (j + 2 + d) - sumG g (j + 2 + d) = dv j (g (j + 1)) + dv (j + 1) (g j) - dv j (g j) - dv (j + 1) (g (j + 1))
  | 0, h => by
    have e := sumG_same (g := g) (g' := g') j (fun i hi => h i (by omega) (by omega) (by omega))
    show sumG g' j + dv j (g' j) + dv (j + 1) (g' (j + 1)) - (sumG g j + dv j (g j) + dv (j + 1) (g (j + 1))) = _
    rw [e, h0, h1]
    omega
  | d + 1, h => by
    have e := sumG_swap j h0 h1 d (fun i hi => h i (by omega))
    show sumG g' (j + 2 + d) + dv (j + 2 + d) (g' (j + 2 + d)) - (sumG g (j + 2 + d) + dv (j + 2 + d) (g (j + 2 + d))) = _
    rw [h (j + 2 + d) (by omega) (by omega) (by omega)]
    omega
theorem swap_ten : ∀ (p : Fin 2) (a b : Fin 10), a ≠ b → ((dv p.val (b.val : Int) + dv (p.val + 1) (a.val : Int) - dv p.val (a.val : Int) - dv (p.val + 1) (b.val : Int)) % 10 = 0 ↔ (a.val = 0 ∧ b.val = 9 ∨ a.val = 9 ∧ b.val = 0)) := by decide +kernel
theorem dv_mod (j : Nat) (c : Int) : dv j c = dv (j % 2) c := by
  unfold dv
  rw [Nat.mod_mod]
theorem swap_all (j : Nat) {x y : Int} (hx : 0 ≤ x ∧ x ≤ 9) (hy : 0 ≤ y ∧ y ≤ 9) (hxy : x ≠ y) {s s' : Int} (hs : s % 10 = 0) (h : s' - s = dv j y + dv (j + 1) x - dv j x - dv (j + 1) y) : (s' % 10 = 0 ↔ (x = 0 ∧ y = 9 ∨ x = 9 ∧ y = 0)) := by
  have e := swap_ten ⟨j % 2, by omega⟩ ⟨x.toNat, by omega⟩ ⟨y.toNat, by omega⟩ (by intro e; have := Fin.mk.inj e; omega)
  simp only at e
  rw [Int.toNat_of_nonneg hx.1, Int.toNat_of_nonneg hy.1, ← dv_mod] at e
  have e2 : ∀ c, dv (j % 2 + 1) c = dv (j + 1) c := fun c => by
    unfold dv
    rw [show (j % 2 + 1) % 2 = (j + 1) % 2 by omega]
  have e3 : ∀ c, dv (j % 2) c = dv j c := fun c => (dv_mod j c).symm
  simp only [e2, e3] at e
  rw [← h] at e
  omega
/-- the digit at a place from the right -/
def digR (s : ByteArray) (i : Nat) : Int := (bt s ((s.size - 1 - i : Nat) : Int) - 48) % 256
theorem sum_l0 (s : ByteArray) (hs : s.size ≤ 1000) : ∀ (d i : Nat), i + d = s.size → Ev (fun k => impl_doubledSum.l0 k s (sumG (digR s) i) (s.size : Int) (i : Int)) (sumG (digR s) s.size)
  | 0, i, h => by
    refine Ev.step (fun k => by rw [impl_doubledSum.l0]) ?_
    exact Ev.neg (by omega) (Ev.val (by rw [show i = s.size by omega]))
  | d + 1, i, h => by
    have c1 : (i : Int) < (s.size : Int) := by omega
    have c2 : (0 : Int) ≤ ((s.size - 1 - i : Nat) : Int) := by omega
    have c3 : ((s.size - 1 - i : Nat) : Int) < (s.size : Int) := by omega
    have hwi : wrap64 ((i : Int) + 1) = ((i + 1 : Nat) : Int) := wrap_nat (by omega)
    have hj : wrap64 (wrap64 ((s.size : Int) - 1) - (i : Int)) = ((s.size - 1 - i : Nat) : Int) := by
      rw [wrap_in (n := (s.size : Int) - 1) (by omega) (by omega), wrap_in (by omega) (by omega)]; omega
    have hb : ∀ j, 0 ≤ digR s j ∧ digR s j ≤ 255 := fun j => by unfold digR; omega
    have hx := sumG_b (g := digR s) s.size i (by omega) (fun j _ => hb j)
    have hd := dv_b i (hb i).1 (hb i).2
    have ih := sum_l0 s hs d (i + 1) (by omega)
    have hstep : wrap64 (sumG (digR s) i + dv i (digR s i)) = sumG (digR s) (i + 1) := wrap_in (by omega) (by omega)
    have hbi := hb i
    have hcd : (bt s ((s.size - 1 - i : Nat) : Int) - 48) % 256 = digR s i := rfl
    refine Ev.step (fun k => by rw [impl_doubledSum.l0]) ?_
    rw [hj]
    by_cases ho : Int.tmod (i : Int) 2 = 1
    · have ho2 : i % 2 = 1 := by rw [Int.tmod_eq_emod_of_nonneg (by omega)] at ho; omega
      have e : dv i (digR s i) = 2 * digR s i / 10 + 2 * digR s i % 10 := by unfold dv; rw [if_pos ho2]
      rw [e] at hstep
      refine Ev.pos c1 (Ev.pos c2 (Ev.pos c3 (Ev.vbind (a := digR s i) (by rw [← hcd]; rfl) (Ev.pos ho (Ev.vbind (a := 2 * digR s i / 10 + 2 * digR s i % 10) ?_ ?_)))))
      · unfold impl_doubled.f
        rw [wrap_in (n := 2 * digR s i) (by omega) (by omega), Int.tdiv_eq_ediv_of_nonneg (by omega), Int.tmod_eq_emod_of_nonneg (by omega), wrap_in (n := 2 * digR s i / 10) (by omega) (by omega), wrap_in (by omega) (by omega)]
      · rw [hwi, hstep]
        exact ih
    · have ho2 : ¬ i % 2 = 1 := by rw [Int.tmod_eq_emod_of_nonneg (by omega)] at ho; omega
      have e : dv i (digR s i) = digR s i := by unfold dv; rw [if_neg ho2]
      rw [e] at hstep
      refine Ev.pos c1 (Ev.pos c2 (Ev.pos c3 (Ev.vbind (a := digR s i) (by rw [← hcd]; rfl) (Ev.neg ho ?_))))
      rw [hwi, hstep]
      exact ih
theorem sumD_ev (s : ByteArray) (hs : s.size ≤ 1000) : Ev (fun k => impl_doubledSum.f k s) (sumG (digR s) s.size) := sum_l0 s hs s.size 0 (by omega)
theorem ckD_ev (s : ByteArray) (hs : s.size ≤ 1000) : Ev (fun k => spec_ckDoubled.f k s) (sumG (digR s) s.size) := by
  obtain ⟨v, e1, e2⟩ := doubled_ev s (by omega)
  exact Ev.eq e1 (Ev.unique e2 (sumD_ev s hs))
theorem drop_take_oneD {α : Type} {l : List α} {i : Nat} (h : i < l.length) : (l.take (i + 1)).drop i = [l[i]] := by
  rw [take_succ_get h, List.drop_append_of_le_length (by rw [List.length_take]; omega), List.drop_of_length_le (by rw [List.length_take]; omega)]; rfl
theorem sw_get {α : Type} {P Q : List α} {x y : α} (k : Nat) (h0 : k ≠ P.length) (h1 : k ≠ P.length + 1) : (P ++ x :: y :: Q)[k]? = (P ++ y :: x :: Q)[k]? := by
  by_cases h : k < P.length
  · rw [List.getElem?_append_left h, List.getElem?_append_left h]
  · obtain ⟨d, rfl⟩ : ∃ d, k = P.length + (d + 2) := ⟨k - P.length - 2, by omega⟩
    rw [List.getElem?_append_right (by omega), List.getElem?_append_right (by omega), show P.length + (d + 2) - P.length = d + 2 by omega]
    rfl
theorem sw_at {α : Type} {P Q : List α} {x y : α} : (P ++ x :: y :: Q)[P.length]? = some x ∧ (P ++ x :: y :: Q)[P.length + 1]? = some y := by
  constructor
  · rw [List.getElem?_append_right (by omega), Nat.sub_self]; rfl
  · rw [List.getElem?_append_right (by omega), show P.length + 1 - P.length = 1 by omega]; rfl
/-- a text with the neighbours at i - 1 and i exchanged -/
def exch (a : ByteArray) (i : Nat) : ByteArray := ((a.extract 0 (i - 1) ++ a.extract i (i + 1)) ++ a.extract (i - 1) i) ++ a.extract (i + 1) a.size
theorem exch_data (a : ByteArray) (i : Nat) (h1 : 1 ≤ i) (h : i < a.data.toList.length) : (exch a i).data.toList = a.data.toList.take (i - 1) ++ (a.data.toList[i] :: a.data.toList[i - 1] :: a.data.toList.drop (i + 1)) := by
  unfold exch
  rw [data_append, data_append, data_append, data_extract, data_extract, data_extract, data_extract, List.drop_zero]
  have e1 := drop_take_oneD (l := a.data.toList) (i := i) h
  have e2 := drop_take_oneD (l := a.data.toList) (i := i - 1) (by omega)
  rw [show i - 1 + 1 = i by omega] at e2
  rw [e1, e2, List.take_of_length_le (l := a.data.toList) (i := a.size) (by rw [← size_data]; omega)]
  simp
theorem self_dataD (a : ByteArray) (i : Nat) (h1 : 1 ≤ i) (h : i < a.data.toList.length) : a.data.toList = a.data.toList.take (i - 1) ++ (a.data.toList[i - 1] :: a.data.toList[i] :: a.data.toList.drop (i + 1)) := by
  have e1 : a.data.toList.drop (i - 1) = a.data.toList[i - 1] :: a.data.toList.drop i := by
    rw [List.drop_eq_getElem_cons (show i - 1 < a.data.toList.length by omega), show i - 1 + 1 = i by omega]
  have e2 : a.data.toList.drop i = a.data.toList[i] :: a.data.toList.drop (i + 1) := List.drop_eq_getElem_cons h
  rw [← e2, ← e1, List.take_append_drop]
theorem exch_size (a : ByteArray) (i : Nat) (h1 : 1 ≤ i) (h : i < a.size) : (exch a i).size = a.size := by
  have h' : i < a.data.toList.length := h
  have e := congrArg List.length (exch_data a i h1 h')
  have s := congrArg List.length (self_dataD a i h1 h')
  simp only [List.length_append, List.length_cons] at e s
  rw [size_data, e, size_data]
  omega
theorem bt_get {s : ByteArray} {i : Nat} {c : UInt8} (h : s.data.toList[i]? = some c) : bt s (i : Int) = (c.toNat : Int) := by
  obtain ⟨hi, e⟩ := List.getElem?_eq_some_iff.mp h
  rw [bt_nat (by rw [size_data]; exact hi), e]
theorem bt_same {s t : ByteArray} {i : Nat} (hi : i < s.size) (h : s.data.toList[i]? = t.data.toList[i]?) : bt s (i : Int) = bt t (i : Int) := by
  have e : s.data.toList[i]? = some (s.data.toList[i]'(by rw [← size_data]; exact hi)) := List.getElem?_eq_getElem _
  rw [bt_get e, bt_get (h ▸ e)]
/-- the exchanged text's bytes -/
theorem exch_bt (a : ByteArray) (i : Nat) (h1 : 1 ≤ i) (h : i < a.size) : bt (exch a i) ((i - 1 : Nat) : Int) = bt a (i : Int) ∧ bt (exch a i) (i : Int) = bt a ((i - 1 : Nat) : Int) ∧ ∀ k, k < a.size → k ≠ i → k ≠ i - 1 → bt (exch a i) (k : Int) = bt a (k : Int) := by
  have h' : i < a.data.toList.length := h
  have hz := exch_size a i h1 h
  have e := exch_data a i h1 h'
  have s := self_dataD a i h1 h'
  have hP : (a.data.toList.take (i - 1)).length = i - 1 := by rw [List.length_take]; omega
  obtain ⟨p1, p2⟩ := sw_at (P := a.data.toList.take (i - 1)) (Q := a.data.toList.drop (i + 1)) (x := a.data.toList[i]) (y := a.data.toList[i - 1])
  rw [← e, hP] at p1 p2
  rw [show i - 1 + 1 = i by omega] at p2
  refine ⟨?_, ?_, ?_⟩
  · rw [bt_get p1, bt_nat h]
  · rw [bt_get p2, bt_nat (show i - 1 < a.size by omega)]
  · intro k hk h2 h3
    refine bt_same (by omega) ?_
    have q := sw_get (P := a.data.toList.take (i - 1)) (Q := a.data.toList.drop (i + 1)) (x := a.data.toList[i]) (y := a.data.toList[i - 1]) k (by omega) (by omega)
    rw [← e, ← s] at q
    exact q
theorem exch_sum (a : ByteArray) (i : Nat) (h1 : 1 ≤ i) (h : i < a.size) : sumG (digR (exch a i)) (exch a i).size - sumG (digR a) a.size =
    dv (a.size - 1 - i) ((bt a ((i - 1 : Nat) : Int) - 48) % 256) + dv (a.size - 1 - i + 1) ((bt a (i : Int) - 48) % 256) - dv (a.size - 1 - i) ((bt a (i : Int) - 48) % 256) - dv (a.size - 1 - i + 1) ((bt a ((i - 1 : Nat) : Int) - 48) % 256) := by
  obtain ⟨b1, b2, b3⟩ := exch_bt a i h1 h
  have hz := exch_size a i h1 h
  have d0 : ∀ j, j < a.size → j ≠ a.size - 1 - i → j ≠ a.size - 1 - i + 1 → digR (exch a i) j = digR a j := fun j hj h2 h3 => by
    unfold digR
    rw [hz, b3 (a.size - 1 - j) (by omega) (by omega) (by omega)]
  have e1 : digR a (a.size - 1 - i) = (bt a (i : Int) - 48) % 256 := by
    unfold digR
    rw [show a.size - 1 - (a.size - 1 - i) = i by omega]
  have e2 : digR a (a.size - 1 - i + 1) = (bt a ((i - 1 : Nat) : Int) - 48) % 256 := by
    unfold digR
    rw [show a.size - 1 - (a.size - 1 - i + 1) = i - 1 by omega]
  have e3 : digR (exch a i) (a.size - 1 - i) = digR a (a.size - 1 - i + 1) := by
    rw [e2]
    unfold digR
    rw [hz, show a.size - 1 - (a.size - 1 - i) = i by omega, b2]
  have e4 : digR (exch a i) (a.size - 1 - i + 1) = digR a (a.size - 1 - i) := by
    rw [e1]
    unfold digR
    rw [hz, show a.size - 1 - (a.size - 1 - i + 1) = i - 1 by omega, b1]
  have := sumG_swap (g := digR a) (g' := digR (exch a i)) (a.size - 1 - i) e3 e4 (i - 1) (fun j hj h2 h3 => d0 j (by omega) h2 h3)
  rw [show a.size - 1 - i + 2 + (i - 1) = a.size by omega, e1, e2] at this
  rw [hz]
  exact this
/-- a right number with two unlike neighbours exchanged is right just for nought and nine -/
theorem exch_right (a : ByteArray) (i : Nat) (h1 : 1 ≤ i) (h : i < a.size) (ha : 48 ≤ bt a (i : Int) ∧ bt a (i : Int) ≤ 57) (hb : 48 ≤ bt a ((i - 1 : Nat) : Int) ∧ bt a ((i - 1 : Nat) : Int) ≤ 57) (hne : bt a ((i - 1 : Nat) : Int) ≠ bt a (i : Int)) (hs : sumG (digR a) a.size % 10 = 0) :
    sumG (digR (exch a i)) (exch a i).size % 10 = 0 ↔ (bt a ((i - 1 : Nat) : Int) = 48 ∧ bt a (i : Int) = 57 ∨ bt a ((i - 1 : Nat) : Int) = 57 ∧ bt a (i : Int) = 48) := by
  have e := exch_sum a i h1 h
  have := swap_all (a.size - 1 - i) (x := (bt a (i : Int) - 48) % 256) (y := (bt a ((i - 1 : Nat) : Int) - 48) % 256) (by omega) (by omega) (by omega) hs e
  rw [this]
  omega
end Go.Proofs.YtkplbgeccaadeaaGreatDoor.PA
/-! What the program and the reference say of doubled numbers, as the law on doubled checks asks for it. No condition but bounds. -/
namespace Go.Proofs.YtkplbgeccaadeaaGreatDoor.PA
open Go.RowKit Go.Proofs.YtkplbgeccaadeaaGreatDoorW.PrintWords
set_option linter.unusedVariables false
theorem dig_bounds {s : ByteArray} {lo hi : Int} (h : digitsB s lo hi = true) : lo ≤ (s.size : Int) ∧ (s.size : Int) ≤ hi ∧ ∀ i : Nat, i < s.size → 48 ≤ bt s (i : Int) ∧ bt s (i : Int) ≤ 57 := by
  unfold digitsB at h
  simp only [Bool.and_eq_true, decide_eq_true_eq, List.all_eq_true] at h
  obtain ⟨⟨h1, h2⟩, h3⟩ := h
  refine ⟨h1, h2, fun i hi => ?_⟩
  have := h3 _ (List.getElem_mem (show i < s.data.toList.length from by rw [← size_data]; exact hi))
  unfold digB at this
  simp only [Bool.and_eq_true, decide_eq_true_eq] at this
  rw [bt_nat hi]
  omega
/-- the doubled sum of a text -/
def dsum (s : ByteArray) : Int := sumG (digR s) s.size
theorem dsum_bounds {s : ByteArray} {lo hi : Int} (h : digitsB s lo hi = true) : 0 ≤ dsum s ∧ dsum s ≤ 9 * s.size := by
  obtain ⟨_, _, h3⟩ := dig_bounds h
  exact sumG_9 s.size s.size (Nat.le_refl _) (fun i hi => by
    have := h3 (s.size - 1 - i) (by omega)
    unfold digR
    omega)
theorem dblI_sum (s : ByteArray) (hs : s.size ≤ 1048576) : Ev (fun k => impl_DoubledSum.f k s) (if digitsB s 2 12 = true then (dsum s, true) else (0, false)) := by
  have hi := isDigits_f s 2 12 (by omega)
  unfold impl_DoubledSum.f
  cases g : digitsB s 2 12 with
  | false =>
    rw [g] at hi
    rw [if_neg (by simp)]
    exact Ev.vbind hi (Ev.neg (by simp) (Ev.val rfl))
  | true =>
    rw [g] at hi
    rw [if_pos rfl]
    have hb := dig_bounds g
    exact Ev.vbind hi (Ev.pos rfl (Ev.bind (sumD_ev s (by omega)) (Ev.val rfl)))
theorem dblS_sum (s : ByteArray) (hs : s.size ≤ 1048576) : Ev (fun k => spec_DoubledSum.f k s) (if digitsB s 2 12 = true then (dsum s, true) else (0, false)) := by
  have hg := ckLong_ev s 2 12 (by omega)
  unfold spec_DoubledSum.f
  cases g : digitsB s 2 12 with
  | false =>
    rw [g] at hg
    rw [if_neg (by simp)]
    exact Ev.bind hg (Ev.neg (by simp) (Ev.val rfl))
  | true =>
    rw [g] at hg
    rw [if_pos rfl]
    have hb := dig_bounds g
    exact Ev.bind hg (Ev.pos rfl (Ev.bind (ckD_ev s (by omega)) (Ev.val rfl)))
theorem dblI_right (s : ByteArray) (hs : s.size ≤ 1048576) : Ev (fun k => impl_IsDoubledRight.f k s) (if digitsB s 2 12 = true then (Int.tmod (dsum s) 10 == 0, true) else (false, false)) := by
  have h := dblI_sum s hs
  unfold impl_IsDoubledRight.f
  cases g : digitsB s 2 12 with
  | false =>
    rw [g, if_neg (by simp)] at h
    rw [if_neg (by simp)]
    exact Ev.bind h (Ev.neg (by simp) (Ev.val rfl))
  | true =>
    rw [g, if_pos rfl] at h
    rw [if_pos rfl]
    exact Ev.bind h (Ev.pos rfl (Ev.val rfl))
theorem dblS_right (s : ByteArray) (hs : s.size ≤ 1048576) : Ev (fun k => spec_IsDoubledRight.f k s) (if digitsB s 2 12 = true then (Int.tmod (dsum s) 10 == 0, true) else (false, false)) := by
  have hg := ckLong_ev s 2 12 (by omega)
  unfold spec_IsDoubledRight.f
  cases g : digitsB s 2 12 with
  | false =>
    rw [g] at hg
    rw [if_neg (by simp)]
    exact Ev.bind hg (Ev.neg (by simp) (Ev.val rfl))
  | true =>
    rw [g] at hg
    rw [if_pos rfl]
    have hb := dig_bounds g
    exact Ev.bind hg (Ev.pos rfl (Ev.bind (ckD_ev s (by omega)) (Ev.val rfl)))
theorem sumG_first {g g' : Nat → Int} : ∀ n, (∀ i, i ≠ 0 → i < n + 1 → g' i = g i) → sumG g' (n + 1) - sumG g (n + 1) = dv 0 (g' 0) - dv 0 (g 0)
  | 0, h => by
    show (0 + dv 0 (g' 0)) - (0 + dv 0 (g 0)) = _
    omega
  | n + 1, h => by
    have e := sumG_first n (fun i h0 hi => h i h0 (by omega))
    have e2 := h (n + 1) (by omega) (by omega)
    show (sumG g' (n + 1) + dv (n + 1) (g' (n + 1))) - (sumG g (n + 1) + dv (n + 1) (g (n + 1))) = _
    rw [e2]
    omega
theorem app_bt (s : ByteArray) (d : UInt8) : bt (s ++ (⟨#[d]⟩ : ByteArray)) (s.size : Int) = (d.toNat : Int) ∧ ∀ i, i < s.size → bt (s ++ (⟨#[d]⟩ : ByteArray)) (i : Int) = bt s (i : Int) := by
  have hd : (s ++ (⟨#[d]⟩ : ByteArray)).data.toList = s.data.toList ++ [d] := by rw [data_append]
  constructor
  · apply bt_get
    rw [hd, List.getElem?_append_right (by rw [size_data]; omega), size_data, Nat.sub_self]
    rfl
  · intro i hi
    have hi' : i < s.data.toList.length := by rw [← size_data]; exact hi
    refine bt_same (by rw [size_append]; omega) ?_
    rw [hd, List.getElem?_append_left hi']
theorem app_sum (s : ByteArray) (d : UInt8) (hd : 48 ≤ d.toNat ∧ d.toNat ≤ 57) : dsum (s ++ (⟨#[d]⟩ : ByteArray)) = dsum (s ++ (⟨#[48]⟩ : ByteArray)) + ((d.toNat : Int) - 48) := by
  have z1 : (s ++ (⟨#[d]⟩ : ByteArray)).size = s.size + 1 := by rw [size_append]; rfl
  have z2 : (s ++ (⟨#[48]⟩ : ByteArray)).size = s.size + 1 := by rw [size_append]; rfl
  obtain ⟨a1, a2⟩ := app_bt s d
  obtain ⟨b1, b2⟩ := app_bt s 48
  have e := sumG_first (g := digR (s ++ (⟨#[48]⟩ : ByteArray))) (g' := digR (s ++ (⟨#[d]⟩ : ByteArray))) s.size (fun i h0 hi => by
    unfold digR
    rw [z1, z2, a2 _ (by omega), b2 _ (by omega)])
  have f1 : digR (s ++ (⟨#[d]⟩ : ByteArray)) 0 = (d.toNat : Int) - 48 := by
    unfold digR
    rw [z1, show s.size + 1 - 1 - 0 = s.size by omega, a1]
    omega
  have f2 : digR (s ++ (⟨#[48]⟩ : ByteArray)) 0 = 0 := by
    unfold digR
    rw [z2, show s.size + 1 - 1 - 0 = s.size by omega, b1]
    rfl
  unfold dsum
  rw [z1, z2]
  rw [f1, f2] at e
  have g1 : ∀ c, dv 0 c = c := fun c => rfl
  rw [g1, g1] at e
  omega
theorem app_dig (s : ByteArray) (d : UInt8) (hd : 48 ≤ d.toNat ∧ d.toNat ≤ 57) (h : digitsB s 1 11 = true) : digitsB (s ++ (⟨#[d]⟩ : ByteArray)) 2 12 = true := by
  have z1 : (s ++ (⟨#[d]⟩ : ByteArray)).size = s.size + 1 := by rw [size_append]; rfl
  unfold digitsB at h ⊢
  simp only [Bool.and_eq_true, decide_eq_true_eq] at h ⊢
  refine ⟨⟨by omega, by omega⟩, ?_⟩
  rw [data_append, List.all_append, h.2]
  show (true && (digB d && true)) = true
  unfold digB
  simp [hd.1, hd.2]
theorem sign_same : ∀ c : Fin 10, (⟨#[48, 49, 50, 51, 52, 53, 54, 55, 56, 57]⟩ : ByteArray).extract c.val (c.val + 1) = (⟨#[48, 49, 50, 51, 52, 53, 54, 55, 56, 57, 88]⟩ : ByteArray).extract c.val (c.val + 1) := by decide +kernel
/-- a check digit that both write, and that makes the number right -/
theorem dbl_check (s : ByteArray) (hs : s.size ≤ 1048576) : ∃ r : ByteArray × Bool, Ev (fun k => impl_DoubledCheck.f k s) r ∧ Ev (fun k => spec_DoubledCheck.f k s) r ∧ r.2 = digitsB s 1 11 ∧ r.1.size ≤ 1 ∧
    (r.2 = true → r.1.size = 1 ∧ (s ++ r.1).size ≤ 12 ∧ Ev (fun k => impl_IsDoubledRight.f k (s ++ r.1)) (true, true)) := by
  have hz : (s ++ (⟨#[48]⟩ : ByteArray)).size = s.size + 1 := by rw [size_append]; rfl
  have hg := ckLong_ev s 1 11 (by omega)
  have hi := isDigits_f s 1 11 (by omega)
  unfold spec_DoubledCheck.f impl_DoubledCheck.f
  cases g : digitsB s 1 11 with
  | false =>
    rw [g] at hg hi
    exact ⟨(⟨#[]⟩, false), Ev.vbind hi (Ev.neg (by simp) (Ev.val rfl)), Ev.bind hg (Ev.neg (by simp) (Ev.val rfl)), rfl, by show 0 ≤ 1; omega, by simp⟩
  | true =>
    rw [g] at hg hi
    have hb := dig_bounds g
    have e2 := sumD_ev (s ++ (⟨#[48]⟩ : ByteArray)) (by omega)
    have e1 := ckD_ev (s ++ (⟨#[48]⟩ : ByteArray)) (by omega)
    have hv := dsum_bounds (app_dig s 48 (by decide) g)
    have ev : sumG (digR (s ++ (⟨#[48]⟩ : ByteArray))) (s ++ (⟨#[48]⟩ : ByteArray)).size = dsum (s ++ (⟨#[48]⟩ : ByteArray)) := rfl
    rw [ev] at e1 e2
    have ha := app_sum s
    generalize dsum (s ++ (⟨#[48]⟩ : ByteArray)) = v at e1 e2 hv ha
    have hc : ∃ c : Nat, c < 10 ∧ Int.tmod (wrap64 (10 - Int.tmod v 10)) 10 = (c : Int) ∧ (v + c) % 10 = 0 := by
      rw [Int.tmod_eq_emod_of_nonneg hv.1, wrap_in (by omega) (by omega), Int.tmod_eq_emod_of_nonneg (by omega)]
      exact ⟨((10 - v % 10) % 10).toNat, by omega, by omega, by omega⟩
    obtain ⟨c, hc, ec, em⟩ := hc
    have hsg : ∀ c : Fin 10, (⟨#[48, 49, 50, 51, 52, 53, 54, 55, 56, 57, 88]⟩ : ByteArray).extract c.val (c.val + 1) = (⟨#[UInt8.ofNat (48 + c.val)]⟩ : ByteArray) ∧ (UInt8.ofNat (48 + c.val)).toNat = 48 + c.val := by decide +kernel
    obtain ⟨s1, s2⟩ := hsg ⟨c, hc⟩
    simp only at s1 s2
    refine ⟨((⟨#[48, 49, 50, 51, 52, 53, 54, 55, 56, 57, 88]⟩ : ByteArray).extract c (c + 1), true), Ev.vbind hi (Ev.pos rfl (Ev.pos (by omega) (Ev.bind e2 ?_))), Ev.bind hg (Ev.pos rfl (Ev.pos (by omega) (Ev.bind e1 ?_))), rfl, by rw [s1]; exact Nat.le_refl _, fun _ => ?_⟩
    · rw [ec, wrap_nat (by omega), Int.toNat_natCast, Int.toNat_natCast]
      exact Ev.pos (by omega) (Ev.pos (by omega) (Ev.pos (by omega) (Ev.val (by rw [sign_same ⟨c, hc⟩]))))
    · rw [ec, wrap_nat (by omega), Int.toNat_natCast, Int.toNat_natCast]
      exact Ev.pos (by omega) (Ev.pos (by omega) (Ev.pos (by omega) (Ev.val rfl)))
    · simp only
      rw [s1]
      have z1 : (s ++ (⟨#[UInt8.ofNat (48 + c)]⟩ : ByteArray)).size = s.size + 1 := by rw [size_append]; rfl
      have hr := dblI_right (s ++ (⟨#[UInt8.ofNat (48 + c)]⟩ : ByteArray)) (by omega)
      rw [app_dig s _ (by omega) g, if_pos rfl] at hr
      refine ⟨rfl, by omega, Ev.eq hr ?_⟩
      rw [ha _ (by omega), s2, Int.tmod_eq_emod_of_nonneg (by omega)]
      have : (v + (((48 + c : Nat) : Int) - 48)) % 10 = 0 := by omega
      rw [this]
      rfl
theorem exch_dig (a : ByteArray) (i : Nat) (h1 : 1 ≤ i) (h : i < a.size) (hd : digitsB a 2 12 = true) : digitsB (exch a i) 2 12 = true := by
  have h' : i < a.data.toList.length := h
  have hz := exch_size a i h1 h
  unfold digitsB at hd ⊢
  simp only [Bool.and_eq_true, decide_eq_true_eq] at hd ⊢
  refine ⟨by rw [hz]; exact hd.1, ?_⟩
  have e := exch_data a i h1 h'
  have s := self_dataD a i h1 h'
  have h2 := hd.2
  rw [s] at h2
  rw [e]
  simp only [List.all_append, List.all_cons, Bool.and_eq_true] at h2 ⊢
  exact ⟨h2.1, h2.2.2.1, h2.2.1, h2.2.2.2⟩
/-- of a right number with two unlike neighbours exchanged the program says what the law says -/
theorem exch_key (a : ByteArray) (i : Nat) (h1 : 1 ≤ i) (h : i < a.size) (hd : digitsB a 2 12 = true) (hr : Int.tmod (dsum a) 10 = 0) (hne : bt a ((i - 1 : Nat) : Int) ≠ bt a (i : Int)) :
    Ev (fun k => impl_IsDoubledRight.f k (exch a i)) (decide (bt a ((i - 1 : Nat) : Int) = 48 ∧ bt a (i : Int) = 57 ∨ bt a ((i - 1 : Nat) : Int) = 57 ∧ bt a (i : Int) = 48), true) := by
  have hb := dig_bounds hd
  have hv := dsum_bounds hd
  have hz := exch_size a i h1 h
  have hx := exch_dig a i h1 h hd
  have hxv := dsum_bounds hx
  have h2 := dblI_right (exch a i) (by omega)
  rw [hx, if_pos rfl] at h2
  refine Ev.eq h2 ?_
  rw [Int.tmod_eq_emod_of_nonneg hv.1] at hr
  rw [Int.tmod_eq_emod_of_nonneg hxv.1]
  have := exch_right a i h1 h (hb.2.2 i h) (hb.2.2 (i - 1) (by omega)) hne hr
  rw [Prod.mk.injEq]
  refine ⟨?_, rfl⟩
  rw [Bool.eq_iff_iff, beq_iff_eq, decide_eq_true_iff]
  exact this
end Go.Proofs.YtkplbgeccaadeaaGreatDoor.PA
/-! What the law on doubled checks meets: values that both programs give for a scheme and for a text. No condition but bounds. -/
namespace Go.Proofs.YtkplbgeccaadeaaGreatDoor.PA
open Go.RowKit Go.Proofs.YtkplbgeccaadeaaGreatDoorW.PrintWords
set_option linter.unusedVariables false
theorem fSame_l0 (l : List Int) (hl : l.length ≤ 1048576) : ∀ (d i : Nat), i + d = l.length → Ev (fun k => laws_fSame.l0 k l l (l.length : Int) (i : Int)) true
  | 0, i, h => by
    refine Ev.step (fun k => by rw [laws_fSame.l0]) ?_
    exact Ev.neg (by omega) (Ev.val rfl)
  | d + 1, i, h => by
    refine Ev.step (fun k => by rw [laws_fSame.l0]) ?_
    refine Ev.pos (by omega) (Ev.pos (by omega) (Ev.pos (by omega) (Ev.pos (by omega) (Ev.pos rfl ?_))))
    rw [wrap_nat (by omega)]
    exact fSame_l0 l hl d (i + 1) (by omega)
theorem fScheme_ev (m : Int) (l : List Int) (hl : l.length ≤ 1048576) : Ev (fun k => laws_fScheme.f k m l m l) true := by
  unfold laws_fScheme.f laws_fSame.f
  exact Ev.pos rfl (Ev.bind (Ev.pos rfl (fSame_l0 l hl l.length 0 (by omega))) (Ev.val rfl))
theorem fRows_ev : Ev (fun k => laws_fRows.f k [[0, 9]] [[0, 9]]) true := by
  have h : laws_fRows.f 10 [[0, 9]] [[0, 9]] = some true := by decide +kernel
  refine ⟨10, fun k hk => ?_⟩
  have := leO_add (fun k => laws_fRows.mono [[0, 9]] [[0, 9]] k) (k := 10) h (k - 10)
  rwa [show 10 + (k - 10) = k by omega] at this
theorem schT_size (m : Int) (l : List Int) (h0 : 0 ≤ m) (h1 : m < 100) (hl : l.length ≤ 12) (hs : ∀ y ∈ l, 0 ≤ y ∧ y < 100) : (schT m l).size ≤ 100 := by
  have hd := dec_le m h0 h1
  have hz := comma_size (l.map decB) (decs_le l hs) l.length (by simp)
  rw [List.take_of_length_le (by simp)] at hz
  unfold schT
  rw [size_append, size_append]
  have : (⟨#[58]⟩ : ByteArray).size = 1 := rfl
  omega
theorem ckText_ev (m : Int) (l : List Int) (h0 : 0 ≤ m) (h1 : m < 100) (l0 : 1 ≤ l.length) (hl : l.length ≤ 12) (hs : ∀ y ∈ l, 0 ≤ y ∧ y < 100) : Ev (fun k => spec_ckText.f k m l) (schT m l) := by
  have hd := dec_le m h0 h1
  have e1 := ckText_l0 l (by omega) hs (decB m ++ (⟨#[58]⟩ : ByteArray)) (by rw [size_append]; show _ + 1 ≤ _; omega) l.length 0 (by omega)
  have e0 : decB m ++ (⟨#[58]⟩ : ByteArray) ++ commaT ((l.map decB).take 0) = decB m ++ (⟨#[58]⟩ : ByteArray) := by rw [comma_zero, app_nil]
  rw [e0] at e1
  unfold spec_ckText.f
  exact Ev.bind (l1Num_ev m h0 h1) (Ev.pos (by omega) e1)
theorem schemeTextS_ev (m : Int) (l : List Int) (h1 : l.length ≤ 1048576) : Ev (fun k => spec_SchemeText.f k m l) (if schB m l = true then (schT m l, true) else (⟨#[]⟩, false)) := by
  have hg := ckGood_ev m l h1
  unfold spec_SchemeText.f
  cases g : schB m l with
  | false =>
    rw [g] at hg
    exact Ev.bind hg (Ev.neg (by simp) (Ev.val rfl))
  | true =>
    rw [g] at hg
    obtain ⟨m0, m1, l0, l1, hw⟩ := sch_facts g
    rw [if_pos rfl]
    exact Ev.bind hg (Ev.pos rfl (Ev.bind (ckText_ev m l (by omega) (by omega) l0 l1 (fun y hy => by have := hw y hy; omega)) (Ev.val rfl)))
/-- all that the law asks of a scheme -/
theorem scheme_vals (m : Int) (l : List Int) (hl : l.length ≤ 6) : ∃ (g : Bool) (cnt : Int) (tx : ByteArray) (b1 b2 : Bool),
    Ev (fun k => impl_CountRight.f k m l) (cnt, g) ∧ Ev (fun k => spec_CountRight.f k m l) (cnt, g) ∧ Ev (fun k => impl_SchemeText.f k m l) (tx, g) ∧ Ev (fun k => spec_SchemeText.f k m l) (tx, g) ∧
    impl_FindsAllSingles.f m l = some (b1, g) ∧ Ev (fun k => spec_FindsAllSingles.f k m l) (b1, g) ∧ impl_FindsAllSwaps.f m l = some (b2, g) ∧ Ev (fun k => spec_FindsAllSwaps.f k m l) (b2, g) ∧
    impl_IsScheme.f m l = some g ∧ (g = true → 1 ≤ cnt ∧ (m = 11 → cnt = q10 l.length) ∧ (m = 10 → q10 l.length ≤ cnt ∧ cnt ≤ 2 * q10 l.length) ∧ (11 < m → cnt ≤ q10 l.length) ∧ Ev (fun k => impl_ParseScheme.f k tx) (m, l, true) ∧ tx.size ≤ 1000) := by
  obtain ⟨⟨cnt, o⟩, c1, c2, c3, c4⟩ := count_key m l (by omega)
  obtain ⟨b1, s1, s2, _⟩ := singles_key m l (by omega)
  obtain ⟨b2, w1, w2⟩ := swaps_key m l (by omega)
  have t1 := schemeTextI_ev m l (by omega)
  have t2 := schemeTextS_ev m l (by omega)
  have hi := isScheme_f m l (by omega)
  simp only at c3 c4
  subst c3
  have hx : (if schB m l = true then (schT m l, true) else ((⟨#[]⟩ : ByteArray), false)) = (if schB m l = true then schT m l else ⟨#[]⟩, schB m l) := by
    cases schB m l <;> rfl
  rw [hx] at t1 t2
  refine ⟨schB m l, cnt, _, b1, b2, c2, c1, t1, t2, s2, s1, w2, w1, hi, fun g => ?_⟩
  obtain ⟨m0, m1, l0, l1, hw⟩ := sch_facts g
  obtain ⟨d1, d2, d3, d4⟩ := c4 g
  rw [if_pos g]
  have hz := schT_size m l (by omega) (by omega) l1 (fun y hy => by have := hw y hy; omega)
  exact ⟨d1, d2, d3, d4, (parse_good m l g (by omega)).2, by omega⟩
/-- all that the law asks of a doubled number -/
theorem number_vals (s : ByteArray) (hs : s.size ≤ 1000) : ∃ (g b : Bool) (v : Int) (ch : ByteArray) (gc : Bool),
    Ev (fun k => impl_IsDoubledRight.f k s) (b, g) ∧ Ev (fun k => spec_IsDoubledRight.f k s) (b, g) ∧ Ev (fun k => impl_DoubledSum.f k s) (v, g) ∧ Ev (fun k => spec_DoubledSum.f k s) (v, g) ∧
    Ev (fun k => impl_DoubledCheck.f k s) (ch, gc) ∧ Ev (fun k => spec_DoubledCheck.f k s) (ch, gc) ∧
    (g = true → 0 ≤ v ∧ v ≤ 9 * s.size ∧ s.size ≤ 12 ∧ (b = true ↔ v % 10 = 0) ∧ (b = true → ∀ i : Nat, 1 ≤ i → i < s.size → bt s ((i - 1 : Nat) : Int) ≠ bt s (i : Int) →
      Ev (fun k => impl_IsDoubledRight.f k (exch s i)) (decide (bt s ((i - 1 : Nat) : Int) = 48 ∧ bt s (i : Int) = 57 ∨ bt s ((i - 1 : Nat) : Int) = 57 ∧ bt s (i : Int) = 48), true))) ∧
    ch.size ≤ 1 ∧ (gc = true → ch.size = 1 ∧ (s ++ ch).size ≤ 12 ∧ Ev (fun k => impl_IsDoubledRight.f k (s ++ ch)) (true, true)) := by
  have r1 := dblI_right s (by omega)
  have r2 := dblS_right s (by omega)
  have s1 := dblI_sum s (by omega)
  have s2 := dblS_sum s (by omega)
  obtain ⟨⟨ch, gc⟩, k1, k2, _, k3, k4⟩ := dbl_check s (by omega)
  have hx : (if digitsB s 2 12 = true then (Int.tmod (dsum s) 10 == 0, true) else (false, false)) = (if digitsB s 2 12 = true then Int.tmod (dsum s) 10 == 0 else false, digitsB s 2 12) := by
    cases digitsB s 2 12 <;> rfl
  have hy : (if digitsB s 2 12 = true then (dsum s, true) else ((0 : Int), false)) = (if digitsB s 2 12 = true then dsum s else 0, digitsB s 2 12) := by
    cases digitsB s 2 12 <;> rfl
  rw [hx] at r1 r2
  rw [hy] at s1 s2
  refine ⟨digitsB s 2 12, _, _, ch, gc, r1, r2, s1, s2, k1, k2, fun g => ?_, k3, k4⟩
  have hb := dsum_bounds g
  have hd := dig_bounds g
  rw [if_pos g, if_pos g]
  refine ⟨hb.1, hb.2, by omega, ?_, fun hr i h1 h2 hne => ?_⟩
  · rw [beq_iff_eq, Int.tmod_eq_emod_of_nonneg hb.1]
  · exact exch_key s i h1 h2 g (by rw [beq_iff_eq] at hr; exact hr) hne
/-- all that the law asks of a scheme's text -/
theorem text_vals (t : ByteArray) (ht : t.size ≤ 1000) : ∃ (m : Int) (l : List Int) (b : Bool), Ev (fun k => impl_ParseScheme.f k t) (m, l, b) ∧ Ev (fun k => spec_ParseScheme.f k t) (m, l, b) ∧ l.length ≤ 1048576 ∧ Ev (fun k => laws_fScheme.f k m l m l) true ∧ (b = true → Ev (fun k => impl_SchemeText.f k m l) (t, true)) := by
  obtain ⟨m, l, b, h1, h2, h3, h4⟩ := parseScheme_key2 t (by omega)
  refine ⟨m, l, b, h2, h1, h3, fScheme_ev m l h3, fun hb => ?_⟩
  obtain ⟨g, e⟩ := h4 hb
  have := schemeTextI_ev m l h3
  rw [if_pos g, ← e] at this
  exact this
end Go.Proofs.YtkplbgeccaadeaaGreatDoor.PA
/-! What the reference draws for the law on doubled checks: some text each, of bounded size. No condition but bounds. -/
namespace Go.Proofs.YtkplbgeccaadeaaGreatDoor.PA
open Go.RowKit Go.Proofs.YtkplbgeccaadeaaGreatDoorW.PrintWords Go.Proofs.YtkplbgeccaadeaaGreatDoorW.PrintLast Go.Proofs.YtkplbgeccaadeaaGreatDoorW.PrintMore
set_option linter.unusedVariables false
set_option linter.unusedSimpArgs false
theorem new_is {w W : World} {g c : Nat} {A : Option Addr} {l : List Int} (hb : W.heap[g]? = some (.cells #[.slice A l.length c, .int .i64 0, .int .u64 0] 80 (0, 0))) (hg : w.heap.size ≤ g) (hC : Kd.C (Kd.int .u8) w A l.length l) : IsS80 w W g l 0 0 := ⟨A, c, hb, hg, hC⟩
theorem CurA.of_is {w0 W : World} {g : Nat} {l : List Int} {a s n : Int} (h : IsS80 w0 W g l a s) (hok : okC l) (h0 : 0 ≤ a) (h1 : a ≤ n) : CurA w0 W g n := ⟨l, a, s, h, hok, h0, h1⟩
theorem CurA.far {w0 W : World} {g : Nat} {n : Int} {α : Type} {d : Kd α} {e base : Nat} {ok : Nat → Prop} {v : Value} {xs : List α} (h : CurA w0 W g n) (ho : d.R e W base ok v xs) (ht : e ≠ 80) : some g ≠ v.ownBlock := by
  obtain ⟨l, a, s, h1, _⟩ := h
  exact h1.own_ne ho ht
set_option maxHeartbeats 16000000 in
set_option maxRecDepth 100000 in
theorem drawParse_any {w : World} {A0 : Option Addr} {c0 : Nat} {l0 : List Int} (hr0 : Kd.C (Kd.int .u8) w A0 l0.length l0) (hok : okC l0) :
    Calls Tryz.prog 50 #[.slice A0 l0.length c0] w fun e w' => ∃ r, e = .returned (.string r) ∧ r.size ≤ 1000 ∧ Below w.heap.size w w' := by
  have HR0 := Aside0.mk hr0
  have HOK := Aside0.mk hok
  clear hr0 hok
  have HB := Aside0.mk (Below.refl w.heap.size w)
  go_enter Tryz.func50, Tryz.ntmps50
  go_wp2_with (first | ((with_reducible refine gate_dst (N := 7) rfl ?_); (try (refine gate_guard (by rfl) ?_; dsimp only)); refine box_event ?hg (N := 7) ?hd (cs := #[.slice A0 l0.length c0, .int .i64 0, .int .u64 0]) (t := 80) ?hr ?_; (case hd => rfl); (case hg => rfl); (case hr => first | (go_simp; done) | (go_simp; rfl)); intro g hg w1 hbox hb2; have HB1 := Aside0.mk (below_step HB.out hb2); have HI1 := Aside0.mk (new_is (w := w) hbox (by rw [hg]; exact below_size HB.out) HR0.out); clear hbox hg hb2))
  obtain ⟨m, vs, a1, s1, ⟨k1, e1⟩, hm0, hm1, hv0, hv1, hvs, ha0, ha1⟩ := sure_ex HOK.out (a := 0) (s := 0) (n := 0) (by omega) (by omega) (by omega)
  have hs1 := spec_l1Cur_sureScheme.calls k1 g l0 0 0 m vs a1 s1 w w1 HI1.out HB1.out (e1 k1 (Nat.le_refl _))
  have hs99 : ∀ y ∈ vs, 0 ≤ y ∧ y < 100 := fun y hy => by have := hvs y hy; omega
  have E2 := Aside0.mk (ckText_ev m vs (by omega) (by omega) hv0 (by omega) hs99)
  have Z2 := Aside0.mk (schT_size m vs (by omega) (by omega) (by omega) hs99)
  have A1 := Aside0.mk ha0
  have A2 := Aside0.mk ha1
  clear e1 hvs hs99 hm0 hm1 hv0 hv1 ha0 ha1
  refine hs1.mono ?_
  rintro e w2 ⟨v1, rfl, hO2, hI2, hb2, -⟩
  clear hs1
  have HC2 := Aside0.mk (CurA.of_is hI2 HOK.out A1.out A2.out)
  have HB2 := Aside0.mk hb2
  have HO2 := Aside0.mk hO2
  obtain ⟨Ao, co, eo⟩ := Kd.R_slice HO2.out
  subst eo
  clear hO2 hI2 hb2
  obtain ⟨t, ht⟩ : ∃ t, t = schT m vs := ⟨_, rfl⟩
  rw [← ht] at E2 Z2
  clear ht
  go_wp2_with fail
  obtain ⟨k2, e2⟩ := E2.out
  have hs2 := spec_ckText.calls k2 m Ao co vs t w2 (Kd.R_reads' HO2.out).2.2 (Kd.R_reads' HO2.out).2.1 (e2 k2 (Nat.le_refl _))
  clear e2
  refine hs2.mono ?_
  rintro e w3 ⟨rfl, hb3⟩
  clear hs2
  have HB3 := Aside0.mk (below_step HB2.out hb3)
  have HC3 := Aside0.mk (HC2.out.below hb3)
  clear hb3 HC2 HB2
  go_wp2_with fail
  have hs3 := one_any 3 HC3.out (by omega) HB3.out
  refine hs3.mono ?_
  rintro e w4 ⟨r, rfl, hc4, hb4, -⟩
  clear hs3
  have HC4 := Aside0.mk hc4
  have HB4 := Aside0.mk hb4
  clear hc4 hb4
  have hz := Z2.out
  cases r with
  | false =>
    go_wp2
    go_ret
    exact ⟨_, rfl, by omega, HB4.out⟩
  | true =>
    go_wp2_with fail
    have hs5 := spoilt_any t (⟨#[48, 49, 50, 51, 58, 44, 120]⟩ : ByteArray) (by omega) ⟨by decide, by decide⟩ HC4.out (by omega) HB4.out
    refine hs5.mono ?_
    rintro e w5 ⟨r, rfl, hr, -, hb5, -⟩
    go_wp2
    go_ret
    exact ⟨_, rfl, by omega, hb5⟩
set_option maxHeartbeats 16000000 in
set_option maxRecDepth 100000 in
theorem drawSum_any {w : World} {A0 : Option Addr} {c0 : Nat} {l0 : List Int} (hr0 : Kd.C (Kd.int .u8) w A0 l0.length l0) (hok : okC l0) :
    Calls Tryz.prog 100 #[.slice A0 l0.length c0] w fun e w' => ∃ r, e = .returned (.string r) ∧ r.size ≤ 1000 ∧ Below w.heap.size w w' := by
  have HR0 := Aside0.mk hr0
  have HOK := Aside0.mk hok
  clear hr0 hok
  have HB := Aside0.mk (Below.refl w.heap.size w)
  obtain ⟨ts, hts⟩ : ∃ ts : List ByteArray, ts = [⟨#[]⟩, ⟨#[49]⟩, ⟨#[49, 50, 120]⟩, ⟨#[49, 50, 51, 52, 53, 54, 55, 56, 57, 48, 49, 50, 51]⟩, ⟨#[48, 48]⟩, ⟨#[55, 57, 57, 50, 55, 51, 57, 56, 55, 49, 51]⟩] := ⟨_, rfl⟩
  have HTS := Aside0.mk hts
  clear hts
  go_enter Tryz.func100, Tryz.ntmps100
  go_wp2_with (first | ((with_reducible refine gate_dst (N := 9) rfl ?_); (try (refine gate_guard (by rfl) ?_; dsimp only)); refine box_event ?hg (N := 9) ?hd (cs := #[.slice A0 l0.length c0, .int .i64 0, .int .u64 0]) (t := 80) ?hr ?_; (case hd => rfl); (case hg => rfl); (case hr => first | (go_simp; done) | (go_simp; rfl)); intro g hg w1 hbox hb2; have HB1 := Aside0.mk (below_step HB.out hb2); have HC1 := Aside0.mk (CurA.of_is (n := 0) (new_is (w := w) hbox (by rw [hg]; exact below_size HB.out) HR0.out) HOK.out (Int.le_refl 0) (Int.le_refl 0)); clear hbox hg hb2))
  have hs1 := one_any 10 HC1.out (by omega) HB1.out
  refine hs1.mono ?_
  rintro e w2 ⟨r, rfl, hc2, hb2, -⟩
  clear hs1
  have HC2 := Aside0.mk hc2
  have HB2 := Aside0.mk hb2
  clear hc2 hb2 HC1 HB1
  cases r with
  | true =>
    go_wp2_with (first | ((with_reducible refine gate_dst (N := 13) rfl ?_); refine Kd.R_lit Kd.string _ 9 ?hg (N := 13) ?hd (xs := ([⟨#[]⟩, ⟨#[49]⟩, ⟨#[49, 50, 120]⟩, ⟨#[49, 50, 51, 52, 53, 54, 55, 56, 57, 48, 49, 50, 51]⟩, ⟨#[48, 48]⟩, ⟨#[55, 57, 57, 50, 55, 51, 57, 56, 55, 49, 51]⟩] : List ByteArray)) (inner := [.string ⟨#[]⟩, .string ⟨#[49]⟩, .string ⟨#[49, 50, 120]⟩, .string ⟨#[49, 50, 51, 52, 53, 54, 55, 56, 57, 48, 49, 50, 51]⟩, .string ⟨#[48, 48]⟩, .string ⟨#[55, 57, 57, 50, 55, 51, 57, 56, 55, 49, 51]⟩]) (ok := fun _ => True) (okp := fun _ => True) ?hr ?hp (fun _ hk => hk) trivial (Below.refl _ _) (Nat.le_refl _) (by simp) ?_; (case hd => rfl); (case hg => rfl); (case hr => first | (go_simp; done) | (go_simp; rfl)); (case hp => exact (Reps.one (show Kd.M Kd.string _ _ _ _ _ from rfl) (Reps.one (show Kd.M Kd.string _ _ _ _ _ from rfl) (Reps.one (show Kd.M Kd.string _ _ _ _ _ from rfl) (Reps.one (show Kd.M Kd.string _ _ _ _ _ from rfl) (Reps.one (show Kd.M Kd.string _ _ _ _ _ from rfl) (Reps.one (show Kd.M Kd.string _ _ _ _ _ from rfl) (Reps.none _ _)))))))); intro v13 w4 ho4 hb4 hg_ hnew_; clear hg_ hnew_; rw [← HTS.out] at ho4; have HB4 := Aside0.mk (below_step HB2.out hb4); have HC4 := Aside0.mk (HC2.out.below hb4); have HO4 := Aside0.mk ho4; obtain ⟨Ao, co, eo⟩ := Kd.R_slice ho4; subst eo; clear ho4 hb4))
    have hl6 : ts.length = 6 := by rw [HTS.out]; rfl
    have hs2 := of_any ts (by omega) (by omega) (Kd.R_reads' HO4.out).2.2 (Kd.R_reads' HO4.out).2.1 (far_slice (CurA.far HC4.out HO4.out (by decide))) HC4.out (by omega) HB4.out
    clear hl6
    refine hs2.mono ?_
    rintro e w5 ⟨r, rfl, hr, -, hb5, -⟩
    have hz : r.size ≤ 1000 := by
      rw [HTS.out] at hr
      simp only [List.mem_cons, List.not_mem_nil, or_false] at hr
      rcases hr with rfl | rfl | rfl | rfl | rfl | rfl <;> decide
    clear hr hs2
    go_wp2
    go_ret
    exact ⟨_, rfl, hz, hb5⟩
  | false =>
    go_wp2_with fail
    have hs2 := pick_any 9 HC2.out (by omega) HB2.out
    refine hs2.mono ?_
    rintro e w3 ⟨q, rfl, q0, -, q2, hc3, hb3, -⟩
    clear hs2
    obtain ⟨q, rfl⟩ : ∃ q' : Nat, q = (q' : Int) := ⟨q.toNat, by omega⟩
    have hq := q2 (by omega)
    have HC3 := Aside0.mk hc3
    have HB3 := Aside0.mk hb3
    clear hc3 hb3 HC2 HB2 q2 q0
    have hs3 := digits_any (q + 1) (by omega) HC3.out (by omega) HB3.out
    have hw1 : IntKind.i64.wrap (1 + (q : Int)) = ((q + 1 : Nat) : Int) := by rw [IntKind.wrap_i64]; omega
    go_wp2_with fail
    refine hs3.mono ?_
    rintro e w4 ⟨t, rfl, hz, hc4, hb4, -⟩
    clear hs3 hw1
    have HC4 := Aside0.mk (hc4.more (m := 100) (by omega))
    have HB4 := Aside0.mk hb4
    have HZ := Aside0.mk hz
    have HQ := Aside0.mk hq
    clear hc4 hb4 HC3 HB3 hz hq
    obtain ⟨⟨x, b⟩, -, ⟨k5, e5⟩, -, hx, -⟩ := dbl_check t (by have := HZ.out; have := HQ.out; omega)
    have HX := Aside0.mk hx
    have hs4 := spec_DoubledCheck.calls k5 t x b w4 (e5 k5 (Nat.le_refl _))
    clear e5 hx
    go_wp2_with fail
    refine hs4.mono ?_
    rintro e w5 ⟨rfl, hd5⟩
    have hb5 := hd5.below
    clear hs4 hd5
    have HB5 := Aside0.mk (below_step HB4.out hb5)
    have HC5 := Aside0.mk (HC4.out.below hb5)
    clear hb5 HB4 HC4
    cases b with
    | false =>
      go_wp2
      go_ret
      exact ⟨_, rfl, by have := HZ.out; have := HQ.out; omega, HB5.out⟩
    | true =>
      go_wp2_with fail
      have hs6 := one_any 2 HC5.out (by omega) HB5.out
      refine hs6.mono ?_
      rintro e w6 ⟨r, rfl, -, hb6, -⟩
      clear hs6
      have HB6 := Aside0.mk hb6
      clear hb6 HB5 HC5
      have hzz : t.size + x.size ≤ 100 := by have := HZ.out; have := HQ.out; have := HX.out; omega
      cases r with
      | false =>
        go_wp2
        go_ret
        exact ⟨_, rfl, by omega, HB6.out⟩
      | true =>
        go_wp2
        go_ret
        exact ⟨_, rfl, by rw [size_append]; omega, HB6.out⟩
theorem drawDbl_any {w : World} {A0 : Option Addr} {c0 : Nat} {l0 : List Int} (hr0 : Kd.C (Kd.int .u8) w A0 l0.length l0) (hok : okC l0) :
    Calls Tryz.prog 43 #[.slice A0 l0.length c0] w fun e w' => ∃ r, e = .returned (.string r) ∧ r.size ≤ 1000 ∧ Below w.heap.size w w' := by
  have hs := drawSum_any (c0 := c0) hr0 hok
  clear hr0 hok
  go_enter Tryz.func43, Tryz.ntmps43
  go_wp2_with fail
  refine hs.mono ?_
  rintro e w1 ⟨r, rfl, hz, hb⟩
  clear hs
  go_wp2
  go_ret
  exact ⟨_, rfl, hz, hb⟩
end Go.Proofs.YtkplbgeccaadeaaGreatDoor.PA
/-! The law on doubled checks, walked: it returns true of any two texts. No condition but bounds of size. -/
namespace Go.Proofs.YtkplbgeccaadeaaGreatDoor.PA
open Go.RowKit Go.Proofs.YtkplbgeccaadeaaGreatDoorW.PrintWords Go.Proofs.YtkplbgeccaadeaaGreatDoorW.PrintLast Go.Proofs.YtkplbgeccaadeaaGreatDoorW.PrintMore
set_option linter.unusedVariables false
set_option linter.unusedSimpArgs false
/-- a scheme in a variable of the law's own -/
def SAt (w W : World) (gb : Nat) (m : Int) (A : Option Addr) (c : Nat) (l : List Int) : Prop :=
  W.heap[gb]? = some (.cells #[.int .i64 m, .slice A l.length c] 26 (0, 0)) ∧ Kd.C (Kd.int .i64) W A l.length l ∧ l.length ≤ c ∧ w.heap.size ≤ gb
theorem SAt.below {w W W2 : World} {gb : Nat} {m : Int} {A : Option Addr} {c : Nat} {l : List Int} (h : SAt w W gb m A c l) (hb : Below W.heap.size W W2) : SAt w W2 gb m A c l := ⟨blk_below h.1 hb, Kd.C_below h.2.1 hb, h.2.2.1, h.2.2.2⟩
theorem SAt.c0 {w W : World} {gb : Nat} {m : Int} {A : Option Addr} {c : Nat} {l : List Int} (h : SAt w W gb m A c l) : W.cell? ⟨gb, 0, none⟩ = some (.int .i64 m) := (blk_cell h.1 0).trans rfl
theorem SAt.c1 {w W : World} {gb : Nat} {m : Int} {A : Option Addr} {c : Nat} {l : List Int} (h : SAt w W gb m A c l) : W.cell? ⟨gb, 1, none⟩ = some (.slice A l.length c) := (blk_cell h.1 1).trans rfl
/-- a scheme that was stored into a new variable -/
theorem SAt.stored {w W : World} {gb : Nat} {m : Int} {A : Option Addr} {c : Nat} {l : List Int} (hb : W.heap[gb]? = some (.cells #[.int .i64 0, .slice none 0 0] 26 (0, 0))) (hO : Kd.R (Kd.int .i64) 3 W w.heap.size (fun _ => True) (.slice A l.length c) l) (hg : w.heap.size ≤ gb) :
    SAt w ((W.setCell ⟨gb, 0, none⟩ (.int .i64 m)).setCell ⟨gb, 1, none⟩ (.slice A l.length c)) gb m A c l := by
  have hf := Kd.R_far (p := ⟨gb, 1, none⟩) (Kd.R_far (p := ⟨gb, 0, none⟩) (Kd.R_types hO hb (by decide)) (fun _ hk => hk.2) (.int .i64 m)) (fun _ hk => hk.2) (.slice A l.length c)
  refine ⟨?_, (Kd.R_reads' hf).2.2, (Kd.R_reads' hf).2.1, hg⟩
  refine blk_put (cs := #[.int .i64 m, .slice none 0 0]) ?_ 1 _ rfl
  exact blk_put (cs := #[.int .i64 0, .slice none 0 0]) hb 0 _ rfl
theorem wp_named {P : Program} {c : Code} {Q : Exit → Act → World → Prop} {a : Act} {W : World} (h : ∀ W', W' = W → Code.wp P c Q a W') : Code.wp P c Q a W := h W rfl
theorem okC_of {l : List Int} (h : okB l = true) : okC l := by
  intro y hy
  have := List.all_eq_true.mp h y hy
  simp only [Bool.and_eq_true, decide_eq_true_eq] at this
  exact this
theorem q10_le : ∀ i, i ≤ 6 → q10 i ≤ 1000000 := by decide
theorem q10_step (i : Nat) (h : i < 6) : IntKind.i64.wrap ((q10 i : Int) * 10) = ((q10 (i + 1) : Nat) : Int) := by
  have := q10_le i (by omega)
  have e : q10 (i + 1) = 10 * q10 i := rfl
  rw [IntKind.wrap_i64, e]
  omega
def MAt (W : World) (A : Option Addr) (c : Nat) (l : List (List Int)) : Prop := Kd.C (Kd.slice 3 (Kd.int .i64)) W A l.length l ∧ l.length ≤ c
theorem MAt.below {W W2 : World} {A : Option Addr} {c : Nat} {l : List (List Int)} (h : MAt W A c l) (hb : Below W.heap.size W W2) : MAt W2 A c l := ⟨Kd.C_below h.1 hb, h.2⟩
theorem bt_at {s : ByteArray} {i : Nat} (h : i < s.size) : bt s (i : Int) = ((s[i]'h).toNat : Int) := by
  rw [bt_nat h]
  rfl
/- WALK -/
set_option maxHeartbeats 16000000 in
set_option maxRecDepth 100000 in
theorem laws_FnChecksDoubled.calls (k : Nat) (A0 : Option Addr) (c0 : Nat) (l0 : List Int) (A1 : Option Addr) (c1 : Nat) (l1 : List Int) (r : Bool) (w : World) (hr0 : Kd.C (Kd.int .u8) w A0 l0.length l0) (hc0 : l0.length ≤ c0) (hr1 : Kd.C (Kd.int .u8) w A1 l1.length l1) (hc1 : l1.length ≤ c1) (h : laws_FnChecksDoubled.f k l0 l1 = some r) (hglob : Glob w := by assumption) :
    Calls Tryz.prog 4 #[.slice A0 l0.length c0, .slice A1 l1.length c1] w fun e w' => e = .returned (.bool r) ∧ Below w.heap.size w w' := by
  have hu26 := Tryz.underlying26
  unfold laws_FnChecksDoubled.f at h
  split at h
  rotate_left
  · cases h
  rename_i hlen
  obtain ⟨hz0, hz1, ho0, ho1⟩ := hlen
  obtain rfl := Option.some.inj h
  have HOK0 := Aside0.mk (okC_of ho0)
  have HOK1 := Aside0.mk (okC_of ho1)
  have HR0 := Aside0.mk hr0
  have HR1 := Aside0.mk hr1
  have HC0 := Aside0.mk hc0
  have HC1 := Aside0.mk hc1
  have HG := Aside0.mk hglob
  clear h hr0 hr1 hc0 hc1 ho0 ho1 hglob
  obtain ⟨bg, hbg⟩ : ∃ b, laws_big.f l0 l1 = some b := by
    unfold laws_big.f
    split
    · exact ⟨_, rfl⟩
    · exact ⟨_, rfl⟩
  have hs0 := laws_big.calls A0 c0 l0 A1 c1 l1 bg w HR0.out HC0.out HR1.out HC1.out hbg
  clear hbg hz0 hz1
  go_enter Tryz.func4, Tryz.ntmps4
  go_wp2_with fail
  refine hs0.mono ?_
  rintro e wa ⟨rfl, hda⟩
  have HBA := Aside0.mk hda.below
  clear hs0 hda
  cases bg with
  | true =>
    go_wp2
    go_ret
    exact ⟨rfl, HBA.out⟩
  | false =>
    obtain ⟨m, ws, ⟨k1, e1⟩, hws⟩ := drawScheme_ex HOK0.out
    have hs1 := spec_DrawCountRight.calls k1 A0 c0 l0 m ws wa (Kd.C_below HR0.out HBA.out) HC0.out (e1 k1 (Nat.le_refl _))
    have HWS := Aside0.mk hws
    clear e1 hws HR0 HC0 HOK0
    go_wp2_with fail
    refine hs1.mono ?_
    rintro e wb ⟨v1, rfl, hO, hb⟩
    obtain ⟨Ao, co, eo⟩ := Kd.R_slice hO
    subst eo
    have HO := Aside0.mk (Kd.R_lower hO (below_size HBA.out))
    have HB := Aside0.mk (below_step HBA.out hb)
    clear hs1 hO hb HBA
    go_upto_region 4 with (first | ((with_reducible refine gate_dst (N := 5) rfl ?_); refine box_event ?hg (N := 5) ?hd (cs := #[.int .i64 0, .slice none 0 0]) (t := 26) ?hr ?_; (case hd => rfl); (case hg => rfl); (case hr => first | (go_simp; done) | (go_simp; rfl)); intro gb5 hg wbx hbox hb; have BK := Aside0.mk hbox; have GE := Aside0.mk (show w.heap.size ≤ gb5 by rw [hg]; exact below_size HB.out); have HO2 := Aside0.mk (Kd.R_below HO.out hb); have HB2 := Aside0.mk (below_step HB.out hb); clear HO HB; have GF := Aside0.mk (Nat.le_of_eq hg.symm); have HBX := Aside0.mk hb; clear hbox hg hb; have hcz0 : wbx.cell? ⟨gb5, 0, none⟩ = some (.int .i64 0) := (blk_cell BK.out 0).trans rfl; have hcz1 : wbx.cell? ⟨gb5, 1, none⟩ = some (.slice none 0 0) := (blk_cell BK.out 1).trans rfl; have hfz0 := blk_frozen BK.out 0; have hfz1 := blk_frozen BK.out 1))
    refine wp_named ?_
    intro wd hwd
    have HS := Aside0.mk (show SAt w wd gb5 m Ao co ws by rw [hwd]; exact SAt.stored BK.out HO2.out GE.out)
    have HB := Aside0.mk (show Below w.heap.size w wd by rw [hwd]; exact below_set (below_set HB2.out GE.out) GE.out)
    clear hwd BK HO2 HB2 hcz0 hcz1 hfz0 hfz1 GF HBX GE
    obtain ⟨g, cnt, tx, b1, b2, ⟨q1, v1⟩, ⟨q2, v2⟩, ⟨q3, v3⟩, ⟨q4, v4⟩, v5, ⟨q6, v6⟩, v7, ⟨q8, v8⟩, v9, hgood⟩ := scheme_vals m ws HWS.out
    have V1 := Aside0.mk (v1 q1 (Nat.le_refl _))
    have V2 := Aside0.mk (v2 q2 (Nat.le_refl _))
    have V3 := Aside0.mk (v3 q3 (Nat.le_refl _))
    have V4 := Aside0.mk (v4 q4 (Nat.le_refl _))
    have V6 := Aside0.mk (v6 q6 (Nat.le_refl _))
    have V8 := Aside0.mk (v8 q8 (Nat.le_refl _))
    have V5 := Aside0.mk v5
    have V7 := Aside0.mk v7
    have V9 := Aside0.mk v9
    have HGOOD := Aside0.mk hgood
    clear v1 v2 v3 v4 v5 v6 v7 v8 v9 hgood
    have cz00 := HS.out.c0
    have cz01 := HS.out.c1
    have hs := impl_CountRight.calls q1 m Ao co ws cnt g wd HS.out.2.1 HS.out.2.2.1 V1.out
    go_wp2_with fail
    refine hs.mono ?_
    rintro e we1 ⟨rfl, hb⟩
    clear hs cz00 cz01
    have HS2 := Aside0.mk (HS.out.below hb)
    have HB2 := Aside0.mk (below_step HB.out hb)
    clear hb HB HS
    have HS := HS2
    clear HS2
    have HB := HB2
    clear HB2
    have cz00 := HS.out.c0
    have cz01 := HS.out.c1
    have hs := spec_CountRight.calls q2 m Ao co ws cnt g we1 HS.out.2.1 HS.out.2.2.1 V2.out
    go_wp2_with fail
    refine hs.mono ?_
    rintro e we2 ⟨rfl, hb⟩
    clear hs cz00 cz01
    have HS2 := Aside0.mk (HS.out.below hb)
    have HB2 := Aside0.mk (below_step HB.out hb)
    clear hb HB HS
    have HS := HS2
    clear HS2
    have HB := HB2
    clear HB2
    have cz00 := HS.out.c0
    have cz01 := HS.out.c1
    have hs := impl_SchemeText.calls q3 m Ao co ws tx g we2 HS.out.2.1 HS.out.2.2.1 V3.out
    go_wp2_with fail
    refine hs.mono ?_
    rintro e we3 ⟨rfl, hb⟩
    clear hs cz00 cz01
    have HS2 := Aside0.mk (HS.out.below hb)
    have HB2 := Aside0.mk (below_step HB.out hb)
    clear hb HB HS
    have HS := HS2
    clear HS2
    have HB := HB2
    clear HB2
    have cz00 := HS.out.c0
    have cz01 := HS.out.c1
    have hs := spec_SchemeText.calls q4 m Ao co ws tx g we3 HS.out.2.1 HS.out.2.2.1 V4.out
    go_wp2_with fail
    refine hs.mono ?_
    rintro e we4 ⟨rfl, hb⟩
    clear hs cz00 cz01
    have HS2 := Aside0.mk (HS.out.below hb)
    have HB2 := Aside0.mk (below_step HB.out hb)
    clear hb HB HS
    have HS := HS2
    clear HS2
    have HB := HB2
    clear HB2
    have cz00 := HS.out.c0
    have cz01 := HS.out.c1
    have hs := impl_FindsAllSingles.calls m Ao co ws b1 g we4 HS.out.2.1 HS.out.2.2.1 V5.out
    go_wp2_with fail
    refine hs.mono ?_
    rintro e we5 ⟨rfl, hb⟩
    clear hs cz00 cz01
    have HS2 := Aside0.mk (HS.out.below hb)
    have HB2 := Aside0.mk (below_step HB.out hb)
    clear hb HB HS
    have HS := HS2
    clear HS2
    have HB := HB2
    clear HB2
    have cz00 := HS.out.c0
    have cz01 := HS.out.c1
    have hs := spec_FindsAllSingles.calls q6 m Ao co ws b1 g we5 HS.out.2.1 HS.out.2.2.1 V6.out
    go_wp2_with fail
    refine hs.mono ?_
    rintro e we6 ⟨rfl, hb⟩
    clear hs cz00 cz01
    have HS2 := Aside0.mk (HS.out.below hb)
    have HB2 := Aside0.mk (below_step HB.out hb)
    clear hb HB HS
    have HS := HS2
    clear HS2
    have HB := HB2
    clear HB2
    have cz00 := HS.out.c0
    have cz01 := HS.out.c1
    have hs := impl_FindsAllSwaps.calls m Ao co ws b2 g we6 HS.out.2.1 HS.out.2.2.1 V7.out
    go_wp2_with fail
    refine hs.mono ?_
    rintro e we7 ⟨rfl, hb⟩
    clear hs cz00 cz01
    have HS2 := Aside0.mk (HS.out.below hb)
    have HB2 := Aside0.mk (below_step HB.out hb)
    clear hb HB HS
    have HS := HS2
    clear HS2
    have HB := HB2
    clear HB2
    have cz00 := HS.out.c0
    have cz01 := HS.out.c1
    have hs := spec_FindsAllSwaps.calls q8 m Ao co ws b2 g we7 HS.out.2.1 HS.out.2.2.1 V8.out
    go_wp2_with fail
    refine hs.mono ?_
    rintro e we8 ⟨rfl, hb⟩
    clear hs cz00 cz01
    have HS2 := Aside0.mk (HS.out.below hb)
    have HB2 := Aside0.mk (below_step HB.out hb)
    clear hb HB HS
    have HS := HS2
    clear HS2
    have HB := HB2
    clear HB2
    clear V1 V2 V3 V4 V5 V6 V7 V8
    have n1 : (g != g) = false := bne_self_eq_false _
    have n2 : (cnt != cnt) = false := bne_self_eq_false _
    have n3 : (tx.toList != tx.toList) = false := bne_self_eq_false _
    have n4 : (b1 != b1) = false := bne_self_eq_false _
    have n5 : (b2 != b2) = false := bne_self_eq_false _
    have cz00 := HS.out.c0
    have cz01 := HS.out.c1
    have hs := impl_IsScheme.calls m Ao co ws g we8 HS.out.2.1 HS.out.2.2.1 V9.out
    go_wp2_with fail
    refine hs.mono ?_
    rintro e we9 ⟨rfl, hb⟩
    clear hs cz00 cz01
    have HS2 := Aside0.mk (HS.out.below hb)
    have HB2 := Aside0.mk (below_step HB.out hb)
    clear hb HB HS
    have HS := HS2
    clear HS2
    have HB := HB2
    clear HB2
    clear V9 n1 n2 n3 n4 n5
    go_upto_if 158 with fail
    go_cut [4] from 158 to 217 (fun v4 wc => v4 = .bool false ∧ Aside0 (Below w.heap.size w wc))
    case first =>
      cases g with
      | false =>
        go_wp2
        go_meet
        exact ⟨rfl, HB⟩
      | true =>
        obtain ⟨d1, d2, d3, d4, ⟨q5, d5⟩, d6⟩ := HGOOD.out rfl
        have D5 := Aside0.mk (d5 q5 (Nat.le_refl _))
        have DD := Aside0.mk (show 1 ≤ cnt ∧ (m = 11 → cnt = q10 ws.length) ∧ (m = 10 → q10 ws.length ≤ cnt ∧ cnt ≤ 2 * q10 ws.length) ∧ (11 < m → cnt ≤ q10 ws.length) from ⟨d1, d2, d3, d4⟩)
        clear d1 d2 d3 d4 d5 d6 HGOOD
        have cz00 := HS.out.c0
        have cz01 := HS.out.c1
        go_wp2
        clear cz00 cz01
        go_loopg [22, 162] ws.length (fun gg s22 s162 wr => ∃ i : Nat, s22 = .int .i64 (q10 i : Int) ∧ s162 = .int .i64 (i : Int) ∧ i + gg = ws.length ∧ Aside0 (SAt w wr gb5 m Ao co ws) ∧ Aside0 (Below w.heap.size w wr))
        case atStart => exact ⟨0, rfl, rfl, by omega, (by first | exact HS | exact ⟨HS.out.below (by repeat (first | exact Below.refl _ _ | apply pw_below_drewN | apply below_drew1))⟩), (by first | exact HB | exact ⟨by repeat (first | exact HB.out | apply pw_below_drewN | apply below_drew1)⟩)⟩
        case round =>
          clear HS HB
          obtain ⟨i, rfl, rfl, hgi, HS, HB⟩ := hrel
          have hws := HWS.out
          have cz00 := HS.out.c0
          have cz01 := HS.out.c1
          by_cases hi : i < ws.length
          · have z1 : decide ((i : Int) < (ws.length : Int)) = true := decide_eq_true (by omega)
            have z2 : ((i : Int) < (ws.length : Int)) = True := eq_true (by omega)
            have x1 : IntKind.i64.wrap ((q10 i : Int) * 10) = ((q10 (i + 1) : Nat) : Int) := q10_step i (by omega)
            have x2 : IntKind.i64.wrap ((i : Int) + 1) = ((i + 1 : Nat) : Int) := by rw [IntKind.wrap_i64]; omega
            go_wp2
            go_roundg (gk - 1)
            case measure => omega
            case rel => exact ⟨i + 1, (by first | rfl | (rw [← x1]; done) | (simp; done)), (by first | rfl | (simp; done) | (rw [← x2]; done)), by omega, (by first | exact HS | exact ⟨HS.out.below (by repeat (first | exact Below.refl _ _ | apply pw_below_drewN | apply below_drew1))⟩), (by first | exact HB | exact ⟨by repeat (first | exact HB.out | apply pw_below_drewN | apply below_drew1)⟩)⟩
          · have hiw : i = ws.length := by omega
            subst hiw
            have z1 : decide ((ws.length : Int) < (ws.length : Int)) = false := decide_eq_false (by omega)
            have z2 : ((ws.length : Int) < (ws.length : Int)) = False := eq_false (by omega)
            clear cz00 cz01
            go_upto_region 20 with fail
            go_cut [204] from 167 to 204 (fun v204 wc => v204 = .bool false ∧ Aside0 (SAt w wc gb5 m Ao co ws) ∧ Aside0 (Below w.heap.size w wc))
            case first =>
              have hp := q10_le ws.length hws
              obtain ⟨d1, d2, d3, d4⟩ := DD.out
              have cz00 := HS.out.c0
              have cz01 := HS.out.c1
              have y0 : decide (cnt < 1) = false := decide_eq_false (by omega)
              have y0b : (cnt < 1) = False := eq_false (by omega)
              have hw2 : IntKind.i64.wrap (2 * (q10 ws.length : Int)) = 2 * (q10 ws.length : Int) := by rw [IntKind.wrap_i64]; omega
              by_cases m11 : m = 11
              · have hcn := d2 m11
                subst m11
                have y1 : (cnt != (q10 ws.length : Int)) = false := by rw [hcn]; exact bne_self_eq_false _
                clear d1 d2 d3 d4 hp hcn
                go_wp2
                go_meet
                exact ⟨rfl, (by first | exact HS | exact ⟨HS.out.below (by repeat (first | exact Below.refl _ _ | apply pw_below_drewN | apply below_drew1))⟩), (by first | exact HB | exact ⟨by repeat (first | exact HB.out | apply pw_below_drewN | apply below_drew1)⟩)⟩
              · by_cases m10 : m = 10
                · have hcn := d3 m10
                  subst m10
                  have y1 : decide (cnt < (q10 ws.length : Int)) = false := decide_eq_false (by omega)
                  have y2 : decide (2 * (q10 ws.length : Int) < cnt) = false := decide_eq_false (by omega)
                  clear d1 d2 d3 d4 hp hcn m11
                  go_wp2
                  go_meet
                  exact ⟨rfl, (by first | exact HS | exact ⟨HS.out.below (by repeat (first | exact Below.refl _ _ | apply pw_below_drewN | apply below_drew1))⟩), (by first | exact HB | exact ⟨by repeat (first | exact HB.out | apply pw_below_drewN | apply below_drew1)⟩)⟩
                · have y1 : (m == 11) = false := beq_eq_false_iff_ne.mpr m11
                  have y2 : (m == 10) = false := beq_eq_false_iff_ne.mpr m10
                  by_cases m12 : 11 < m
                  · have hcn := d4 m12
                    have y3 : decide (11 < m) = true := decide_eq_true m12
                    have y4 : decide ((q10 ws.length : Int) < cnt) = false := decide_eq_false (by omega)
                    clear d1 d2 d3 d4 hp hcn m11 m10 m12
                    go_wp2
                    go_meet
                    exact ⟨rfl, (by first | exact HS | exact ⟨HS.out.below (by repeat (first | exact Below.refl _ _ | apply pw_below_drewN | apply below_drew1))⟩), (by first | exact HB | exact ⟨by repeat (first | exact HB.out | apply pw_below_drewN | apply below_drew1)⟩)⟩
                  · have y3 : decide (11 < m) = false := decide_eq_false m12
                    clear d1 d2 d3 d4 hp m11 m10 m12
                    go_wp2
                    go_meet
                    exact ⟨rfl, (by first | exact HS | exact ⟨HS.out.below (by repeat (first | exact Below.refl _ _ | apply pw_below_drewN | apply below_drew1))⟩), (by first | exact HB | exact ⟨by repeat (first | exact HB.out | apply pw_below_drewN | apply below_drew1)⟩)⟩
            case rest =>
              clear HS HB
              obtain ⟨rfl, HS, HB⟩ := hcut
        
              have cz00 := HS.out.c0
              have cz01 := HS.out.c1
              have hs := impl_ParseScheme.calls q5 tx m ws true wc D5.out (Glob.below HG.out HB.out)
              go_wp2_with fail
              refine hs.mono ?_
              rintro e we10 ⟨v2, rfl, hO, hb⟩
              clear hs cz00 cz01
              have HO := Aside0.mk (Kd.R_lower hO (below_size HB.out)); obtain ⟨Ap, cp, ep⟩ := Kd.R_slice HO.out; subst ep; clear hO
              have HS2 := Aside0.mk (HS.out.below hb)
              have HB2 := Aside0.mk (below_step HB.out hb)
              clear hb HB HS
              have HS := HS2
              clear HS2
              have HB := HB2
              clear HB2
              go_upto_region 23 with (first | ((with_reducible refine gate_dst (N := 23) rfl ?_); refine box_event ?hg (N := 23) ?hd (cs := #[.int .i64 0, .slice none 0 0]) (t := 26) ?hr ?_; (case hd => rfl); (case hg => rfl); (case hr => first | (go_simp; done) | (go_simp; rfl)); intro gb23 hg wbx hbox hb; have BK := Aside0.mk hbox; have GE := Aside0.mk (show w.heap.size ≤ gb23 by rw [hg]; exact below_size HB.out); have HO2 := Aside0.mk (Kd.R_below HO.out hb); have HB2 := Aside0.mk (below_step HB.out hb); clear HO HB; have GF := Aside0.mk (Nat.le_of_eq hg.symm); have HBX := Aside0.mk hb; clear hbox hg hb; have hcz0 : wbx.cell? ⟨gb23, 0, none⟩ = some (.int .i64 0) := (blk_cell BK.out 0).trans rfl; have hcz1 : wbx.cell? ⟨gb23, 1, none⟩ = some (.slice none 0 0) := (blk_cell BK.out 1).trans rfl; have hfz0 := blk_frozen BK.out 0; have hfz1 := blk_frozen BK.out 1))
              refine wp_named ?_
              intro wf hwd
              have HS2 := Aside0.mk (HS.out.below (W2 := wf) (by rw [hwd]; exact below_set (below_set HBX.out GF.out) GF.out))
              clear HS
              have HS := HS2
              clear HS2
              have HT := Aside0.mk (show SAt w wf gb23 m Ap cp ws by rw [hwd]; exact SAt.stored BK.out HO2.out GE.out)
              have HB := Aside0.mk (show Below w.heap.size w wf by rw [hwd]; exact below_set (below_set HB2.out GE.out) GE.out)
              clear hwd BK HO2 HB2 hcz0 hcz1 hfz0 hfz1 GF HBX GE
              obtain ⟨qs, vs⟩ := fScheme_ev m ws (by have := HWS.out; omega)
              have VS := Aside0.mk (vs qs (Nat.le_refl _))
              clear vs
              have cz00 := HS.out.c0
              have cz01 := HS.out.c1
              have cz10 := HT.out.c0
              have cz11 := HT.out.c1
              have hs := laws_fScheme.calls qs m Ap cp ws m Ao co ws true wf HT.out.2.1 HT.out.2.2.1 HS.out.2.1 HS.out.2.2.1 VS.out
              go_wp2_with fail
              refine hs.mono ?_
              rintro e we11 ⟨rfl, hb⟩
              clear hs cz00 cz01 cz10 cz11
              have HS2 := Aside0.mk (HS.out.below hb)
              have HT2 := Aside0.mk (HT.out.below hb)
              have HB2 := Aside0.mk (below_step HB.out hb)
              clear hb HB HS HT
              have HS := HS2
              clear HS2
              have HT := HT2
              clear HT2
              have HB := HB2
              clear HB2
              go_wp2
              go_meet
              exact ⟨rfl, HB⟩
    case rest =>
      clear HS HB HGOOD HWS
      obtain ⟨rfl, HB⟩ := hcut
      have hs := drawDbl_any (c0 := c1) (Kd.C_below HR1.out HB.out) HOK1.out
      go_wp2_with fail
      refine hs.mono ?_
      rintro e we12 ⟨num, rfl, hz, hb⟩
      clear hs
      have HB2 := Aside0.mk (below_step HB.out hb)
      clear hb HB 
      have HB := HB2
      clear HB2
      obtain ⟨g2, b, v, ch, gc, ⟨q1, v1⟩, ⟨q2, v2⟩, ⟨q3, v3⟩, ⟨q4, v4⟩, ⟨q5, v5⟩, ⟨q6, v6⟩, hg2, hch, hgc⟩ := number_vals num hz
      have V1 := Aside0.mk (v1 q1 (Nat.le_refl _))
      have V2 := Aside0.mk (v2 q2 (Nat.le_refl _))
      have V3 := Aside0.mk (v3 q3 (Nat.le_refl _))
      have V4 := Aside0.mk (v4 q4 (Nat.le_refl _))
      have V5 := Aside0.mk (v5 q5 (Nat.le_refl _))
      have V6 := Aside0.mk (v6 q6 (Nat.le_refl _))
      have HG2 := Aside0.mk hg2
      have HGC := Aside0.mk hgc
      clear v1 v2 v3 v4 v5 v6 hg2 hgc hz hch
      have hs := impl_IsDoubledRight.calls q1 num b g2 we12 V1.out
      go_wp2_with fail
      refine hs.mono ?_
      rintro e we13 ⟨rfl, hb⟩
      clear hs
      have HB2 := Aside0.mk (below_step HB.out hb)
      clear hb HB 
      have HB := HB2
      clear HB2
      have hs := spec_IsDoubledRight.calls q2 num b g2 we13 V2.out
      go_wp2_with fail
      refine hs.mono ?_
      rintro e we14 ⟨rfl, hd⟩
      have hb := hd.below
      clear hd
      clear hs
      have HB2 := Aside0.mk (below_step HB.out hb)
      clear hb HB 
      have HB := HB2
      clear HB2
      have hs := impl_DoubledSum.calls q3 num v g2 we14 V3.out
      go_wp2_with fail
      refine hs.mono ?_
      rintro e we15 ⟨rfl, hb⟩
      clear hs
      have HB2 := Aside0.mk (below_step HB.out hb)
      clear hb HB 
      have HB := HB2
      clear HB2
      have hs := spec_DoubledSum.calls q4 num v g2 we15 V4.out
      go_wp2_with fail
      refine hs.mono ?_
      rintro e we16 ⟨rfl, hd⟩
      have hb := hd.below
      clear hd
      clear hs
      have HB2 := Aside0.mk (below_step HB.out hb)
      clear hb HB 
      have HB := HB2
      clear HB2
      have hs := impl_DoubledCheck.calls q5 num ch gc we16 V5.out
      go_wp2_with fail
      refine hs.mono ?_
      rintro e we17 ⟨rfl, hb⟩
      clear hs
      have HB2 := Aside0.mk (below_step HB.out hb)
      clear hb HB 
      have HB := HB2
      clear HB2
      have hs := spec_DoubledCheck.calls q6 num ch gc we17 V6.out
      go_wp2_with fail
      refine hs.mono ?_
      rintro e we18 ⟨rfl, hd⟩
      have hb := hd.below
      clear hd
      clear hs
      have HB2 := Aside0.mk (below_step HB.out hb)
      clear hb HB 
      have HB := HB2
      clear HB2
      clear V1 V2 V3 V4 V5 V6
      have hs := drawParse_any (c0 := c1) (Kd.C_below HR1.out HB.out) HOK1.out
      go_wp2_with fail
      refine hs.mono ?_
      rintro e we19 ⟨t, rfl, hz, hb⟩
      clear hs
      have HB2 := Aside0.mk (below_step HB.out hb)
      clear hb HB 
      have HB := HB2
      clear HB2
      obtain ⟨m, ws, th, ⟨q1, v1⟩, ⟨q2, v2⟩, hlw, ⟨q3, v3⟩, hth⟩ := text_vals t hz
      have V1 := Aside0.mk (v1 q1 (Nat.le_refl _))
      have V2 := Aside0.mk (v2 q2 (Nat.le_refl _))
      have V3 := Aside0.mk (v3 q3 (Nat.le_refl _))
      have HTH := Aside0.mk hth
      clear v1 v2 v3 hth hlw hz
      have hs := impl_ParseScheme.calls q1 t m ws th we19 V1.out (Glob.below HG.out HB.out)
      go_wp2_with fail
      refine hs.mono ?_
      rintro e we20 ⟨v2, rfl, hO, hb⟩
      clear hs
      have HO := Aside0.mk (Kd.R_lower hO (below_size HB.out)); obtain ⟨Ao, co, ep⟩ := Kd.R_slice HO.out; subst ep; clear hO
      have HB2 := Aside0.mk (below_step HB.out hb)
      clear hb HB 
      have HB := HB2
      clear HB2
      go_upto_region 34 with (first | ((with_reducible refine gate_dst (N := 39) rfl ?_); refine box_event ?hg (N := 39) ?hd (cs := #[.int .i64 0, .slice none 0 0]) (t := 26) ?hr ?_; (case hd => rfl); (case hg => rfl); (case hr => first | (go_simp; done) | (go_simp; rfl)); intro gb39 hg wbx hbox hb; have BK := Aside0.mk hbox; have GE := Aside0.mk (show w.heap.size ≤ gb39 by rw [hg]; exact below_size HB.out); have HO2 := Aside0.mk (Kd.R_below HO.out hb); have HB2 := Aside0.mk (below_step HB.out hb); clear HO HB; have GF := Aside0.mk (Nat.le_of_eq hg.symm); have HBX := Aside0.mk hb; clear hbox hg hb; have hcz0 : wbx.cell? ⟨gb39, 0, none⟩ = some (.int .i64 0) := (blk_cell BK.out 0).trans rfl; have hcz1 : wbx.cell? ⟨gb39, 1, none⟩ = some (.slice none 0 0) := (blk_cell BK.out 1).trans rfl; have hfz0 := blk_frozen BK.out 0; have hfz1 := blk_frozen BK.out 1))
      refine wp_named ?_
      intro wg hwd
      have HS := Aside0.mk (show SAt w wg gb39 m Ao co ws by rw [hwd]; exact SAt.stored BK.out HO2.out GE.out)
      have HB := Aside0.mk (show Below w.heap.size w wg by rw [hwd]; exact below_set (below_set HB2.out GE.out) GE.out)
      clear hwd BK HO2 HB2 hcz0 hcz1 hfz0 hfz1 GF HBX GE
      have cz00 := HS.out.c0
      have cz01 := HS.out.c1
      have hs := spec_ParseScheme.calls q2 t m ws th wg V2.out
      go_wp2_with fail
      refine hs.mono ?_
      rintro e we21 ⟨v2, rfl, hO, hb⟩
      clear hs cz00 cz01
      have HO := Aside0.mk (Kd.R_lower hO (below_size HB.out)); obtain ⟨Ap, cp, ep⟩ := Kd.R_slice HO.out; subst ep; clear hO
      have HS2 := Aside0.mk (HS.out.below hb)
      have HB2 := Aside0.mk (below_step HB.out hb)
      clear hb HB HS
      have HS := HS2
      clear HS2
      have HB := HB2
      clear HB2
      go_upto_region 35 with (first | ((with_reducible refine gate_dst (N := 41) rfl ?_); refine box_event ?hg (N := 41) ?hd (cs := #[.int .i64 0, .slice none 0 0]) (t := 26) ?hr ?_; (case hd => rfl); (case hg => rfl); (case hr => first | (go_simp; done) | (go_simp; rfl)); intro gb41 hg wbx hbox hb; have BK := Aside0.mk hbox; have GE := Aside0.mk (show w.heap.size ≤ gb41 by rw [hg]; exact below_size HB.out); have HO2 := Aside0.mk (Kd.R_below HO.out hb); have HB2 := Aside0.mk (below_step HB.out hb); clear HO HB; have GF := Aside0.mk (Nat.le_of_eq hg.symm); have HBX := Aside0.mk hb; clear hbox hg hb; have hcz0 : wbx.cell? ⟨gb41, 0, none⟩ = some (.int .i64 0) := (blk_cell BK.out 0).trans rfl; have hcz1 : wbx.cell? ⟨gb41, 1, none⟩ = some (.slice none 0 0) := (blk_cell BK.out 1).trans rfl; have hfz0 := blk_frozen BK.out 0; have hfz1 := blk_frozen BK.out 1))
      refine wp_named ?_
      intro wh hwd
      have HS2 := Aside0.mk (HS.out.below (W2 := wh) (by rw [hwd]; exact below_set (below_set HBX.out GF.out) GF.out))
      clear HS
      have HS := HS2
      clear HS2
      have HT := Aside0.mk (show SAt w wh gb41 m Ap cp ws by rw [hwd]; exact SAt.stored BK.out HO2.out GE.out)
      have HB := Aside0.mk (show Below w.heap.size w wh by rw [hwd]; exact below_set (below_set HB2.out GE.out) GE.out)
      clear hwd BK HO2 HB2 hcz0 hcz1 hfz0 hfz1 GF HBX GE
      obtain ⟨rr, hrr⟩ : ∃ rr : List (List Int), rr = [[0, 9]] := ⟨_, rfl⟩
      have HRR := Aside0.mk hrr
      clear hrr
      have V4 := Aside0.mk (show impl_DoubledMissed.f = some rr by rw [HRR.out]; exact dblM_impl)
      obtain ⟨q5, v5⟩ : Ev (fun k => spec_DoubledMissed.f k) rr := by rw [HRR.out]; exact dblM_spec
      have V5 := Aside0.mk (v5 q5 (Nat.le_refl _))
      obtain ⟨q6, v6⟩ : Ev (fun k => laws_fRows.f k rr rr) true := by rw [HRR.out]; exact fRows_ev
      have V6 := Aside0.mk (v6 q6 (Nat.le_refl _))
      clear v5 v6
      have cz00 := HS.out.c0
      have cz01 := HS.out.c1
      have cz10 := HT.out.c0
      have cz11 := HT.out.c1
      have hs := impl_DoubledMissed.calls rr wh V4.out
      go_wp2_with fail
      refine hs.mono ?_
      rintro e we22 ⟨v2, rfl, hO, hb⟩
      clear hs cz00 cz01 cz10 cz11
      obtain ⟨Am, cm, ep⟩ := Kd.S_slice hO; subst ep; have HM := Aside0.mk (show MAt we22 Am cm rr from ⟨(Kd.S_reads' hO).2.2, (Kd.S_reads' hO).2.1⟩); clear hO
      have HS2 := Aside0.mk (HS.out.below hb)
      have HT2 := Aside0.mk (HT.out.below hb)
      have HB2 := Aside0.mk (below_step HB.out hb)
      clear hb HB HS HT
      have HS := HS2
      clear HS2
      have HT := HT2
      clear HT2
      have HB := HB2
      clear HB2
      have n1 : (g2 != g2) = false := bne_self_eq_false _
      have n2 : (v != v) = false := bne_self_eq_false _
      have n3 : (ch.toList != ch.toList) = false := bne_self_eq_false _
      have n4 : (b != b) = false := bne_self_eq_false _
      have n5 : (gc != gc) = false := bne_self_eq_false _
      have n6 : (th != th) = false := bne_self_eq_false _
      have cz00 := HS.out.c0
      have cz01 := HS.out.c1
      have cz10 := HT.out.c0
      have cz11 := HT.out.c1
      have hs := laws_fScheme.calls q3 m Ao co ws m Ap cp ws true we22 HS.out.2.1 HS.out.2.2.1 HT.out.2.1 HT.out.2.2.1 V3.out
      go_wp2_with fail
      refine hs.mono ?_
      rintro e we23 ⟨rfl, hb⟩
      clear hs cz00 cz01 cz10 cz11
      have HS2 := Aside0.mk (HS.out.below hb)
      have HT2 := Aside0.mk (HT.out.below hb)
      have HM2 := Aside0.mk (HM.out.below hb)
      have HB2 := Aside0.mk (below_step HB.out hb)
      clear hb HB HS HT HM
      have HS := HS2
      clear HS2
      have HT := HT2
      clear HT2
      have HM := HM2
      clear HM2
      have HB := HB2
      clear HB2
      have cz00 := HS.out.c0
      have cz01 := HS.out.c1
      have cz10 := HT.out.c0
      have cz11 := HT.out.c1
      have hs := spec_DoubledMissed.calls q5 rr we23 V5.out
      go_wp2_with fail
      refine hs.mono ?_
      rintro e we24 ⟨v2, rfl, hO, hb⟩
      clear hs cz00 cz01 cz10 cz11
      obtain ⟨An, cn, ep⟩ := Kd.S_slice hO; subst ep; have HN := Aside0.mk (show MAt we24 An cn rr from ⟨(Kd.S_reads' hO).2.2, (Kd.S_reads' hO).2.1⟩); clear hO
      have HS2 := Aside0.mk (HS.out.below hb)
      have HT2 := Aside0.mk (HT.out.below hb)
      have HM2 := Aside0.mk (HM.out.below hb)
      have HB2 := Aside0.mk (below_step HB.out hb)
      clear hb HB HS HT HM
      have HS := HS2
      clear HS2
      have HT := HT2
      clear HT2
      have HM := HM2
      clear HM2
      have HB := HB2
      clear HB2
      have cz00 := HS.out.c0
      have cz01 := HS.out.c1
      have cz10 := HT.out.c0
      have cz11 := HT.out.c1
      have hs := laws_fRows.calls q6 Am cm rr An cn rr true we24 HM.out.1 HM.out.2 HN.out.1 HN.out.2 V6.out
      go_wp2_with fail
      refine hs.mono ?_
      rintro e we25 ⟨rfl, hd⟩
      have hb := hd.below
      clear hd
      clear hs cz00 cz01 cz10 cz11
      have HS2 := Aside0.mk (HS.out.below hb)
      have HT2 := Aside0.mk (HT.out.below hb)
      have HM2 := Aside0.mk (HM.out.below hb)
      have HN2 := Aside0.mk (HN.out.below hb)
      have HB2 := Aside0.mk (below_step HB.out hb)
      clear hb HB HS HT HM HN
      have HS := HS2
      clear HS2
      have HT := HT2
      clear HT2
      have HM := HM2
      clear HM2
      have HN := HN2
      clear HN2
      have HB := HB2
      clear HB2
      go_wp2_with (first | ((with_reducible refine gate_dst (N := 315) rfl ?_); (try (refine gate_guard (by rfl) ?_; dsimp only)); refine Kd.R_lit (Kd.int .i64) _ 3 ?hg (N := 315) ?hd (xs := ([0, 9] : List Int)) (inner := [.int .i64 0, .int .i64 9]) (ok := fun _ => True) (okp := fun _ => True) ?hr ?hp (fun _ hk => hk) trivial (Below.refl _ _) (Nat.le_refl _) (by simp) ?_; (case hd => rfl); (case hg => rfl); (case hr => first | (go_simp; done) | (go_simp; rfl)); (case hp => exact (Reps.one (show Kd.M (Kd.int .i64) _ _ _ 0 [.int .i64 0] from rfl) (Reps.one (show Kd.M (Kd.int .i64) _ _ _ 9 [.int .i64 9] from rfl) (Reps.none _ _)))); intro v315 wl1 ho1 hb1 hg_ hnew_; clear hg_ hnew_; obtain ⟨Aq, cq, eq_⟩ := Kd.R_slice ho1; subst eq_; have HQ1 := Aside0.mk ho1; have HQB := Aside0.mk hb1; clear ho1 hb1) | ((with_reducible refine gate_dst (N := 316) rfl ?_); (try (refine gate_guard (by rfl) ?_; dsimp only)); refine Kd.R_lit (w0 := we25) (Kd.slice 3 (Kd.int .i64)) we25.heap.size 24 ?hg (N := 316) ?hd (xs := ([[0, 9]] : List (List Int))) (inner := [.slice Aq ([0, 9] : List Int).length cq]) (ok := fun _ => True) (okp := fun _ => True) ?hr ?hp (fun _ hk => hk) trivial HQB.out (below_size HQB.out) (by simp) ?_; (case hd => rfl); (case hg => rfl); (case hr => first | (go_simp; done) | (go_simp; rfl)); (case hp => exact (Reps.one ⟨_, rfl, Kd.R_mono HQ1.out (fun _ _ => trivial)⟩ (Reps.none _ _))); intro v316 wl2 ho2 hb2 hg_ hnew_; clear hg_ hnew_; rw [← HRR.out] at ho2; obtain ⟨Ar, cr, er_⟩ := Kd.R_slice ho2; subst er_; have HP2 := Aside0.mk (show MAt wl2 Ar cr rr from ⟨(Kd.R_reads' ho2).2.2, (Kd.R_reads' ho2).2.1⟩); have HPB := Aside0.mk hb2; clear ho2 hb2 HQ1 HQB))
      have hb := HPB.out
      clear HPB
      clear HN
      have HS2 := Aside0.mk (HS.out.below hb)
      have HT2 := Aside0.mk (HT.out.below hb)
      have HM2 := Aside0.mk (HM.out.below hb)
      have HB2 := Aside0.mk (below_step HB.out hb)
      clear hb HB HS HT HM
      have HS := HS2
      clear HS2
      have HT := HT2
      clear HT2
      have HM := HM2
      clear HM2
      have HB := HB2
      clear HB2
      have hs := laws_fRows.calls q6 Am cm rr Ar cr rr true wl2 HM.out.1 HM.out.2 HP2.out.1 HP2.out.2 V6.out
      refine hs.mono ?_
      rintro e wk ⟨rfl, hd⟩
      have hb := hd.below
      clear hd hs
      have HS2 := Aside0.mk (HS.out.below hb)
      have HT2 := Aside0.mk (HT.out.below hb)
      have HM2 := Aside0.mk (HM.out.below hb)
      have HP22 := Aside0.mk (HP2.out.below hb)
      have HB2 := Aside0.mk (below_step HB.out hb)
      clear hb HB HS HT HM HP2
      have HS := HS2
      clear HS2
      have HT := HT2
      clear HT2
      have HM := HM2
      clear HM2
      have HP2 := HP22
      clear HP22
      have HB := HB2
      clear HB2
      clear HM HP2 HT V1 V2 V3 V4 V5 V6 HRR n1 n2 n3 n4 n5 n6
      go_upto_if 320 with fail
      go_cut [4] from 320 to 399 (fun v4 wc => v4 = .bool false ∧ Aside0 (SAt w wc gb39 m Ao co ws) ∧ Aside0 (Below w.heap.size w wc))
      case first =>
        cases g2 with
        | false =>
          go_wp2
          go_meet
          exact ⟨rfl, HS, HB⟩
        | true =>
          obtain ⟨d1, d2, d3, d4, d5⟩ := HG2.out rfl
          have D5 := Aside0.mk d5
          have HNZ := Aside0.mk d3
          have y1 : decide (v < 0) = false := decide_eq_false (by omega)
          have y1b : (v < 0) = False := eq_false (by omega)
          have hw9 : IntKind.i64.wrap (9 * (num.size : Int)) = 9 * (num.size : Int) := by rw [IntKind.wrap_i64]; omega
          have y2 : decide (9 * (num.size : Int) < v) = false := decide_eq_false (by omega)
          have hvb : (Int.tmod v 10 == 0) = b := by rw [Int.tmod_eq_emod_of_nonneg d1, Bool.eq_iff_iff, beq_iff_eq, d4]
          have hvb2 : (decide (Int.tmod v 10 = 0)) = b := by rw [Int.tmod_eq_emod_of_nonneg d1, Bool.eq_iff_iff, decide_eq_true_iff, d4]
          have hbb : (b != b) = false := bne_self_eq_false _
          clear d1 d2 d3 d4 d5 HG2
          go_upto_if 337 with fail
          cases b with
          | false =>
            go_wp2
            go_meet
            exact ⟨rfl, HS, HB⟩
          | true =>
            have D6 := Aside0.mk (D5.out rfl)
            clear D5 hvb hvb2 hbb y1 y1b y2 hw9
            go_wp2
            go_loopg [4, 44] num.size (fun gg s4 s44 wr => ∃ i : Nat, s4 = .bool false ∧ s44 = .int .i64 (i : Int) ∧ 1 ≤ i ∧ num.size < i + gg + 1 ∧ Aside0 (SAt w wr gb39 m Ao co ws) ∧ Aside0 (Below w.heap.size w wr))
            case atStart => exact ⟨1, rfl, rfl, by omega, by omega, (by first | exact HS | exact ⟨HS.out.below (by repeat (first | exact Below.refl _ _ | apply pw_below_drewN | apply below_drew1))⟩), (by first | exact HB | exact ⟨by repeat (first | exact HB.out | apply pw_below_drewN | apply below_drew1)⟩)⟩
            case round =>
              clear HS HB
              obtain ⟨i, rfl, rfl, hi1, hgi, HS, HB⟩ := hrel
              have hnz := HNZ.out
              by_cases hi : i < num.size
              · obtain ⟨j, hj⟩ : ∃ j : Nat, i = j + 1 := ⟨i - 1, by omega⟩
                have HJ := Aside0.mk (show i = j + 1 ∧ i < num.size ∧ num.size ≤ 12 ∧ num.size < i + gk + 1 from ⟨hj, hi, hnz, hgi⟩)
                have hj0 : j < num.size := by omega
                have z1 : decide ((i : Int) < (num.size : Int)) = true := decide_eq_true (by omega)
                have x1 : IntKind.i64.wrap ((i : Int) - 1) = (j : Int) := by rw [IntKind.wrap_i64]; omega
                have x2 : IntKind.i64.wrap ((i : Int) + 1) = ((i + 1 : Nat) : Int) := by rw [IntKind.wrap_i64]; omega
                have E6 := D6.out i hi1 hi
                rw [show i - 1 = j by omega, bt_at hi, bt_at hj0] at E6
                have HE := Aside0.mk E6
                clear E6 hj hgi hi1 hnz
                go_upto_region 46 with (first | go_quiet (fail) | fail)
                have hab0 := bt_at hj0
                generalize hva : ((num[j]'hj0).toNat : Int) = a at HE ⊢
                generalize hvb3 : ((num[i]'hi).toNat : Int) = d at HE ⊢
                clear hab0 hva hvb3
                by_cases hab : a = d
                · have y1 : (a == d) = true := beq_iff_eq.mpr hab
                  have y2 : decide (a = d) = true := decide_eq_true hab
                  subst hab
                  go_wp2
                  go_roundg (gk - 1)
                  case measure => have := HJ.out; omega
                  case rel => exact ⟨i + 1, rfl, (by first | rfl | (simp; done) | (rw [← x2]; done)), by have := HJ.out; omega, by have := HJ.out; omega, (by first | exact HS | exact ⟨HS.out.below (by repeat (first | exact Below.refl _ _ | apply pw_below_drewN | apply below_drew1))⟩), (by first | exact HB | exact ⟨by repeat (first | exact HB.out | apply pw_below_drewN | apply below_drew1)⟩)⟩
                · have y1 : (a == d) = false := beq_eq_false_iff_ne.mpr hab
                  have y2 : decide (a = d) = false := decide_eq_false hab
                  obtain ⟨q7, e7⟩ := HE.out hab
                  have HDG := Aside0.mk (e7 q7 (Nat.le_refl _))
                  clear e7 HE
                  obtain ⟨gd, hgd⟩ : ∃ gd : Bool, gd = decide (a = 48 ∧ d = 57 ∨ a = 57 ∧ d = 48) := ⟨_, rfl⟩
                  rw [← hgd] at HDG
                  have HGD := Aside0.mk hgd
                  clear hgd
                  obtain ⟨xj, hxj⟩ : ∃ xj : Int, (j : Int) = xj := ⟨_, rfl⟩
                  obtain ⟨xk, hxk⟩ : ∃ xk : Int, ((i + 1 : Nat) : Int) = xk := ⟨_, rfl⟩
                  have hexp : exch num i = ((num.extract 0 xj.toNat ++ num.extract (i : Int).toNat xk.toNat) ++ num.extract xj.toNat (i : Int).toNat) ++ num.extract xk.toNat num.size := by
                    unfold exch
                    rw [← hxj, ← hxk, Int.toNat_natCast, Int.toNat_natCast, Int.toNat_natCast, show i - 1 = j by have := HJ.out; omega]
                  have HX := Aside0.mk hexp
                  clear hexp
                  rw [hxj] at x1
                  rw [hxk] at x2
                  generalize hxi : (i : Int) = xi at x1 x2 HX ⊢
                  have HF := Aside0.mk (show xj = xi - 1 ∧ xk = xi + 1 ∧ 1 ≤ xi ∧ xi < num.size ∧ num.size ≤ 12 by have := HJ.out; omega)
                  have HXI := Aside0.mk hxi
                  clear hxi hxj hxk hab hi hj0
                  have p0 : (0 ≤ xj) = True := eq_true (by have := HF.out; omega)
                  have p0d : decide (0 ≤ xj) = true := decide_eq_true (by have := HF.out; omega)
                  have p1 : (xj ≤ (num.size : Int)) = True := eq_true (by have := HF.out; omega)
                  have p1d : decide (xj ≤ (num.size : Int)) = true := decide_eq_true (by have := HF.out; omega)
                  have p2 : (0 ≤ xi) = True := eq_true (by have := HF.out; omega)
                  have p2d : decide (0 ≤ xi) = true := decide_eq_true (by have := HF.out; omega)
                  have p3 : (xi ≤ xk) = True := eq_true (by have := HF.out; omega)
                  have p3d : decide (xi ≤ xk) = true := decide_eq_true (by have := HF.out; omega)
                  have p4 : (xk ≤ (num.size : Int)) = True := eq_true (by have := HF.out; omega)
                  have p4d : decide (xk ≤ (num.size : Int)) = true := decide_eq_true (by have := HF.out; omega)
                  have p5 : (xj ≤ xi) = True := eq_true (by have := HF.out; omega)
                  have p5d : decide (xj ≤ xi) = true := decide_eq_true (by have := HF.out; omega)
                  have p6 : (0 ≤ xk) = True := eq_true (by have := HF.out; omega)
                  have p6d : decide (0 ≤ xk) = true := decide_eq_true (by have := HF.out; omega)
                  have p7 : (xi ≤ (num.size : Int)) = True := eq_true (by have := HF.out; omega)
                  have p7d : decide (xi ≤ (num.size : Int)) = true := decide_eq_true (by have := HF.out; omega)
                  have s0 : (9223372036854775807 < xj.toNat + (xk.toNat - xi.toNat)) = False := eq_false (by have := HF.out; omega)
                  have s1 : (9223372036854775807 < xj.toNat + (xk.toNat - xi.toNat) + (xi.toNat - xj.toNat)) = False := eq_false (by have := HF.out; omega)
                  have s2 : (9223372036854775807 < xj.toNat + (xk.toNat - xi.toNat) + (xi.toNat - xj.toNat) + (num.size - xk.toNat)) = False := eq_false (by have := HF.out; omega)
                  have s3 : (9223372036854775807 < xj.toNat + (min xk.toNat num.size - xi.toNat)) = False := eq_false (by have := HF.out; omega)
                  have s4 : (9223372036854775807 < xj.toNat + (min xk.toNat num.size - xi.toNat) + (min xi.toNat num.size - xj.toNat)) = False := eq_false (by have := HF.out; omega)
                  have s5 : (9223372036854775807 < xj.toNat + (min xk.toNat num.size - xi.toNat) + (min xi.toNat num.size - xj.toNat) + (num.size - xk.toNat)) = False := eq_false (by have := HF.out; omega)
                  go_upto_region 48 with (first | go_quiet (fail) | fail)
                  rw [← HX.out]
                  generalize exch num i = oth at HDG ⊢
                  clear HX p0 p0d p1 p1d p2 p2d p3 p3d p4 p4d p5 p5d p6 p6d p7 p7d s0 s1 s2 s3 s4 s5
                  go_wp2_with fail
                  refine (impl_IsDoubledRight.calls q7 oth gd true _ HDG.out).mono ?_
                  rintro e wn ⟨rfl, hb⟩
                  have hbw : Below wr.heap.size wr wn := below_step (by repeat (first | exact Below.refl _ _ | apply pw_below_drewN | apply below_drew1)) hb
                  have HS2 := Aside0.mk (HS.out.below hbw)
                  have HB2 := Aside0.mk (below_step HB.out hbw)
                  clear hb hbw HS HB HDG
                  have HS := HS2
                  have HB := HB2
                  clear HS2 HB2
                  go_upto_region 49 with fail
                  go_cut [399] from 380 to 399 (fun v399 wc => v399 = .bool false ∧ Aside0 (SAt w wc gb39 m Ao co ws) ∧ Aside0 (Below w.heap.size w wc))
                  case first =>
                    clear x1 x2 D6
                    by_cases a48 : a = 48
                    · subst a48
                      by_cases d57 : d = 57
                      · subst d57
                        have hg : gd = true := by rw [HGD.out]; simp
                        subst hg
                        clear HGD
                        go_wp2
                        go_meet
                        exact ⟨rfl, (by first | exact HS | exact ⟨HS.out.below (by repeat (first | exact Below.refl _ _ | apply pw_below_drewN | apply below_drew1))⟩), (by first | exact HB | exact ⟨by repeat (first | exact HB.out | apply pw_below_drewN | apply below_drew1)⟩)⟩
                      · have t1 : (d == 57) = false := beq_eq_false_iff_ne.mpr d57
                        have t2 : decide (d = 57) = false := decide_eq_false d57
                        have hg : gd = false := by rw [HGD.out]; simp [d57]
                        subst hg
                        clear HGD
                        go_wp2
                        go_meet
                        exact ⟨rfl, (by first | exact HS | exact ⟨HS.out.below (by repeat (first | exact Below.refl _ _ | apply pw_below_drewN | apply below_drew1))⟩), (by first | exact HB | exact ⟨by repeat (first | exact HB.out | apply pw_below_drewN | apply below_drew1)⟩)⟩
                    · have t3 : (a == 48) = false := beq_eq_false_iff_ne.mpr a48
                      have t4 : decide (a = 48) = false := decide_eq_false a48
                      by_cases a57 : a = 57
                      · subst a57
                        by_cases d48 : d = 48
                        · subst d48
                          have hg : gd = true := by rw [HGD.out]; simp
                          subst hg
                          clear HGD
                          go_wp2
                          go_meet
                          exact ⟨rfl, (by first | exact HS | exact ⟨HS.out.below (by repeat (first | exact Below.refl _ _ | apply pw_below_drewN | apply below_drew1))⟩), (by first | exact HB | exact ⟨by repeat (first | exact HB.out | apply pw_below_drewN | apply below_drew1)⟩)⟩
                        · have t1 : (d == 48) = false := beq_eq_false_iff_ne.mpr d48
                          have t2 : decide (d = 48) = false := decide_eq_false d48
                          have hg : gd = false := by rw [HGD.out]; simp [d48]
                          subst hg
                          clear HGD
                          go_wp2
                          go_meet
                          exact ⟨rfl, (by first | exact HS | exact ⟨HS.out.below (by repeat (first | exact Below.refl _ _ | apply pw_below_drewN | apply below_drew1))⟩), (by first | exact HB | exact ⟨by repeat (first | exact HB.out | apply pw_below_drewN | apply below_drew1)⟩)⟩
                      · have t5 : (a == 57) = false := beq_eq_false_iff_ne.mpr a57
                        have t6 : decide (a = 57) = false := decide_eq_false a57
                        have hg : gd = false := by rw [HGD.out]; simp [a48, a57]
                        subst hg
                        clear HGD
                        go_wp2
                        go_meet
                        exact ⟨rfl, (by first | exact HS | exact ⟨HS.out.below (by repeat (first | exact Below.refl _ _ | apply pw_below_drewN | apply below_drew1))⟩), (by first | exact HB | exact ⟨by repeat (first | exact HB.out | apply pw_below_drewN | apply below_drew1)⟩)⟩
                  case rest =>
                    clear HS HB HGD
                    obtain ⟨rfl, HS, HB⟩ := hcut
                    go_wp2
                    go_roundg (gk - 1)
                    case measure => have := HJ.out; omega
                    case rel => exact ⟨i + 1, rfl, (by have := HF.out; have := HXI.out; first | (rw [show ((i + 1 : Nat) : Int) = xk by omega]; done) | (rw [show ((i + 1 : Nat) : Int) = xk by omega, ← x2]; done)), by have := HJ.out; omega, by have := HJ.out; omega, (by first | exact HS | exact ⟨HS.out.below (by repeat (first | exact Below.refl _ _ | apply pw_below_drewN | apply below_drew1))⟩), (by first | exact HB | exact ⟨by repeat (first | exact HB.out | apply pw_below_drewN | apply below_drew1)⟩)⟩
              · have z1 : decide ((i : Int) < (num.size : Int)) = false := decide_eq_false (by omega)
                clear hgi hi1 hnz
                go_wp2
                go_meet
                exact ⟨rfl, (by first | exact HS | exact ⟨HS.out.below (by repeat (first | exact Below.refl _ _ | apply pw_below_drewN | apply below_drew1))⟩), (by first | exact HB | exact ⟨by repeat (first | exact HB.out | apply pw_below_drewN | apply below_drew1)⟩)⟩
      case rest =>
        clear HS HB HG2
        obtain ⟨rfl, HS, HB⟩ := hcut
        go_upto_if 400 with fail
        go_cut [4] from 400 to 418 (fun v4 wc => v4 = .bool false ∧ Aside0 (SAt w wc gb39 m Ao co ws) ∧ Aside0 (Below w.heap.size w wc))
        case first =>
          cases gc with
          | false =>
            go_wp2
            go_meet
            exact ⟨rfl, HS, HB⟩
          | true =>
            obtain ⟨h1, h2, q7, e7⟩ := HGC.out rfl
            have E7 := Aside0.mk (e7 q7 (Nat.le_refl _))
            rw [ByteArray.size_append] at h2
            have s0 : (9223372036854775807 < num.size + ch.size) = False := eq_false (by omega)
            have s0b : (9223372036854775807 < num.size + 1) = False := eq_false (by omega)
            have s1 : ((ch.size : Int) != 1) = false := by rw [h1]; rfl
            have s2 : ((ch.size : Int) == 1) = true := by rw [h1]; rfl
            have s3 : ((ch.size : Int) = 1) = True := eq_true (by omega)
            clear e7 h1 h2 HGC HTH
            go_wp2_with fail
            refine (impl_IsDoubledRight.calls q7 (num ++ ch) true true _ E7.out).mono ?_
            rintro e wn ⟨rfl, hb⟩
            have HS2 := Aside0.mk (HS.out.below hb)
            have HB2 := Aside0.mk (below_step HB.out hb)
            clear hb HS HB E7
            go_wp2
            go_meet
            exact ⟨rfl, HS2, HB2⟩
        case rest =>
          clear HS HB HGC
          obtain ⟨rfl, HS, HB⟩ := hcut
          cases th with
          | false =>
            go_wp2
            go_ret
            exact ⟨rfl, HB.out⟩
          | true =>
            obtain ⟨q8, e8⟩ := HTH.out rfl
            have E8 := Aside0.mk (e8 q8 (Nat.le_refl _))
            clear e8 HTH
            have cz0 := HS.out.c0
            have cz1 := HS.out.c1
            go_wp2_with fail
            refine (impl_SchemeText.calls q8 m Ao co ws t true _ HS.out.2.1 HS.out.2.2.1 E8.out).mono ?_
            rintro e wn ⟨rfl, hb⟩
            have HB2 := Aside0.mk (below_step HB.out hb)
            clear hb cz0 cz1 HS HB E8
            have n1 : (t.toList == t.toList) = true := beq_self_eq_true _
            go_wp2
            go_ret
            exact ⟨rfl, HB2.out⟩
end Go.Proofs.YtkplbgeccaadeaaGreatDoor.PA
