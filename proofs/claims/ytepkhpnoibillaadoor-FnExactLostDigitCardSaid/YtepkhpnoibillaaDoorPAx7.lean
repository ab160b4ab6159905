-- printed by xprint.py: the kit's print.py with given contracts
import Derived.Test.YtepkhpnoibillaaDoorPAx0
import Derived.Test.YtepkhpnoibillaaDoorPAx1
import Derived.Test.YtepkhpnoibillaaDoorPAx2
import Derived.Test.YtepkhpnoibillaaDoorPAx3
import Derived.Test.YtepkhpnoibillaaDoorPAx4
namespace Go.Proofs.YtepkhpnoibillaaDoor.PA
open Go.RowKit Go.Proofs.YtepkhpnoibillaaDoorW.PrintWords Go.Proofs.YtepkhpnoibillaaDoorW.PrintLast Go.Proofs.YtepkhpnoibillaaDoorW.PrintMore
attribute [local go_sem] max2_int min2_int max_two min_two max_three min_three max_four min_four   -- for this text's walks alone
set_option linter.unusedVariables false
set_option linter.unusedSimpArgs false

/-! ### strings_Index: function 40 -/
def strings_Index.f (a0 : ByteArray) (a1 : ByteArray) : Option (Int) := (stringslite_Index.f a0 a1).bind fun t261 => (some t261)
set_option maxHeartbeats 8000000 in
set_option maxRecDepth 100000 in
theorem strings_Index.calls (a0 : ByteArray) (a1 : ByteArray) (r : Int) (w : World) (h : strings_Index.f a0 a1 = some r) :
    Calls Tryd.prog 40 #[.string a0, .string a1] w fun e w' => e = .returned (.int .i64 r) ∧ Drawn0 w w' := by
  have H : ((stringslite_Index.f a0 a1).bind fun t261 => (some t261)) = some r := h
  clear h
  replace H := Option.bind_eq_some_iff.mp H
  obtain ⟨t261, A30, H⟩ := H
  replace H : (some t261) = some r := H
  have A3 := Aside0.mk A30
  clear A30
  obtain rfl := Option.some.inj H
  go_enter Tryd.func40, Tryd.ntmps40
  go_wp2_with (first | ((with_reducible refine gate_callee (f := 64) rfl ?_); refine goesL_ (some 7) rfl rfl Tryd.func64 (by kernel_rfl) rfl #[.string a0, .string a1] rfl (by (try simp only [List.map_toArray, List.map_cons, List.map_nil]); first | done | rfl | (simp only [List.length_drop, List.length_take]; rfl)) ?_; (with_reducible refine (stringslite_Index.calls a0 a1 t261 _ A3.out).mono ?_); rintro e w' ⟨rfl, ⟨nd, rfl⟩⟩; refine ⟨_, rfl, ?_⟩))
  go_ret
  exact ⟨by first | rfl | (simp; done) | (simp [*]; done) | (simp [isEmpty_bne]; done) | (simp [i64_w]; done) | (simp only [i64_w]; done), by repeat (first | exact Drawn0.refl _ | apply Drawn0.step)⟩


/-! ### strings_Count: function 41 -/
/-- strings.Count at one byte -/
def strings_Count.f (a0 a1 : ByteArray) : Option Int := if a1.size = 1 then some (Lib.countByte a0.data.toList (a1.data.toList.headD 0)) else none
theorem strings_Count.calls (a0 a1 : ByteArray) (r : Int) (w : World) (h : strings_Count.f a0 a1 = some r) :
    Calls Tryd.prog 41 #[.string a0, .string a1] w fun e w' => e = .returned (.int .i64 r) ∧ ∃ n, w' = w.drewN n := by
  unfold strings_Count.f at h
  split at h
  · rename_i hc
    obtain ⟨c, rfl⟩ := Lib.one_byte a1 hc
    have e := Option.some.inj h
    subst e
    refine (Any.strings_Count_one Tryd.lays138 a0 c w).mono ?_
    rintro e w' ⟨rfl, rfl⟩
    exact ⟨rfl, 0, rfl⟩
  · exact absurd h (by simp)


/-! ### strings_Replace: function 43 -/
theorem size_len (s : ByteArray) : s.size = s.data.toList.length := rfl
/-- a text with the first of a byte replaced -/
def rplT (s : ByteArray) (c d : UInt8) : ByteArray := ⟨(s.data.toList.take (Lib.indexByte s.data.toList c).toNat ++ (d :: s.data.toList.drop ((Lib.indexByte s.data.toList c).toNat + 1))).toArray⟩
/-- strings.Replace of one byte by another one, once, where it is there -/
def strings_Replace.f (a0 a1 a2 : ByteArray) (a3 : Int) : Option ByteArray :=
  if a1.size = 1 ∧ a2.size = 1 ∧ a3 = 1 ∧ a1 ≠ a2 ∧ Lib.countByte a0.data.toList (a1.data.toList.headD 0) ≠ 0 ∧ a0.size ≤ 1073741824 then some (rplT a0 (a1.data.toList.headD 0) (a2.data.toList.headD 0)) else none
set_option maxHeartbeats 4000000 in
set_option maxRecDepth 100000 in
theorem replace_core (s : ByteArray) (c d : UInt8) (j cn : Nat) (w : World) (hcd : c ≠ d) (hs : s.size ≤ 1073741824) (hj : j < s.size)
    (hC : Calls Tryd.prog 41 #[.string s, .string ⟨#[c]⟩] w fun e w' => e = .returned (.int .i64 cn) ∧ w' = w) (hcn : cn ≠ 0) (hcs : cn ≤ s.size)
    (hI : ∀ W, Calls Tryd.prog 40 #[.string s, .string ⟨#[c]⟩] W fun e w' => e = .returned (.int .i64 j) ∧ w' = W) :
    Calls Tryd.prog 43 #[.string s, .string ⟨#[c]⟩, .string ⟨#[d]⟩, .int .i64 1] w fun e w' => e = .returned (.string ⟨(s.data.toList.take j ++ (d :: s.data.toList.drop (j + 1))).toArray⟩) ∧ Below w.heap.size w w' := by
  have hb1 : (([c] : List UInt8) == [d]) = false := beq_eq_false_iff_ne.mpr (fun e => hcd (by injection e))
  have hb2 : (c == d) = false := beq_eq_false_iff_ne.mpr hcd
  have hb3 : (c = d) = False := eq_false hcd
  have hcz : ((cn : Int) == 0) = false := beq_eq_false_iff_ne.2 (by omega)
  have hcz2 : (cn = 0) = False := eq_false hcn
  have hcl : ((cn : Int) < 1) = False := eq_false (by omega)
  have hcl2 : decide ((cn : Int) < 1) = false := decide_eq_false (by omega)
  have HI := Lib.hid hI
  clear hI hcd
  go_enter Tryd.func43, Tryd.ntmps43
  go_wp2_with (first | (go_at_call 41; refine hC.mono ?_; rintro e w' ⟨rfl, hw⟩; rw [hw]))
  clear hC
  have hgrow := Any.Builder_Grow_fresh { Tryd.lays154 with } Tryd.Builder_Extra_154 w.heap.size w.heap.size s.size (w.alloc (.cells #[.pointer none, .slice none 0 0] 77)) (Nat.le_refl _) (heap_alloc_new w _) (by simp) (by omega)
  refine hgrow.mono ?_
  rintro e w1 ⟨rfl, hb0, hb1⟩
  have H1 := Any.hidR (Or.inr hb0 : Lib.IsBuilder 77 5 w.heap.size w.heap.size (Lib.byteCells []) w1)
  have Hb1 := Any.hidR (((Below.refl w.heap.size w).alloc (Nat.le_refl _) _).trans hb1)
  clear hb0 hb1 hgrow
  go_wp2_with fail
  go_loopg [11, 53] 1 (fun g s11 s53 wx => ∃ (i start : Nat) (acc : List UInt8), s53 = .int .i64 i ∧ s11 = .int .i64 start ∧ i + g = 1 ∧ start ≤ s.size ∧
      Hid (Lib.IsBuilder 77 5 w.heap.size w.heap.size (Lib.byteCells acc) wx) ∧ Hid (Below w.heap.size w wx) ∧ Hid ((g = 1 ∧ start = 0 ∧ acc = []) ∨ (g = 0 ∧ start = j + 1 ∧ acc = s.data.toList.take j ++ [d])))
  case atStart => exact ⟨0, 0, [], rfl, rfl, rfl, Nat.zero_le _, H1, Hb1, Any.hidR (Or.inl ⟨rfl, rfl, rfl⟩)⟩
  case round =>
    clear H1 Hb1
    obtain ⟨i, start, acc, rfl, rfl, hig, hst, HB, HW, HR⟩ := hrel
    have hBw : w.heap.size ≤ wr.heap.size := HW.out.size
    cases gk with
    | zero =>
      have hr : start = j + 1 ∧ acc = s.data.toList.take j ++ [d] := by
        rcases HR.out with ⟨h, _⟩ | ⟨_, h⟩
        · cases h
        · exact h
      obtain ⟨rfl, hacc⟩ := hr
      have hlen : acc.length ≤ s.size + 1 := by rw [hacc, List.length_append, List.length_take]; simp; omega
      have HA := Lib.hid hacc
      clear hacc HR
      have c1 : (0 : Int) ≤ ((j + 1 : Nat) : Int) := by omega
      have c2 : ((j + 1 : Nat) : Int) ≤ (s.size : Int) := by omega
      have hi1 : i = 1 := by omega
      subst hi1
      have hws := Any.Builder_WriteString { Tryd.lays154 with } Tryd.Builder_Extra_154 w.heap.size w.heap.size _ (s.extract (j + 1) s.size) wr HB.out (by rw [Lib.byteCells_length, ByteArray.size_extract]; omega) hBw
      go_wp2_with fail
      refine hws.mono ?_
      rintro e w3 ⟨rfl, h3, hb3⟩
      clear hws
      rw [Lib.strCells_eq, Lib.extract_to_end, ← Lib.byteCells_append, HA.out] at h3
      have H3 := Any.hidR (Or.inr h3 : Lib.IsBuilder 77 5 w.heap.size w.heap.size _ w3)
      have Hb3 := Any.hidR (HW.out.trans hb3)
      have hBw3 : w.heap.size ≤ w3.heap.size := Hb3.out.size
      clear h3 hb3
      have hst := Any.Builder_String_any { Tryd.lays154 with } Tryd.Builder_Extra_154 w.heap.size w.heap.size _ w3 H3.out hBw3
      go_wp2_with fail
      refine hst.mono ?_
      rintro e w5 ⟨rfl, hb5⟩
      clear hst
      have Hb5 := Any.hidR (Hb3.out.trans hb5)
      clear hb5
      go_wp2
      go_ret
      exact ⟨by simp [List.append_assoc], Hb5.out⟩
    | succ g =>
      have hr : g = 0 ∧ start = 0 ∧ acc = [] := by
        rcases HR.out with ⟨h, h2⟩ | ⟨h, _⟩
        · exact ⟨by omega, h2⟩
        · cases h
      obtain ⟨rfl, rfl, rfl⟩ := hr
      have hi0 : i = 0 := by omega
      subst hi0
      clear HR
      have c3 : (0 : Int) ≤ (j : Int) := by omega
      have c4 : (j : Int) ≤ (s.size : Int) := by omega
      have hext : s.extract 0 s.size = s := by
        apply ByteArray.ext
        rw [ByteArray.data_extract]
        exact Array.extract_size
      have hI0 := fun W => HI.out W
      go_wp2_with (first | (go_at_call 40; (try rw [hext]); refine (hI0 _).mono ?_; rintro e w' ⟨rfl, hw⟩; rw [hw]))
      clear hI0
      have hw1 := Any.Builder_WriteString { Tryd.lays154 with } Tryd.Builder_Extra_154 w.heap.size w.heap.size _ (s.extract 0 j) wr HB.out (by rw [Lib.byteCells_length, ByteArray.size_extract]; simp; omega) hBw
      refine hw1.mono ?_
      rintro e w3 ⟨rfl, h3, hb3⟩
      clear hw1
      have hBw3 : w.heap.size ≤ w3.heap.size := Nat.le_trans hBw hb3.size
      have H3 := Any.hidR h3
      have Hb3 := Any.hidR hb3
      clear h3 hb3
      have hw2 := Any.Builder_WriteString { Tryd.lays154 with } Tryd.Builder_Extra_154 w.heap.size w.heap.size _ (⟨#[d]⟩ : ByteArray) w3 (Or.inr H3.out) (by rw [List.length_append, Lib.byteCells_length, Lib.strCells_length, ByteArray.size_extract, show (⟨#[d]⟩ : ByteArray).size = 1 from rfl]; simp only [List.length_nil]; omega) hBw3
      go_wp2_with fail
      refine hw2.mono ?_
      rintro e w4 ⟨rfl, h4, hb4⟩
      clear hw2
      have hnext : Lib.byteCells [] ++ Lib.strCells (s.extract 0 j) ++ Lib.strCells (⟨#[d]⟩ : ByteArray) = Lib.byteCells (s.data.toList.take j ++ [d]) := by
        rw [Lib.strCells_eq, Lib.strCells_eq, Lib.extract_data, Nat.sub_zero, List.drop_zero, ← Lib.byteCells_append, ← Lib.byteCells_append, List.nil_append]
      rw [hnext] at h4
      have H4 := Any.hidR (Or.inr h4 : Lib.IsBuilder 77 5 w.heap.size w.heap.size _ w4)
      have Hb4 := Any.hidR ((HW.out.trans Hb3.out).trans hb4)
      clear h4 hb4 hnext hext
      go_wp2
      go_roundg 0
      case measure => omega
      case rel => exact ⟨1, j + 1, _, by first | rfl | simp, by first | rfl | simp | (simp; unfold wrap64; omega), rfl, by omega, H4, Hb4, Any.hidR (Or.inr ⟨rfl, rfl, rfl⟩)⟩
theorem strings_Replace.calls (a0 a1 a2 : ByteArray) (a3 : Int) (r : ByteArray) (w : World) (h : strings_Replace.f a0 a1 a2 a3 = some r) :
    Calls Tryd.prog 43 #[.string a0, .string a1, .string a2, .int .i64 a3] w fun e w' => e = .returned (.string r) ∧ Below w.heap.size w w' := by
  unfold strings_Replace.f at h
  split at h
  · rename_i hc
    obtain ⟨h1, h2, rfl, h4, h5, h6⟩ := hc
    obtain ⟨c, rfl⟩ := Lib.one_byte a1 h1
    obtain ⟨d, rfl⟩ := Lib.one_byte a2 h2
    have e := Option.some.inj h
    subst e
    have h5 : Lib.countByte a0.data.toList c ≠ 0 := h5
    have hle : Lib.countByte a0.data.toList c ≤ a0.size := by
      have := Lib.countB_le ⟨#[c]⟩ (by show 1 ≤ 1; omega) a0.size a0 (Nat.le_refl _)
      rw [show Lib.countB a0 ⟨#[c]⟩ = Lib.countByte a0.data.toList c from Lib.count_one _ _] at this
      exact this
    obtain ⟨j, hj⟩ := Lib.index_of_count (s := a0.data.toList) (old := [c]) (by rw [Lib.count_one]; exact Nat.pos_of_ne_zero h5)
    have hroom := Lib.index_room a0.data.toList [c] (by rw [hj]; omega)
    rw [hj] at hroom
    rw [Lib.index_one] at hj
    have hjs : j < a0.size := by
      have h1' : ((([c] : List UInt8).length : Nat) : Int) = 1 := rfl
      rw [h1'] at hroom
      rw [size_len]
      omega
    show Calls _ _ _ _ fun e w' => e = .returned (.string (rplT a0 c d)) ∧ Below w.heap.size w w'
    unfold rplT
    rw [hj, Int.toNat_natCast]
    exact replace_core a0 c d j _ w (fun e => h4 (by rw [e])) h6 hjs (Any.strings_Count_one Tryd.lays138 a0 c w) h5 hle (fun W => by rw [← hj]; exact Any.strings_Index_one { Tryd.lays154 with } a0 c W)
  · exact absurd h (by simp)


/-! ### impl_LostDigit: function 14 -/
theorem heldS {w1 W w' : World} {g : Nat} {v0 v1 : Value} (hb : Below W.heap.size W w') (h0 : W.cell? ⟨g, 0, none⟩ = some v0) (h1 : W.cell? ⟨g, 1, none⟩ = some v1) (hB : Below w1.heap.size w1 W) :
    w'.cell? ⟨g, 0, none⟩ = some v0 ∧ w'.cell? ⟨g, 1, none⟩ = some v1 ∧ Below w1.heap.size w1 w' :=
  ⟨(hb.cell (World.block_lt_of_cell? W _ h0)).trans h0, (hb.cell (World.block_lt_of_cell? W _ h1)).trans h1, hB.trans (hb.mono hB.size)⟩
theorem digS_one : ∀ d : Fin 10, digS.extract d.val (d.val + 1) = ⟨#[UInt8.ofNat (48 + d.val)]⟩ := by decide +kernel
theorem dig_ne63 : ∀ d : Fin 10, (63 : UInt8) ≠ UInt8.ofNat (48 + d.val) := by decide
/-- the digits that something says yes of, put in the place of the lost one -/
def lostO (g : ByteArray → Option Bool) (a : ByteArray) : Nat → Nat → List ByteArray → Option (List ByteArray)
  | 0, _, acc => some acc
  | q + 1, d, acc => (g (rplT a 63 (UInt8.ofNat (48 + d)))).bind fun b => lostO g a q (d + 1) (if b = true then acc ++ [digS.extract d (d + 1)] else acc)
theorem lostO_leO {g h : ByteArray → Option Bool} (a : ByteArray) (hg : ∀ d, LeO (g d) (h d)) : ∀ q d acc, LeO (lostO g a q d acc) (lostO h a q d acc)
  | 0, d, acc => LeO.refl _
  | q + 1, d, acc => LeO.bind (hg _) (fun _ => lostO_leO a hg q (d + 1) _)
def lostJ (a : ByteArray) : Int := Lib.indexByte a.data.toList 63
def lostN (a : ByteArray) : Nat := Lib.countByte a.data.toList 63
def impl_LostDigit.f (k : Nat) (a0_0 : Int) (l0_1 : List Int) (a1 : ByteArray) : Option (List ByteArray × Bool) :=
  if a1.size ≤ 1048576 ∧ l0_1.length ≤ 1048576 then
    if lostN a1 = 1 then
      if 0 ≤ lostJ a1 ∧ lostJ a1 ≤ (l0_1.length : Int) - 1 then
        (impl_numberOk.f a0_0 l0_1 (rplT a1 63 48)).bind fun g => if g = true then (lostO (rightO k a0_0 l0_1) a1 10 0 []).bind fun l => some (l, true) else some ([], false)
      else some ([], false)
    else some ([], false)
  else none
theorem impl_LostDigit.mono : ∀ a0_0 a0_1 a1 k, LeO (impl_LostDigit.f k a0_0 a0_1 a1) (impl_LostDigit.f (k + 1) a0_0 a0_1 a1) := by
  intro a0 a1 a2 k
  unfold impl_LostDigit.f
  exact LeO.ite (LeO.ite (LeO.ite (LeO.bind (LeO.refl _) (fun _ => LeO.ite (LeO.bind (lostO_leO _ (fun t => rightO_mono a0 a1 t k) _ _ _) (fun _ => LeO.refl _)) (LeO.refl _))) (LeO.refl _)) (LeO.refl _)) (LeO.refl _)
set_option maxHeartbeats 16000000 in
set_option maxRecDepth 100000 in
theorem impl_LostDigit.calls (k : Nat) (a0_0 : Int) (A0_1 : Option Addr) (c0_1 : Nat) (l0_1 : List Int) (a1 : ByteArray) (r1 : List ByteArray) (r2 : Bool) (w : World) (hr0_1 : Kd.C (Kd.int .i64) w A0_1 l0_1.length l0_1) (hc0_1 : l0_1.length ≤ c0_1) (h : impl_LostDigit.f k a0_0 l0_1 a1 = some (r1, r2)) :
    Calls Tryd.prog 14 #[.agg #[.int .i64 a0_0, .slice A0_1 l0_1.length c0_1], .string a1] w fun e w' => ∃ v0_ : Value, e = .returned (.tuple #[v0_, .bool r2]) ∧ Kd.R Kd.string 9 w' w.heap.size (fun _ => True) v0_ r1 ∧ Below w.heap.size w w' := by
  have hu := Tryd.underlying28
  have hb0 : Below w.heap.size w (w.alloc (.cells #[.int .i64 a0_0, .slice A0_1 l0_1.length c0_1] 28)) := (Below.refl _ w).alloc (Nat.le_refl _) _
  have hblk0 : (w.alloc (.cells #[.int .i64 a0_0, .slice A0_1 l0_1.length c0_1] 28)).heap[w.heap.size]? = some (.cells #[.int .i64 a0_0, .slice A0_1 l0_1.length c0_1] 28 (0, 0)) := heap_alloc_new w _
  have HR := Aside0.mk hr0_1
  have HC := Aside0.mk hc0_1
  have HB0 := Aside0.mk hb0
  have HK0 := Aside0.mk hblk0
  clear hr0_1 hc0_1 hb0 hblk0
  unfold impl_LostDigit.f at h
  split at h
  · rename_i hsz
    obtain ⟨hz, hl⟩ := hsz
    have hindex : ∀ W, Calls Tryd.prog 40 #[.string a1, .string ⟨#[63]⟩] W fun e w' => e = .returned (.int .i64 (lostJ a1)) ∧ ∃ n, w' = W.drewN n := fun W => (strings_Index.calls a1 ⟨#[63]⟩ (lostJ a1) W rfl).mono fun e w' ⟨he, ⟨n, hw⟩⟩ => ⟨he, n, hw⟩
    have hcount : ∀ W, Calls Tryd.prog 41 #[.string a1, .string ⟨#[63]⟩] W fun e w' => e = .returned (.int .i64 (lostN a1)) ∧ ∃ n, w' = W.drewN n := fun W => (strings_Count.calls a1 ⟨#[63]⟩ (lostN a1) W rfl).mono fun e w' ⟨he, ⟨n, hw⟩⟩ => ⟨he, n, hw⟩
    have hle : -1 ≤ lostJ a1 := Lib.indexByte_ge _ _
    have hcs : lostN a1 ≤ 1048576 := by
      have := Lib.countB_le ⟨#[63]⟩ (by show 1 ≤ 1; omega) a1.size a1 (Nat.le_refl _)
      rw [show Lib.countB a1 ⟨#[63]⟩ = lostN a1 from Lib.count_one _ _] at this
      omega
    have HI := Aside0.mk hindex
    have HN := Aside0.mk hcount
    clear hindex hcount
    have hnj : lostN a1 = lostN a1 ∧ lostJ a1 = lostJ a1 := ⟨rfl, rfl⟩
    generalize hJ : lostJ a1 = J at h HI hle hnj
    generalize hN : lostN a1 = cn at h HN hcs hnj
    have HJ := Aside0.mk hJ
    have HN2 := Aside0.mk hN
    clear hJ hN hnj
    have cdec : ((l0_1.length : Int) - 1) = ((l0_1.length : Int) - 1) := rfl
    have hin : ∀ W, Calls Tryd.prog 42 #[.int .i64 J, .int .i64 0, .int .i64 ((l0_1.length : Int) - 1)] W fun e w' => e = .returned (.bool (decide (0 ≤ J) && decide (J ≤ (l0_1.length : Int) - 1))) ∧ ∃ n, w' = W.drewN n := fun W => (impl_in.calls J 0 ((l0_1.length : Int) - 1) _ W (by
      show (if J ≥ 0 then some (decide (J ≤ (l0_1.length : Int) - 1)) else some false) = some _
      by_cases e : J ≥ 0
      · rw [if_pos e, decide_eq_true e, Bool.true_and]
      · rw [if_neg e, decide_eq_false e, Bool.false_and])).mono fun e w' ⟨he, ⟨n, hw⟩⟩ => ⟨he, n, hw⟩
    have HIN := Aside0.mk hin
    clear hin cdec
    split at h
    · rename_i hcn
      subst hcn
      have n1 : (((1 : Nat) : Int) != 1) = false := rfl
      have n2 : (((1 : Nat) : Int) == 1) = true := rfl
      split at h
      · rename_i hjj
        have hb1 : (decide (0 ≤ J) && decide (J ≤ (l0_1.length : Int) - 1)) = true := by simp [hjj.1, hjj.2]
        have hin2 := HIN.out
        rw [hb1] at hin2
        have HIN2 := Aside0.mk hin2
        clear hb1 hin2 HIN
        replace h := Option.bind_eq_some_iff.mp h
        obtain ⟨g, hg, h⟩ := h
        have hrz : (rplT a1 63 48).size ≤ 1048577 := by
          show ((_ : List UInt8).toArray).size ≤ _
          simp
          have : a1.data.size = a1.size := rfl
          omega
        have hrep : ∀ W, Calls Tryd.prog 43 #[.string a1, .string ⟨#[63]⟩, .string ⟨#[48]⟩, .int .i64 1] W fun e w' => e = .returned (.string (rplT a1 63 48)) ∧ Below W.heap.size W w' := fun W => strings_Replace.calls a1 ⟨#[63]⟩ ⟨#[48]⟩ 1 _ W (by
          unfold strings_Replace.f
          rw [if_pos ⟨rfl, rfl, rfl, by decide, by rw [show Lib.countByte a1.data.toList ((⟨#[63]⟩ : ByteArray).data.toList.headD 0) = lostN a1 from rfl, HN2.out]; decide, by omega⟩]
          rfl)
        have hnum : ∀ W, Below w.heap.size w W → Calls Tryd.prog 31 #[.agg #[.int .i64 a0_0, .slice A0_1 l0_1.length c0_1], .string (rplT a1 63 48)] W fun e w' => e = .returned (.bool g) ∧ Below W.heap.size W w' := fun W hW => impl_numberOk.calls a0_0 A0_1 c0_1 l0_1 (rplT a1 63 48) g W (Kd.C_below HR.out hW) HC.out hg
        generalize rplT a1 63 48 = t0 at hrep hnum hrz
        have HNB := Aside0.mk (fun W : World => (HN.out W).mono (R' := fun e w' => e = .returned (.int .i64 ((1 : Nat) : Int)) ∧ Below W.heap.size W w') (fun e w' hh => ⟨hh.1, by obtain ⟨n, hw⟩ := hh.2; rw [hw]; exact pw_below_drewN (Below.refl _ W) n⟩))
        have HINB := Aside0.mk (fun W : World => (HIN2.out W).mono (R' := fun e w' => e = .returned (.bool true) ∧ Below W.heap.size W w') (fun e w' hh => ⟨hh.1, by obtain ⟨n, hw⟩ := hh.2; rw [hw]; exact pw_below_drewN (Below.refl _ W) n⟩))
        have HREP := Aside0.mk hrep
        have HNUM := Aside0.mk hnum
        have HH := Aside0.mk h
        clear hg hrep hnum h hjj
        go_enter Tryd.func14, Tryd.ntmps14
        go_wp2_with fail
        refine (HI.out _).mono ?_
        rintro e w1 ⟨rfl, ⟨q, rfl⟩⟩
        have HB1 := Aside0.mk (pw_below_drewN HB0.out q)
        have HK1 : Aside0 (((w.alloc (.cells #[.int .i64 a0_0, .slice A0_1 l0_1.length c0_1] 28)).drewN q).heap[w.heap.size]? = some (.cells #[.int .i64 a0_0, .slice A0_1 l0_1.length c0_1] 28 (0, 0))) := ⟨HK0.out⟩
        generalize (w.alloc (.cells #[.int .i64 a0_0, .slice A0_1 l0_1.length c0_1] 28)).drewN q = w1 at HB1 HK1 ⊢
        have hc0 : w1.cell? ⟨w.heap.size, 0, none⟩ = some (.int .i64 a0_0) := (blk_cell HK1.out 0).trans rfl
        have hc1 : w1.cell? ⟨w.heap.size, 1, none⟩ = some (.slice A0_1 l0_1.length c0_1) := (blk_cell HK1.out 1).trans rfl
        have hwl : IntKind.i64.wrap ((l0_1.length : Int) - 1) = (l0_1.length : Int) - 1 := (i64_w _).trans (by unfold wrap64; omega)
        go_wp2
        go_region_held3 (fun w' => w'.cell? ⟨w.heap.size, 0, none⟩ = some (.int .i64 a0_0) ∧ w'.cell? ⟨w.heap.size, 1, none⟩ = some (.slice A0_1 l0_1.length c0_1) ∧ Below w1.heap.size w1 w')
          (first
            | exact ⟨hc0, hc1, Below.refl _ _⟩
            | exact ⟨hc0, hc1, below_drew1 (Below.refl _ _)⟩
            | (go_split_ands; exact heldS hb (by assumption) (by assumption) (by assumption))
            | (go_split_ands; exact heldS (below_drew1 (Below.refl _ _)) (by assumption) (by assumption) (by assumption))
            | go_keep)
          (first
            | (go_at_call 41; (with_reducible refine (HNB.out _).mono ?_); rintro e w' ⟨rfl, hb⟩)
            | (go_at_call 42; (with_reducible refine (HINB.out _).mono ?_); rintro e w' ⟨rfl, hb⟩)
            | (go_at_call 43; (with_reducible refine (HREP.out _).mono ?_); rintro e w' ⟨rfl, hb⟩)
            | (go_at_call 31; go_split_ands; (with_reducible refine (HNUM.out _ ?sb).mono ?_); (case sb => exact HB1.out.trans (Below.mono (by assumption) HB1.out.size)); rintro e w' ⟨rfl, hb⟩))
        have hH : w'.cell? ⟨w.heap.size, 0, none⟩ = some (.int .i64 a0_0) ∧ w'.cell? ⟨w.heap.size, 1, none⟩ = some (.slice A0_1 l0_1.length c0_1) ∧ Below w1.heap.size w1 w' := by assumption
        obtain ⟨_, _, hB2⟩ := hH
        have HB2 := Aside0.mk (HB1.out.trans (hB2.mono HB1.out.size))
        have HK2 : Aside0 (w'.heap[w.heap.size]? = some (.cells #[.int .i64 a0_0, .slice A0_1 l0_1.length c0_1] 28 (0, 0))) := ⟨(hB2.block _ (blk_lt HK1.out)).trans HK1.out⟩
        clear hB2 hb hc0 hc1 hwl HB1 HK1
        cases g with
        | false =>
          have e := HH.out
          simp only [Bool.false_eq_true, if_false, Option.some.injEq, Prod.mk.injEq] at e
          obtain ⟨rfl, rfl⟩ := e
          go_wp2
          go_ret2
          exact ⟨_, rfl, Kd.R_nil _ _ _ _ _, HB2.out⟩
        | true =>
          have e := HH.out
          rw [if_pos rfl] at e
          obtain ⟨L, hL, e⟩ := Option.bind_eq_some_iff.mp e
          simp only [Option.some.injEq, Prod.mk.injEq] at e
          obtain ⟨rfl, rfl⟩ := e
          have HL := Aside0.mk hL
          clear hL HH HNUM HREP HNB HINB
          generalize w' = w2 at HB2 HK2 ⊢
          simp only [Bool.not_true]
          go_wp2
          have hbI : Below w.heap.size w ((w2.alloc (.cells #[] 9)).iter digS 0) := (HB2.out.alloc HB2.out.size _).alloc (Nat.le_trans HB2.out.size ((Below.refl w2.heap.size w2).alloc (Nat.le_refl _) (.cells #[] 9)).size) _
          have hit0 : ((w2.alloc (.cells #[] 9)).iter digS 0).heap[w2.heap.size + 1]? = some (.stringIter digS 0) := by
            have h2 : (w2.alloc (.cells #[] 9)).heap.size = w2.heap.size + 1 := by simp
            rw [← h2]
            exact heap_alloc_new _ _
          have hkI : ((w2.alloc (.cells #[] 9)).iter digS 0).heap[w.heap.size]? = some (.cells #[.int .i64 a0_0, .slice A0_1 l0_1.length c0_1] 28 (0, 0)) := (heap_alloc_old (w2.alloc (.cells #[] 9)) _ (Nat.lt_of_lt_of_le (blk_lt HK2.out) ((Below.refl w2.heap.size w2).alloc (Nat.le_refl _) (.cells #[] 9)).size)).trans ((heap_alloc_old w2 _ (blk_lt HK2.out)).trans HK2.out)
          have hRI : Kd.R Kd.string 9 ((w2.alloc (.cells #[] 9)).iter digS 0) w.heap.size (fun k_ => k_ ≠ w.heap.size ∧ k_ ≠ w2.heap.size + 1) (.slice (some ⟨w2.heap.size, 0, none⟩) 0 0) [] := by
            have h2 := World.ownsRow_lit (base := w.heap.size) (e := 9) (size := 1) w2 #[] 0 HB2.out.size (by simp [maxLen]) (by simp)
            have h3 : Kd.R Kd.string 9 (w2.alloc (.cells #[] 9)) w.heap.size (fun k_ => k_ ≠ w.heap.size ∧ k_ ≠ w2.heap.size + 1) (.slice (some ⟨w2.heap.size, 0, none⟩) 0 0) [] := Kd.R_of_own (by simpa [encs] using h2) (by intro k hk; (have e : w2.heap.size = k := (by simpa [Value.ownBlock] using hk)); have := blk_lt HK2.out; omega)
            exact Kd.R_below h3 ((Below.refl _ _).alloc (Nat.le_refl _) _)
          have hne : w.heap.size ≠ w2.heap.size + 1 := by have := blk_lt HK2.out; omega
          have hI0 : w.heap.size ≤ w2.heap.size + 1 := by have := blk_lt HK2.out; omega
          have HIT := Aside0.mk hit0
          have HBI := Aside0.mk hbI
          have HKI := Aside0.mk hkI
          have HRI := Aside0.mk hRI
          have HNE := Aside0.mk hne
          clear hbI hit0 hkI hRI hne HB2 HK2
          generalize hIt : w2.heap.size + 1 = it at HIT HRI hI0 HNE ⊢
          have HI0 := Aside0.mk hI0
          clear hIt hI0
          go_loopw [7] (fun v7 wi => ∃ (d : Nat) (acc : List ByteArray), d ≤ 10 ∧ acc.length ≤ d ∧ Aside0 (Kd.R Kd.string 9 wi w.heap.size (fun k_ => k_ ≠ w.heap.size ∧ k_ ≠ it) v7 acc) ∧ Aside0 (wi.heap[it]? = some (.stringIter digS d)) ∧ Aside0 (wi.heap[w.heap.size]? = some (.cells #[.int .i64 a0_0, .slice A0_1 l0_1.length c0_1] 28 (0, 0))) ∧ Aside0 (Below w.heap.size w wi) ∧ Aside0 (lostO (rightO k a0_0 l0_1) a1 (10 - d) d acc = some L))
            (fun _ wi => 10 - wi.iterPos it)
          case atStart => exact ⟨0, [], by omega, Nat.le_refl _, HRI, HIT, HKI, HBI, HL⟩
          case round =>
            obtain ⟨d, acc, hd10, hac, HR2, HT, HK, HB, HQ⟩ := hrel
            have hpos : wr.iterPos it = d := by unfold World.iterPos; rw [HT.out]
            have HPOS := Aside0.mk hpos
            clear hpos HIT HBI HKI HRI HL
            by_cases hd : d < 10
            · have hp := HQ.out
              rw [show 10 - d = (10 - (d + 1)) + 1 by omega, lostO] at hp
              obtain ⟨b, hb, hp⟩ := Option.bind_eq_some_iff.mp hp
              have hdig := digS_one ⟨d, hd⟩
              have hrep : ∀ W, Calls Tryd.prog 43 #[.string a1, .string ⟨#[63]⟩, .string (digS.extract d (d + 1)), .int .i64 1] W fun e w' => e = .returned (.string (rplT a1 63 (UInt8.ofNat (48 + d)))) ∧ Below W.heap.size W w' := fun W => strings_Replace.calls a1 ⟨#[63]⟩ (digS.extract d (d + 1)) 1 _ W (by
                rw [show digS.extract d (d + 1) = ⟨#[UInt8.ofNat (48 + d)]⟩ from hdig]
                unfold strings_Replace.f
                rw [if_pos ⟨rfl, rfl, rfl, by intro e; exact dig_ne63 ⟨d, hd⟩ (by injection e with e; injection e with e; injection e), by rw [show Lib.countByte a1.data.toList ((⟨#[63]⟩ : ByteArray).data.toList.headD 0) = lostN a1 from rfl, HN2.out]; decide, by omega⟩]
                rfl)
              generalize rplT a1 63 (UInt8.ofNat (48 + d)) = ot at hb hrep
              have ha : ∀ q : Fin 10, (digS[q.val]'(by have := q.isLt; show q.val < 10; omega)).toNat < 128 := by decide
              have hnx : ∀ ty, (Instr.next (.pointer (some ⟨it, 0, none⟩)) true ty).run Tryd.prog wr = _ := fun ty => Go.Lib.run_next_ascii_at wr it digS d ty HT.out hd (ha ⟨d, hd⟩)
              have HB3 := Aside0.mk (below_iterAt (it := it) (pos := d + 1) (s := digS) HB.out HI0.out)
              have HT3 := Aside0.mk (Go.Lib.iterAt_heap wr it digS d (d + 1) HT.out)
              have HK3 : Aside0 ((wr.iterAt it digS (d + 1)).heap[w.heap.size]? = some (.cells #[.int .i64 a0_0, .slice A0_1 l0_1.length c0_1] 28 (0, 0))) := ⟨(Go.Lib.iterAt_other wr it w.heap.size digS (d + 1) HNE.out).trans HK.out⟩
              have HR3 : Aside0 (Kd.R Kd.string 9 (wr.iterAt it digS (d + 1)) w.heap.size (fun k_ => k_ ≠ w.heap.size ∧ k_ ≠ it) u7 acc) := ⟨Kd.R_move HR2.out (fun k hk => Go.Lib.iterAt_other wr it k digS (d + 1) hk.2)⟩
              have hcall := hrep (wr.iterAt it digS (d + 1))
              have HPP := Aside0.mk hp
              have HBB := Aside0.mk hb
              clear ha HB HT HK HR2 HQ hp hb hrep hdig
              have hw1 : wrap64 ((d : Int) + 1) = (d : Int) + 1 := by unfold wrap64; omega
              have hw2 : IntKind.i64.wrap ((d : Int) + 1) = (d : Int) + 1 := (i64_w _).trans hw1
              have d11 : ((d : Int) ≤ (d : Int) + 1) = True := eq_true (by omega)
              have d12 : ((d : Int) + 1 ≤ 10) = True := eq_true (by omega)
              go_wp2_with fail
              refine hcall.mono ?_
              rintro e w5 ⟨rfl, hb5⟩
              clear hcall hnx hw1 hw2 d11 d12
              have HB5 := Aside0.mk (HB3.out.trans (hb5.mono HB3.out.size))
              have HT5 : Aside0 (w5.heap[it]? = some (.stringIter digS (d + 1))) := ⟨(hb5.block it ((Array.getElem?_eq_some_iff.1 HT3.out).1)).trans HT3.out⟩
              have HK5 : Aside0 (w5.heap[w.heap.size]? = some (.cells #[.int .i64 a0_0, .slice A0_1 l0_1.length c0_1] 28 (0, 0))) := ⟨(hb5.block _ (blk_lt HK3.out)).trans HK3.out⟩
              have HR5 := Aside0.mk (Kd.R_below HR3.out hb5)
              have hpo5 : ∀ q : Nat, (w5.drewN q).iterPos it = d + 1 := fun q => by unfold World.iterPos; rw [show (w5.drewN q).heap[it]? = some (.stringIter digS (d + 1)) from HT5.out]
              have HPO5 := Aside0.mk hpo5
              clear hb5 hpo5 HB3 HT3 HK3 HR3
              have e := HBB.out
              unfold rightO at e
              obtain ⟨⟨v, m2⟩, hw, e⟩ := Option.bind_eq_some_iff.mp e
              simp only at e
              split at e
              · exact absurd e (by simp)
              · rename_i hm
                split at e
                · rename_i hm2
                  subst hm2
                  simp only [Option.some.injEq] at e
                  have hright := right_reads k w.heap.size m2 l0_1 ot v A0_1 c0_1 w5 ((blk_cell HK5.out 0).trans rfl) ((blk_cell HK5.out 1).trans rfl) (Kd.C_below HR.out HB5.out) hm hw
                  rw [e] at hright
                  clear e hw hm
                  go_wp2_with fail
                  refine hright.mono ?_
                  rintro e w6 ⟨rfl, ⟨q6, rfl⟩⟩
                  clear hright
                  cases b with
                  | false =>
                    go_wp2
                    go_roundw
                    case rel => exact ⟨d + 1, acc, by omega, by omega, ⟨Kd.R_drewN HR5.out q6⟩, ⟨HT5.out⟩, ⟨HK5.out⟩, ⟨pw_below_drewN HB5.out q6⟩, ⟨by have := HPP.out; simpa using this⟩⟩
                    case measure => rw [HPO5.out, HPOS.out]; omega
                  | true =>
                    have HB6 := Aside0.mk (pw_below_drewN HB5.out q6)
                    have HR6 := Aside0.mk (Kd.R_drewN HR5.out q6)
                    have HT6 : Aside0 ((w5.drewN q6).heap[it]? = some (.stringIter digS (d + 1))) := ⟨HT5.out⟩
                    have HK6 : Aside0 ((w5.drewN q6).heap[w.heap.size]? = some (.cells #[.int .i64 m2, .slice A0_1 l0_1.length c0_1] 28 (0, 0))) := ⟨HK5.out⟩
                    have HPO6 := Aside0.mk (HPO5.out q6)
                    generalize w5.drewN q6 = w6 at HB6 HR6 HT6 HK6 HPO6 ⊢
                    go_wp2_with (first | ((with_reducible refine gate_builtin (b := .append) (xs := #[.tmp 44, .tmp 46]) rfl ?_); at_builtin; refine Kd.R_append Kd.string (w0 := w) w.heap.size rfl (.tmp 44) (.tmp 46) 32 9 (.string ⟨#[]⟩) 16 rfl Tryd.underlying32 info9 rfl (by decide) (by omega) u7 acc (digS.extract d (d + 1)) [.string (digS.extract d (d + 1))] (fun k_ => k_ ≠ w.heap.size ∧ k_ ≠ it) (fun _ => False) rfl rfl ?aP (fun _ hk => hk.elim) ?aF ?aO ?aB ?aS ?aL ?_; (case aP => exact rfl); (case aB => exact HB6.out); (case aF => exact (fun k hk => by have h1 := blk_lt HK6.out; have h2 := (Array.getElem?_eq_some_iff.1 HT6.out).1; omega)); (case aO => exact HR6.out); (case aS => exact HB6.out.size); (case aL => omega); intro v173 w15 ho hb hg hat; have HT15 : Aside0 (w15.heap[it]? = some (.stringIter digS (d + 1))) := ⟨(hg.block it (Array.getElem?_eq_some_iff.1 HT6.out).1 (fun e => (HR6.out.1 it e.symm).2 rfl)).trans HT6.out⟩; have HK15 := Aside0.mk (blk_grown HK6.out hg (fun e => (HR6.out.1 _ e.symm).1 rfl)); clear hg hat))
                    have hpo15 : w15.iterPos it = d + 1 := by unfold World.iterPos; rw [HT15.out]
                    go_roundw
                    case rel => exact ⟨d + 1, acc ++ [digS.extract d (d + 1)], by omega, by rw [List.length_append]; simp; omega, ⟨ho⟩, HT15, HK15, ⟨hb⟩, ⟨by have := HPP.out; simpa using this⟩⟩
                    case measure => rw [hpo15, HPOS.out]; omega
                · exact absurd e (by simp)
            · have hdd : d = 10 := by omega
              subst hdd
              have hnx : ∀ ty, (Instr.next (.pointer (some ⟨it, 0, none⟩)) true ty).run Tryd.prog wr = _ := fun ty => Go.Lib.run_next_end_at wr it digS 10 ty HT.out (by decide)
              have e := HQ.out
              rw [Nat.sub_self, lostO, Option.some.injEq] at e
              have E := Aside0.mk e
              clear e HQ
              obtain ⟨A9, c9, e9⟩ := Kd.R_slice HR2.out
              subst e9
              go_wp2
              go_ret2
              exact ⟨_, rfl, by rw [← E.out]; exact Kd.R_mono HR2.out (fun _ _ => trivial), HB.out⟩
      · rename_i hjj
        have hb1 : (decide (0 ≤ J) && decide (J ≤ (l0_1.length : Int) - 1)) = false := by
          rw [Bool.and_eq_false_iff, decide_eq_false_iff_not, decide_eq_false_iff_not]
          omega
        have hin2 := HIN.out
        rw [hb1] at hin2
        have HIN2 := Aside0.mk hin2
        clear hb1 hin2 HIN hjj
        simp only [Option.some.injEq, Prod.mk.injEq] at h
        obtain ⟨rfl, rfl⟩ := h
        go_enter Tryd.func14, Tryd.ntmps14
        go_wp2_with fail
        refine (HI.out _).mono ?_
        rintro e w1 ⟨rfl, ⟨q, rfl⟩⟩
        go_wp2
        go_quiet (first | (go_at_call 41; refine (HN.out _).mono ?_; rintro e w' ⟨rfl, ⟨nd, rfl⟩⟩; (try first | exact ⟨rfl, _, World.drewN_drewN _ _ _⟩ | exact ⟨rfl, _, Eq.trans (World.drewN_drewN _ _ _) (congrArg (World.drewN _) (Nat.add_assoc _ _ _))⟩)) | (go_at_call 42; refine (HIN2.out _).mono ?_; rintro e w' ⟨rfl, ⟨nd, rfl⟩⟩; (try first | exact ⟨rfl, _, World.drewN_drewN _ _ _⟩ | exact ⟨rfl, _, Eq.trans (World.drewN_drewN _ _ _) (congrArg (World.drewN _) (Nat.add_assoc _ _ _))⟩)))
        go_wp2
        go_ret2
        exact ⟨_, rfl, Kd.R_nil _ _ _ _ _, by repeat (first | exact HB0.out | apply pw_below_drewN)⟩
    · rename_i hcn
      simp only [Option.some.injEq, Prod.mk.injEq] at h
      obtain ⟨rfl, rfl⟩ := h
      have n1 : ((cn : Int) != 1) = true := bne_iff_ne.mpr (by omega)
      have n2 : ((cn : Int) == 1) = false := beq_eq_false_iff_ne.mpr (by omega)
      have n3 : ((cn : Int) = 1) = False := eq_false (by omega)
      clear hcn
      go_enter Tryd.func14, Tryd.ntmps14
      go_wp2_with fail
      refine (HI.out _).mono ?_
      rintro e w1 ⟨rfl, ⟨q, rfl⟩⟩
      go_wp2
      go_quiet (first | (go_at_call 41; refine (HN.out _).mono ?_; rintro e w' ⟨rfl, ⟨nd, rfl⟩⟩; (try first | exact ⟨rfl, _, World.drewN_drewN _ _ _⟩ | exact ⟨rfl, _, Eq.trans (World.drewN_drewN _ _ _) (congrArg (World.drewN _) (Nat.add_assoc _ _ _))⟩)))
      go_wp2
      go_ret2
      exact ⟨_, rfl, Kd.R_nil _ _ _ _ _, by repeat (first | exact HB0.out | apply pw_below_drewN)⟩
  · exact absurd h (by simp)

end Go.Proofs.YtepkhpnoibillaaDoor.PA
