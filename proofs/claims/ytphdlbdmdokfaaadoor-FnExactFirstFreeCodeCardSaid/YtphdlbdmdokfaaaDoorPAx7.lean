-- printed by xprint.py: the kit's print.py with given contracts
import Derived.Test.YtphdlbdmdokfaaaDoorPAx0
import Derived.Test.YtphdlbdmdokfaaaDoorPAx1
import Derived.Test.YtphdlbdmdokfaaaDoorPAx2
import Derived.Test.YtphdlbdmdokfaaaDoorPAx3
import Derived.Test.YtphdlbdmdokfaaaDoorPAx6
namespace Go.Proofs.YtphdlbdmdokfaaaDoor.PA
open Go.RowKit Go.Proofs.YtphdlbdmdokfaaaDoorW.PrintWords Go.Proofs.YtphdlbdmdokfaaaDoorW.PrintLast Go.Proofs.YtphdlbdmdokfaaaDoorW.PrintMore
attribute [local go_sem] max2_int min2_int max_two min_two max_three min_three max_four min_four   -- for this text's walks alone
set_option linter.unusedVariables false
set_option linter.unusedSimpArgs false

/-! ### spec_plFirst: function 58 -/
mutual
def spec_plFirst.l0 : Nat → ByteArray → List ByteArray → Int → Int → Option (ByteArray × Bool)
  | 0, _, _, _, _ => none
  | k + 1, x1, x19, x20, x21 => if x21 < x20 then (if 0 ≤ x21 then (if x21 < (x19.length : Int) then ((spec_plBegins.f x1 (rdOf ByteArray.empty x19 x21)).bind fun t276 => (if t276 = true then (some ((⟨#[]⟩ : ByteArray), false)) else (spec_plFirst.l0 k x1 x19 x20 (wrap64 (x21 + 1))))) else (none)) else (none)) else (some (x1, true))
def spec_plFirst.l1 : Nat → List ByteArray → ByteArray → Int → Int → Option (ByteArray × Bool)
  | 0, _, _, _, _ => none
  | k + 1, x0, x1, x2, x10 => if x10 < 10 then ((spec_l1Num.f k x10).bind fun t277 => (if x1.size + t277.size ≤ 9223372036854775807 then ((spec_plFirst.f k x0 (x1 ++ t277) (wrap64 (x2 - 1))).bind fun bt278 => (if bt278.2 = true then (some (bt278.1, true)) else (spec_plFirst.l1 k x0 x1 x2 (wrap64 (x10 + 1))))) else (none))) else (some ((⟨#[]⟩ : ByteArray), false))
def spec_plFirst.f : Nat → List ByteArray → ByteArray → Int → Option (ByteArray × Bool)
  | 0, _, _, _ => none
  | k + 1, l0, a1, a2 => (spec_plArea.f k l0 a1).bind fun t274 => (if t274.toList = ([] : List UInt8) then (if a2 = 0 then (spec_plFirst.l0 k a1 l0 (l0.length : Int) 0) else (spec_plFirst.l1 k l0 a1 a2 0)) else (some ((⟨#[]⟩ : ByteArray), false)))
end
theorem spec_plFirst.mono_l : ∀ k, (∀ y0 y1 y2, LeO (spec_plFirst.f k y0 y1 y2) (spec_plFirst.f (k + 1) y0 y1 y2)) ∧ (∀ y0 y1 y2 y3, LeO (spec_plFirst.l0 k y0 y1 y2 y3) (spec_plFirst.l0 (k + 1) y0 y1 y2 y3)) ∧ (∀ y0 y1 y2 y3, LeO (spec_plFirst.l1 k y0 y1 y2 y3) (spec_plFirst.l1 (k + 1) y0 y1 y2 y3))
  | 0 => ⟨fun _ _ _ r h => by simp [spec_plFirst.f] at h, fun _ _ _ _ r h => by simp [spec_plFirst.l0] at h, fun _ _ _ _ r h => by simp [spec_plFirst.l1] at h⟩
  | k + 1 => by
    obtain ⟨ih0, ih1, ih2⟩ := spec_plFirst.mono_l k
    refine ⟨?_, ?_, ?_⟩
    · intro y0 y1 y2
      unfold spec_plFirst.f
      repeat' first
      | (with_reducible exact ih0 _ _ _)
      | (with_reducible exact ih1 _ _ _ _)
      | (with_reducible exact ih2 _ _ _ _)
      | (with_reducible exact spec_l1Num.mono _ _)
      | (with_reducible exact spec_plArea.mono _ _ _)
      | (with_reducible exact LeO.refl _)
      | (with_reducible exact LeO.none _)
      | (with_reducible refine LeO.ite ?_ ?_)
      | (with_reducible refine LeO.bind ?_ (fun _ => ?_))
      | exact ih0 _ _ _
      | exact ih1 _ _ _ _
      | exact ih2 _ _ _ _
      | exact spec_l1Num.mono _ _
      | exact spec_plArea.mono _ _ _
      | exact LeO.none _
      | refine LeO.ite ?_ ?_
      | refine LeO.bind ?_ (fun _ => ?_)
    · intro y0 y1 y2 y3
      unfold spec_plFirst.l0
      repeat' first
      | (with_reducible exact ih0 _ _ _)
      | (with_reducible exact ih1 _ _ _ _)
      | (with_reducible exact ih2 _ _ _ _)
      | (with_reducible exact spec_l1Num.mono _ _)
      | (with_reducible exact spec_plArea.mono _ _ _)
      | (with_reducible exact LeO.refl _)
      | (with_reducible exact LeO.none _)
      | (with_reducible refine LeO.ite ?_ ?_)
      | (with_reducible refine LeO.bind ?_ (fun _ => ?_))
      | exact ih0 _ _ _
      | exact ih1 _ _ _ _
      | exact ih2 _ _ _ _
      | exact spec_l1Num.mono _ _
      | exact spec_plArea.mono _ _ _
      | exact LeO.none _
      | refine LeO.ite ?_ ?_
      | refine LeO.bind ?_ (fun _ => ?_)
    · intro y0 y1 y2 y3
      unfold spec_plFirst.l1
      repeat' first
      | (with_reducible exact ih0 _ _ _)
      | (with_reducible exact ih1 _ _ _ _)
      | (with_reducible exact ih2 _ _ _ _)
      | (with_reducible exact spec_l1Num.mono _ _)
      | (with_reducible exact spec_plArea.mono _ _ _)
      | (with_reducible exact LeO.refl _)
      | (with_reducible exact LeO.none _)
      | (with_reducible refine LeO.ite ?_ ?_)
      | (with_reducible refine LeO.bind ?_ (fun _ => ?_))
      | exact ih0 _ _ _
      | exact ih1 _ _ _ _
      | exact ih2 _ _ _ _
      | exact spec_l1Num.mono _ _
      | exact spec_plArea.mono _ _ _
      | exact LeO.none _
      | refine LeO.ite ?_ ?_
      | refine LeO.bind ?_ (fun _ => ?_)
theorem spec_plFirst.mono : ∀ a0 a1 a2 k, LeO (spec_plFirst.f k a0 a1 a2) (spec_plFirst.f (k + 1) a0 a1 a2) := by
  intro a0 a1 a2 k
  obtain ⟨ih0, ih1, ih2⟩ := spec_plFirst.mono_l k
  exact ih0 a0 a1 a2
set_option maxHeartbeats 8000000 in
set_option maxRecDepth 100000 in
theorem spec_plFirst.calls (k : Nat) : ∀ (A0 : Option Addr) (c0 : Nat) (l0 : List ByteArray) (a1 : ByteArray) (a2 : Int) (r1 : ByteArray) (r2 : Bool) (w : World) (hr0 : Kd.C Kd.string w A0 l0.length l0) (hc0 : l0.length ≤ c0) (h : spec_plFirst.f k l0 a1 a2 = some (r1, r2)),
    Calls Tryd.prog 58 #[.slice A0 l0.length c0, .string a1, .int .i64 a2] w fun e w' => e = .returned (.tuple #[.string r1, .bool r2]) ∧ Below w.heap.size w w' := by
  induction k using Nat.strongRecOn with
  | _ k ih =>
  intro A0 c0 l0 a1 a2 r1 r2 w hr0 hc0 h
  cases k with
  | zero => exact absurd h (by simp [spec_plFirst.f])
  | succ k =>
  simp only [spec_plFirst.f] at h
  have HR0 := Aside0.mk hr0
  have HC0 := Aside0.mk hc0
  clear hr0 hc0
  have HB := Aside0.mk (Below.refl w.heap.size w)
  have H : ((spec_plArea.f k l0 a1).bind fun t274 => (if t274.toList = ([] : List UInt8) then (if a2 = 0 then (spec_plFirst.l0 k a1 l0 (l0.length : Int) 0) else (spec_plFirst.l1 k l0 a1 a2 0)) else (some ((⟨#[]⟩ : ByteArray), false)))) = some (r1, r2) := h
  clear h
  replace H := Option.bind_eq_some_iff.mp H
  obtain ⟨t274, A40, H⟩ := H
  replace H : (if t274.toList = ([] : List UInt8) then (if a2 = 0 then (spec_plFirst.l0 k a1 l0 (l0.length : Int) 0) else (spec_plFirst.l1 k l0 a1 a2 0)) else (some ((⟨#[]⟩ : ByteArray), false))) = some (r1, r2) := H
  have A4 := Aside0.mk A40
  clear A40
  by_cases c5 : t274.toList = ([] : List UInt8)
  · rw [if_pos c5] at H
    have c5b0 : (t274.toList == ([] : List UInt8)) = true := beq_iff_eq.mpr c5
    have c5b1 : (t274.toList != ([] : List UInt8)) = false := bne_eq_false_iff_eq.mpr c5
    clear c5
    by_cases c6 : a2 = 0
    · rw [if_pos c6] at H
      have c6b0 : (a2 == 0) = true := beq_iff_eq.mpr c6
      have c6b1 : (a2 != 0) = false := bne_eq_false_iff_eq.mpr c6
      clear c6
      have H' := Aside0.mk H
      clear H
      go_enter Tryd.func58, Tryd.ntmps58
      go_wp2_with (first | ((with_reducible refine gate_callee (f := 71) rfl ?_); refine goesL_ (some 15) rfl rfl Tryd.func71 (by kernel_rfl) rfl #[.slice A0 l0.length c0, .string a1] rfl (by (try simp only [List.map_toArray, List.map_cons, List.map_nil]); first | done | rfl | (simp only [List.length_drop, List.length_take]; rfl)) ?_; (with_reducible refine (spec_plArea.calls k _ _ l0 a1 t274 _ ?side1 ?side2 A4.out).mono ?_); (case side1 => repeat (first | exact HR0.out | (with_reducible refine Kd.C_alloc ?_ _) | (with_reducible refine Kd.C_drewN ?_ _) | (with_reducible refine Kd.C_drew ?_))); (case side2 => exact HC0.out); rintro e w' ⟨rfl, ⟨nd, rfl⟩⟩; refine ⟨_, rfl, ?_⟩))
      go_loopg [21] k (fun kq v21 w' => ∃ (x21_1 : Int), v21 = .int .i64 x21_1 ∧ Aside0 (spec_plFirst.l0 kq a1 l0 (l0.length : Int) x21_1 = some (r1, r2)) ∧ Aside0 (kq ≤ k) ∧ Aside0 (Below w.heap.size w w'))
      case atStart => exact ⟨(0), (by first | rfl | (simp; done) | (simp [*]; done) | (simp [isEmpty_bne]; done) | (simp [i64_w]; done) | (simp only [i64_w]; done)), H', ⟨Nat.le_refl _⟩, ⟨by repeat (first | (with_reducible first | exact HB.out | apply below_alloc | apply pw_below_drewN | apply below_drew1) | exact HB.out)⟩⟩
      case round =>
        clear H'
        try clear p2
        try clear c5
        try clear c5b0
        try clear c5b1
        try clear c6
        try clear c6b0
        try clear c6b1
        obtain ⟨x21_1, rfl, HA, HK1, HB⟩ := hrel
        cases gk with
        | zero => exact absurd HA.out (by simp [spec_plFirst.l0])
        | succ k1 =>
          have H := HA.out
          clear HA
          simp only [spec_plFirst.l0] at H
          by_cases c7 : x21_1 < (l0.length : Int)
          · rw [if_pos c7] at H
            have c7b0 : decide (x21_1 < (l0.length : Int)) = true := decide_eq_true c7
            clear c7
            by_cases c8 : 0 ≤ x21_1
            · rw [if_pos c8] at H
              have c8b0 : decide (0 ≤ x21_1) = true := decide_eq_true c8
              clear c8
              by_cases c9 : x21_1 < (l0.length : Int)
              · rw [if_pos c9] at H
                have c9b0 : decide (x21_1 < (l0.length : Int)) = true := decide_eq_true c9
                clear c9
                replace H := Option.bind_eq_some_iff.mp H
                obtain ⟨t276, A100, H⟩ := H
                replace H : (if t276 = true then (some ((⟨#[]⟩ : ByteArray), false)) else (spec_plFirst.l0 k1 a1 l0 (l0.length : Int) (wrap64 (x21_1 + 1)))) = some (r1, r2) := H
                have A10 := Aside0.mk A100
                clear A100
                by_cases c11 : t276 = true
                · subst c11
                  have H1 : (some ((⟨#[]⟩ : ByteArray), false)) = some (r1, r2) := by rw [if_pos rfl] at H; exact H
                  clear H
                  have H := H1
                  clear H1
                  simp only [Option.some.injEq, Prod.mk.injEq] at H
                  obtain ⟨rfl, rfl⟩ := H
                  have p275 : 0 ≤ (x21_1 : Int) := of_decide_eq_true (by first | (with_reducible assumption) | assumption)
                  have q275 : x21_1 < (l0.length : Int) := of_decide_eq_true (by first | (with_reducible assumption) | assumption)
                  obtain ⟨ad275, e275, hx275_0⟩ := Kd.at_string HR0.out x21_1 p275 q275
                  cases e275
                  replace hx275_0 := (HB.out.cell (World.block_lt_of_cell? w _ hx275_0)).trans hx275_0
                  replace p275 := eq_true p275
                  replace q275 := eq_true q275
                  go_wp2_with (first | ((with_reducible refine gate_callee (f := 42) rfl ?_); refine goesL_ (some 27) rfl rfl Tryd.func42 (by kernel_rfl) rfl #[.string a1, .string (rdOf ByteArray.empty l0 x21_1)] rfl (by (try simp only [List.map_toArray, List.map_cons, List.map_nil]); first | done | rfl | (simp only [List.length_drop, List.length_take]; rfl)) ?_; (with_reducible refine (spec_plBegins.calls a1 (rdOf ByteArray.empty l0 x21_1) true _ A10.out).mono ?_); rintro e w' ⟨rfl, ⟨nd, rfl⟩⟩; refine ⟨_, rfl, ?_⟩))
                  go_ret2
                  exact ⟨by first | rfl | (simp [errW_none, errW_some] <;> rfl) | (simp [*, errW_none, errW_some] <;> rfl), by repeat (first | (with_reducible first | exact HB.out | apply below_alloc | apply pw_below_drewN | apply below_drew1) | exact HB.out)⟩
                · replace c11 := Bool.eq_false_iff.mpr c11
                  subst c11
                  have H1 : (spec_plFirst.l0 k1 a1 l0 (l0.length : Int) (wrap64 (x21_1 + 1))) = some (r1, r2) := by rw [if_neg (show ¬ (false = true) by decide)] at H; exact H
                  clear H
                  have H := H1
                  clear H1
                  have H' := Aside0.mk H
                  clear H
                  have p275 : 0 ≤ (x21_1 : Int) := of_decide_eq_true (by first | (with_reducible assumption) | assumption)
                  have q275 : x21_1 < (l0.length : Int) := of_decide_eq_true (by first | (with_reducible assumption) | assumption)
                  obtain ⟨ad275, e275, hx275_0⟩ := Kd.at_string HR0.out x21_1 p275 q275
                  cases e275
                  replace hx275_0 := (HB.out.cell (World.block_lt_of_cell? w _ hx275_0)).trans hx275_0
                  replace p275 := eq_true p275
                  replace q275 := eq_true q275
                  go_wp2_with (first | ((with_reducible refine gate_callee (f := 42) rfl ?_); refine goesL_ (some 27) rfl rfl Tryd.func42 (by kernel_rfl) rfl #[.string a1, .string (rdOf ByteArray.empty l0 x21_1)] rfl (by (try simp only [List.map_toArray, List.map_cons, List.map_nil]); first | done | rfl | (simp only [List.length_drop, List.length_take]; rfl)) ?_; (with_reducible refine (spec_plBegins.calls a1 (rdOf ByteArray.empty l0 x21_1) false _ A10.out).mono ?_); rintro e w' ⟨rfl, ⟨nd, rfl⟩⟩; refine ⟨_, rfl, ?_⟩))
                  go_roundg k1
                  case measure => have := HK1.out; omega
                  case rel => exact ⟨(wrap64 (x21_1 + 1)), (by first | rfl | (simp; done) | (simp [*]; done) | (simp [isEmpty_bne]; done) | (simp [i64_w]; done) | (simp only [i64_w]; done)), H', ⟨by have := HK1.out; omega⟩, ⟨by repeat (first | (with_reducible first | exact HB.out | apply below_alloc | apply pw_below_drewN | apply below_drew1) | exact HB.out)⟩⟩
              · rw [if_neg c9] at H
                exact absurd H (by simp)
            · rw [if_neg c8] at H
              exact absurd H (by simp)
          · rw [if_neg c7] at H
            have c7b0 : decide (x21_1 < (l0.length : Int)) = false := decide_eq_false c7
            clear c7
            simp only [Option.some.injEq, Prod.mk.injEq] at H
            obtain ⟨rfl, rfl⟩ := H
            go_wp2
            go_ret2
            exact ⟨by first | rfl | (simp [errW_none, errW_some] <;> rfl) | (simp [*, errW_none, errW_some] <;> rfl), by repeat (first | (with_reducible first | exact HB.out | apply below_alloc | apply pw_below_drewN | apply below_drew1) | exact HB.out)⟩
    · rw [if_neg c6] at H
      have c6b0 : (a2 == 0) = false := beq_eq_false_iff_ne.mpr c6
      have c6b1 : (a2 != 0) = true := bne_iff_ne.mpr c6
      have H' := Aside0.mk H
      clear H
      go_enter Tryd.func58, Tryd.ntmps58
      go_wp2_with (first | ((with_reducible refine gate_callee (f := 71) rfl ?_); refine goesL_ (some 15) rfl rfl Tryd.func71 (by kernel_rfl) rfl #[.slice A0 l0.length c0, .string a1] rfl (by (try simp only [List.map_toArray, List.map_cons, List.map_nil]); first | done | rfl | (simp only [List.length_drop, List.length_take]; rfl)) ?_; (with_reducible refine (spec_plArea.calls k _ _ l0 a1 t274 _ ?side1 ?side2 A4.out).mono ?_); (case side1 => repeat (first | exact HR0.out | (with_reducible refine Kd.C_alloc ?_ _) | (with_reducible refine Kd.C_drewN ?_ _) | (with_reducible refine Kd.C_drew ?_))); (case side2 => exact HC0.out); rintro e w' ⟨rfl, ⟨nd, rfl⟩⟩; refine ⟨_, rfl, ?_⟩))
      go_loopg [10] k (fun kq v10 w' => ∃ (x10_1 : Int), v10 = .int .i64 x10_1 ∧ Aside0 (spec_plFirst.l1 kq l0 a1 a2 x10_1 = some (r1, r2)) ∧ Aside0 (kq ≤ k) ∧ Aside0 (Below w.heap.size w w'))
      case atStart => exact ⟨(0), (by first | rfl | (simp; done) | (simp [*]; done) | (simp [isEmpty_bne]; done) | (simp [i64_w]; done) | (simp only [i64_w]; done)), H', ⟨Nat.le_refl _⟩, ⟨by repeat (first | (with_reducible first | exact HB.out | apply below_alloc | apply pw_below_drewN | apply below_drew1) | exact HB.out)⟩⟩
      case round =>
        clear H'
        try clear c1
        try clear p2
        try clear q2
        try clear hx2
        try clear c4
        try clear c5
        try clear c5b0
        try clear c5b1
        try clear c6
        try clear c6b0
        try clear c6b1
        try clear p6
        try clear c7
        try clear c7b0
        try clear c8
        try clear c8b0
        try clear c9
        try clear c9b0
        try clear c11
        try clear hx275_0
        try clear p2
        try clear p275
        try clear q275
        obtain ⟨x10_1, rfl, HA, HK1, HB⟩ := hrel
        cases gk with
        | zero => exact absurd HA.out (by simp [spec_plFirst.l1])
        | succ k1 =>
          have H := HA.out
          clear HA
          simp only [spec_plFirst.l1] at H
          by_cases c12 : x10_1 < 10
          · rw [if_pos c12] at H
            have c12b0 : decide (x10_1 < 10) = true := decide_eq_true c12
            clear c12
            replace H := Option.bind_eq_some_iff.mp H
            obtain ⟨t277, A130, H⟩ := H
            replace H : (if a1.size + t277.size ≤ 9223372036854775807 then ((spec_plFirst.f k1 l0 (a1 ++ t277) (wrap64 (a2 - 1))).bind fun bt278 => (if bt278.2 = true then (some (bt278.1, true)) else (spec_plFirst.l1 k1 l0 a1 a2 (wrap64 (x10_1 + 1))))) else (none)) = some (r1, r2) := H
            have A13 := Aside0.mk A130
            clear A130
            by_cases c14 : a1.size + t277.size ≤ 9223372036854775807
            · rw [if_pos c14] at H
              have c14b0 := eq_true c14
              have c14b1 : decide (a1.size + t277.size ≤ 9223372036854775807) = true := decide_eq_true c14
              try have c14b2 : (9223372036854775807 < a1.size + t277.size) = False := eq_false (Nat.not_lt.2 c14)
              replace H := Option.bind_eq_some_iff.mp H
              obtain ⟨⟨t278, t279⟩, A150, H⟩ := H
              replace H : (if t279 = true then (some (t278, true)) else (spec_plFirst.l1 k1 l0 a1 a2 (wrap64 (x10_1 + 1)))) = some (r1, r2) := H
              have A15 := Aside0.mk A150
              clear A150
              by_cases c16 : t279 = true
              · subst c16
                have H1 : (some (t278, true)) = some (r1, r2) := by rw [if_pos rfl] at H; exact H
                clear H
                have H := H1
                clear H1
                simp only [Option.some.injEq, Prod.mk.injEq] at H
                obtain ⟨rfl, rfl⟩ := H
                go_wp2_with (first | ((with_reducible refine gate_callee (f := 75) rfl ?_); refine goesL_ (some 38) rfl rfl Tryd.func75 (by kernel_rfl) rfl #[.int .i64 x10_1] rfl (by (try simp only [List.map_toArray, List.map_cons, List.map_nil]); first | done | rfl | (simp only [List.length_drop, List.length_take]; rfl)) ?_; (with_reducible refine (spec_l1Num.calls k1 x10_1 t277 _ A13.out).mono ?_); rintro e w17 ⟨rfl, hb⟩; refine ⟨_, rfl, ?_⟩; have n0_ := Aside0.mk (below_step (by repeat (first | (with_reducible first | exact HB.out | apply below_alloc | apply pw_below_drewN | apply below_drew1) | exact HB.out)) hb); clear HB; have HB := n0_; clear n0_; (try clear hb); (try clear hb2); (try clear hk); (try clear hi)) | ((with_reducible refine gate_callee (f := 58) rfl ?_); refine goesL_ (some 42) rfl rfl Tryd.func58 (by kernel_rfl) rfl #[.slice A0 l0.length c0, .string (a1 ++ t277), .int .i64 (wrap64 (a2 - 1))] rfl (by (try simp only [List.map_toArray, List.map_cons, List.map_nil]); first | done | rfl | (simp only [List.length_drop, List.length_take]; rfl)) ?_; (with_reducible refine (ih k1 (by have := HK1.out; omega) _ _ l0 (a1 ++ t277) (wrap64 (a2 - 1)) t278 true _ ?side1 ?side2 A15.out).mono ?_); (case side1 => repeat (first | exact (Kd.C_below HR0.out HB.out) | (with_reducible refine Kd.C_alloc ?_ _) | (with_reducible refine Kd.C_drewN ?_ _) | (with_reducible refine Kd.C_drew ?_))); (case side2 => exact HC0.out); rintro e w18 ⟨rfl, hb⟩; refine ⟨_, rfl, ?_⟩; have n0_ := Aside0.mk (below_step (by repeat (first | (with_reducible first | exact HB.out | apply below_alloc | apply pw_below_drewN | apply below_drew1) | exact HB.out)) hb); clear HB; have HB := n0_; clear n0_; (try clear hb); (try clear hb2); (try clear hk); (try clear hi)))
                go_ret2
                exact ⟨by first | rfl | (simp [errW_none, errW_some] <;> rfl) | (simp [*, errW_none, errW_some] <;> rfl), by repeat (first | (with_reducible first | exact HB.out | apply below_alloc | apply pw_below_drewN | apply below_drew1) | exact HB.out)⟩
              · replace c16 := Bool.eq_false_iff.mpr c16
                subst c16
                have H1 : (spec_plFirst.l1 k1 l0 a1 a2 (wrap64 (x10_1 + 1))) = some (r1, r2) := by rw [if_neg (show ¬ (false = true) by decide)] at H; exact H
                clear H
                have H := H1
                clear H1
                have H' := Aside0.mk H
                clear H
                go_wp2_with (first | ((with_reducible refine gate_callee (f := 75) rfl ?_); refine goesL_ (some 38) rfl rfl Tryd.func75 (by kernel_rfl) rfl #[.int .i64 x10_1] rfl (by (try simp only [List.map_toArray, List.map_cons, List.map_nil]); first | done | rfl | (simp only [List.length_drop, List.length_take]; rfl)) ?_; (with_reducible refine (spec_l1Num.calls k1 x10_1 t277 _ A13.out).mono ?_); rintro e w19 ⟨rfl, hb⟩; refine ⟨_, rfl, ?_⟩; have n0_ := Aside0.mk (below_step (by repeat (first | (with_reducible first | exact HB.out | apply below_alloc | apply pw_below_drewN | apply below_drew1) | exact HB.out)) hb); clear HB; have HB := n0_; clear n0_; (try clear hb); (try clear hb2); (try clear hk); (try clear hi)) | ((with_reducible refine gate_callee (f := 58) rfl ?_); refine goesL_ (some 42) rfl rfl Tryd.func58 (by kernel_rfl) rfl #[.slice A0 l0.length c0, .string (a1 ++ t277), .int .i64 (wrap64 (a2 - 1))] rfl (by (try simp only [List.map_toArray, List.map_cons, List.map_nil]); first | done | rfl | (simp only [List.length_drop, List.length_take]; rfl)) ?_; (with_reducible refine (ih k1 (by have := HK1.out; omega) _ _ l0 (a1 ++ t277) (wrap64 (a2 - 1)) t278 false _ ?side1 ?side2 A15.out).mono ?_); (case side1 => repeat (first | exact (Kd.C_below HR0.out HB.out) | (with_reducible refine Kd.C_alloc ?_ _) | (with_reducible refine Kd.C_drewN ?_ _) | (with_reducible refine Kd.C_drew ?_))); (case side2 => exact HC0.out); rintro e w20 ⟨rfl, hb⟩; refine ⟨_, rfl, ?_⟩; have n0_ := Aside0.mk (below_step (by repeat (first | (with_reducible first | exact HB.out | apply below_alloc | apply pw_below_drewN | apply below_drew1) | exact HB.out)) hb); clear HB; have HB := n0_; clear n0_; (try clear hb); (try clear hb2); (try clear hk); (try clear hi)))
                go_roundg k1
                case measure => have := HK1.out; omega
                case rel => exact ⟨(wrap64 (x10_1 + 1)), (by first | rfl | (simp; done) | (simp [*]; done) | (simp [isEmpty_bne]; done) | (simp [i64_w]; done) | (simp only [i64_w]; done)), H', ⟨by have := HK1.out; omega⟩, ⟨by repeat (first | (with_reducible first | exact HB.out | apply below_alloc | apply pw_below_drewN | apply below_drew1) | exact HB.out)⟩⟩
            · rw [if_neg c14] at H
              exact absurd H (by simp)
          · rw [if_neg c12] at H
            have c12b0 : decide (x10_1 < 10) = false := decide_eq_false c12
            clear c12
            simp only [Option.some.injEq, Prod.mk.injEq] at H
            obtain ⟨rfl, rfl⟩ := H
            go_wp2
            go_ret2
            exact ⟨by first | rfl | (simp [errW_none, errW_some] <;> rfl) | (simp [*, errW_none, errW_some] <;> rfl), by repeat (first | (with_reducible first | exact HB.out | apply below_alloc | apply pw_below_drewN | apply below_drew1) | exact HB.out)⟩
  · rw [if_neg c5] at H
    have c5b0 : (t274.toList == ([] : List UInt8)) = false := beq_eq_false_iff_ne.mpr c5
    have c5b1 : (t274.toList != ([] : List UInt8)) = true := bne_iff_ne.mpr c5
    simp only [Option.some.injEq, Prod.mk.injEq] at H
    obtain ⟨rfl, rfl⟩ := H
    go_enter Tryd.func58, Tryd.ntmps58
    go_wp2_with (first | ((with_reducible refine gate_callee (f := 71) rfl ?_); refine goesL_ (some 15) rfl rfl Tryd.func71 (by kernel_rfl) rfl #[.slice A0 l0.length c0, .string a1] rfl (by (try simp only [List.map_toArray, List.map_cons, List.map_nil]); first | done | rfl | (simp only [List.length_drop, List.length_take]; rfl)) ?_; (with_reducible refine (spec_plArea.calls k _ _ l0 a1 t274 _ ?side1 ?side2 A4.out).mono ?_); (case side1 => repeat (first | exact HR0.out | (with_reducible refine Kd.C_alloc ?_ _) | (with_reducible refine Kd.C_drewN ?_ _) | (with_reducible refine Kd.C_drew ?_))); (case side2 => exact HC0.out); rintro e w' ⟨rfl, ⟨nd, rfl⟩⟩; refine ⟨_, rfl, ?_⟩))
    go_ret2
    exact ⟨by first | rfl | (simp [errW_none, errW_some] <;> rfl) | (simp [*, errW_none, errW_some] <;> rfl), by repeat (first | (with_reducible first | exact HB.out | apply below_alloc | apply pw_below_drewN | apply below_drew1) | exact HB.out)⟩

/-! ### spec_FirstFreeCode: function 26 -/
def spec_FirstFreeCode.f (k : Nat) (l0 : List ByteArray) (a1 : Int) : Option (ByteArray × Bool) := (spec_plGood.f k l0).bind fun t280 => (if t280 = true then ((spec_plLong.f a1).bind fun t281 => (if t281 = true then ((spec_plFirst.f k l0 (⟨#[]⟩ : ByteArray) a1).bind fun bt282 => (some (bt282.1, bt282.2))) else (some ((⟨#[]⟩ : ByteArray), false)))) else (some ((⟨#[]⟩ : ByteArray), false)))
theorem spec_FirstFreeCode.mono : ∀ a0 a1 k, LeO (spec_FirstFreeCode.f k a0 a1) (spec_FirstFreeCode.f (k + 1) a0 a1) := by
  intro a0 a1 k
  unfold spec_FirstFreeCode.f
  repeat' first
      | (with_reducible exact spec_plFirst.mono _ _ _ _)
      | (with_reducible exact spec_plGood.mono _ _)
      | (with_reducible exact LeO.refl _)
      | (with_reducible exact LeO.none _)
      | (with_reducible refine LeO.ite ?_ ?_)
      | (with_reducible refine LeO.bind ?_ (fun _ => ?_))
      | exact spec_plFirst.mono _ _ _ _
      | exact spec_plGood.mono _ _
      | exact LeO.none _
      | refine LeO.ite ?_ ?_
      | refine LeO.bind ?_ (fun _ => ?_)
set_option maxHeartbeats 8000000 in
set_option maxRecDepth 100000 in
theorem spec_FirstFreeCode.calls (k : Nat) (A0 : Option Addr) (c0 : Nat) (l0 : List ByteArray) (a1 : Int) (r1 : ByteArray) (r2 : Bool) (w : World) (hr0 : Kd.C Kd.string w A0 l0.length l0) (hc0 : l0.length ≤ c0) (h : spec_FirstFreeCode.f k l0 a1 = some (r1, r2)) :
    Calls Tryd.prog 26 #[.slice A0 l0.length c0, .int .i64 a1] w fun e w' => e = .returned (.tuple #[.string r1, .bool r2]) ∧ Below w.heap.size w w' := by
  have HR0 := Aside0.mk hr0
  have HC0 := Aside0.mk hc0
  clear hr0 hc0
  have HB := Aside0.mk (Below.refl w.heap.size w)
  have H : ((spec_plGood.f k l0).bind fun t280 => (if t280 = true then ((spec_plLong.f a1).bind fun t281 => (if t281 = true then ((spec_plFirst.f k l0 (⟨#[]⟩ : ByteArray) a1).bind fun bt282 => (some (bt282.1, bt282.2))) else (some ((⟨#[]⟩ : ByteArray), false)))) else (some ((⟨#[]⟩ : ByteArray), false)))) = some (r1, r2) := h
  clear h
  replace H := Option.bind_eq_some_iff.mp H
  obtain ⟨t280, A30, H⟩ := H
  replace H : (if t280 = true then ((spec_plLong.f a1).bind fun t281 => (if t281 = true then ((spec_plFirst.f k l0 (⟨#[]⟩ : ByteArray) a1).bind fun bt282 => (some (bt282.1, bt282.2))) else (some ((⟨#[]⟩ : ByteArray), false)))) else (some ((⟨#[]⟩ : ByteArray), false))) = some (r1, r2) := H
  have A3 := Aside0.mk A30
  clear A30
  by_cases c4 : t280 = true
  · subst c4
    have H1 : ((spec_plLong.f a1).bind fun t281 => (if t281 = true then ((spec_plFirst.f k l0 (⟨#[]⟩ : ByteArray) a1).bind fun bt282 => (some (bt282.1, bt282.2))) else (some ((⟨#[]⟩ : ByteArray), false)))) = some (r1, r2) := by rw [if_pos rfl] at H; exact H
    clear H
    have H := H1
    clear H1
    replace H := Option.bind_eq_some_iff.mp H
    obtain ⟨t281, A50, H⟩ := H
    replace H : (if t281 = true then ((spec_plFirst.f k l0 (⟨#[]⟩ : ByteArray) a1).bind fun bt282 => (some (bt282.1, bt282.2))) else (some ((⟨#[]⟩ : ByteArray), false))) = some (r1, r2) := H
    have A5 := Aside0.mk A50
    clear A50
    by_cases c6 : t281 = true
    · subst c6
      have H1 : ((spec_plFirst.f k l0 (⟨#[]⟩ : ByteArray) a1).bind fun bt282 => (some (bt282.1, bt282.2))) = some (r1, r2) := by rw [if_pos rfl] at H; exact H
      clear H
      have H := H1
      clear H1
      replace H := Option.bind_eq_some_iff.mp H
      obtain ⟨⟨t282, t283⟩, A70, H⟩ := H
      replace H : (some (t282, t283)) = some (r1, r2) := H
      have A7 := Aside0.mk A70
      clear A70
      simp only [Option.some.injEq, Prod.mk.injEq] at H
      obtain ⟨rfl, rfl⟩ := H
      go_enter Tryd.func26, Tryd.ntmps26
      go_wp2_with (first | ((with_reducible refine gate_callee (f := 55) rfl ?_); refine goesL_ (some 7) rfl rfl Tryd.func55 (by kernel_rfl) rfl #[.slice A0 l0.length c0] rfl (by (try simp only [List.map_toArray, List.map_cons, List.map_nil]); first | done | rfl | (simp only [List.length_drop, List.length_take]; rfl)) ?_; (with_reducible refine (spec_plGood.calls k _ _ l0 true _ ?side1 ?side2 A3.out).mono ?_); (case side1 => repeat (first | exact HR0.out | (with_reducible refine Kd.C_alloc ?_ _) | (with_reducible refine Kd.C_drewN ?_ _) | (with_reducible refine Kd.C_drew ?_))); (case side2 => exact HC0.out); rintro e w' ⟨rfl, ⟨nd, rfl⟩⟩; refine ⟨_, rfl, ?_⟩) | (go_at_call 57; (with_reducible refine (spec_plLong.calls a1 true _ A5.out).mono ?_); rintro e w' ⟨rfl, ⟨nd, rfl⟩⟩) | ((with_reducible refine gate_callee (f := 58) rfl ?_); refine goesL_ (some 16) rfl rfl Tryd.func58 (by kernel_rfl) rfl #[.slice A0 l0.length c0, .string (⟨#[]⟩ : ByteArray), .int .i64 a1] rfl (by (try simp only [List.map_toArray, List.map_cons, List.map_nil]); first | done | rfl | (simp only [List.length_drop, List.length_take]; rfl)) ?_; (with_reducible refine (spec_plFirst.calls k _ _ l0 (⟨#[]⟩ : ByteArray) a1 t282 t283 _ ?side1 ?side2 A7.out).mono ?_); (case side1 => repeat (first | exact HR0.out | (with_reducible refine Kd.C_alloc ?_ _) | (with_reducible refine Kd.C_drewN ?_ _) | (with_reducible refine Kd.C_drew ?_))); (case side2 => exact HC0.out); rintro e w8 ⟨rfl, hb⟩; refine ⟨_, rfl, ?_⟩; have n0_ := Aside0.mk (below_step (by repeat (first | (with_reducible first | exact HB.out | apply below_alloc | apply pw_below_drewN | apply below_drew1) | exact HB.out)) hb); clear HB; have HB := n0_; clear n0_; (try clear hb); (try clear hb2); (try clear hk); (try clear hi)))
      go_ret2
      exact ⟨by first | rfl | (simp [errW_none, errW_some] <;> rfl) | (simp [*, errW_none, errW_some] <;> rfl), by repeat (first | (with_reducible first | exact HB.out | apply below_alloc | apply pw_below_drewN | apply below_drew1) | exact HB.out)⟩
    · replace c6 := Bool.eq_false_iff.mpr c6
      subst c6
      have H1 : (some ((⟨#[]⟩ : ByteArray), false)) = some (r1, r2) := by rw [if_neg (show ¬ (false = true) by decide)] at H; exact H
      clear H
      have H := H1
      clear H1
      simp only [Option.some.injEq, Prod.mk.injEq] at H
      obtain ⟨rfl, rfl⟩ := H
      go_enter Tryd.func26, Tryd.ntmps26
      go_wp2_with (first | ((with_reducible refine gate_callee (f := 55) rfl ?_); refine goesL_ (some 7) rfl rfl Tryd.func55 (by kernel_rfl) rfl #[.slice A0 l0.length c0] rfl (by (try simp only [List.map_toArray, List.map_cons, List.map_nil]); first | done | rfl | (simp only [List.length_drop, List.length_take]; rfl)) ?_; (with_reducible refine (spec_plGood.calls k _ _ l0 true _ ?side1 ?side2 A3.out).mono ?_); (case side1 => repeat (first | exact HR0.out | (with_reducible refine Kd.C_alloc ?_ _) | (with_reducible refine Kd.C_drewN ?_ _) | (with_reducible refine Kd.C_drew ?_))); (case side2 => exact HC0.out); rintro e w' ⟨rfl, ⟨nd, rfl⟩⟩; refine ⟨_, rfl, ?_⟩) | (go_at_call 57; (with_reducible refine (spec_plLong.calls a1 false _ A5.out).mono ?_); rintro e w' ⟨rfl, ⟨nd, rfl⟩⟩))
      go_ret2
      exact ⟨by first | rfl | (simp [errW_none, errW_some] <;> rfl) | (simp [*, errW_none, errW_some] <;> rfl), by repeat (first | (with_reducible first | exact HB.out | apply below_alloc | apply pw_below_drewN | apply below_drew1) | exact HB.out)⟩
  · replace c4 := Bool.eq_false_iff.mpr c4
    subst c4
    have H1 : (some ((⟨#[]⟩ : ByteArray), false)) = some (r1, r2) := by rw [if_neg (show ¬ (false = true) by decide)] at H; exact H
    clear H
    have H := H1
    clear H1
    simp only [Option.some.injEq, Prod.mk.injEq] at H
    obtain ⟨rfl, rfl⟩ := H
    go_enter Tryd.func26, Tryd.ntmps26
    go_wp2_with (first | ((with_reducible refine gate_callee (f := 55) rfl ?_); refine goesL_ (some 7) rfl rfl Tryd.func55 (by kernel_rfl) rfl #[.slice A0 l0.length c0] rfl (by (try simp only [List.map_toArray, List.map_cons, List.map_nil]); first | done | rfl | (simp only [List.length_drop, List.length_take]; rfl)) ?_; (with_reducible refine (spec_plGood.calls k _ _ l0 false _ ?side1 ?side2 A3.out).mono ?_); (case side1 => repeat (first | exact HR0.out | (with_reducible refine Kd.C_alloc ?_ _) | (with_reducible refine Kd.C_drewN ?_ _) | (with_reducible refine Kd.C_drew ?_))); (case side2 => exact HC0.out); rintro e w' ⟨rfl, ⟨nd, rfl⟩⟩; refine ⟨_, rfl, ?_⟩))
    go_ret2
    exact ⟨by first | rfl | (simp [errW_none, errW_some] <;> rfl) | (simp [*, errW_none, errW_some] <;> rfl), by repeat (first | (with_reducible first | exact HB.out | apply below_alloc | apply pw_below_drewN | apply below_drew1) | exact HB.out)⟩

/-! ### impl_codeLong: function 59 -/
def impl_codeLong.f (a0 : Int) : Option (Bool) := (impl_in.f a0 1 6).bind fun t284 => (some t284)
set_option maxHeartbeats 8000000 in
set_option maxRecDepth 100000 in
theorem impl_codeLong.calls (a0 : Int) (r : Bool) (w : World) (h : impl_codeLong.f a0 = some r) :
    Calls Tryd.prog 59 #[.int .i64 a0] w fun e w' => e = .returned (.bool r) ∧ Drawn0 w w' := by
  have H : ((impl_in.f a0 1 6).bind fun t284 => (some t284)) = some r := h
  clear h
  replace H := Option.bind_eq_some_iff.mp H
  obtain ⟨t284, A20, H⟩ := H
  replace H : (some t284) = some r := H
  have A2 := Aside0.mk A20
  clear A20
  obtain rfl := Option.some.inj H
  go_enter Tryd.func59, Tryd.ntmps59
  go_wp2_with (first | ((with_reducible refine gate_callee (f := 43) rfl ?_); refine goesL_ (some 4) rfl rfl Tryd.func43 (by kernel_rfl) rfl #[.int .i64 a0, .int .i64 1, .int .i64 6] rfl (by (try simp only [List.map_toArray, List.map_cons, List.map_nil]); first | done | rfl | (simp only [List.length_drop, List.length_take]; rfl)) ?_; (with_reducible refine (impl_in.calls a0 1 6 t284 _ A2.out).mono ?_); rintro e w' ⟨rfl, ⟨nd, rfl⟩⟩; refine ⟨_, rfl, ?_⟩))
  go_ret
  exact ⟨by first | rfl | (simp; done) | (simp [*]; done) | (simp [isEmpty_bne]; done) | (simp [i64_w]; done) | (simp only [i64_w]; done), by repeat (first | exact Drawn0.refl _ | apply Drawn0.step)⟩


/-! ### impl_fits_1: function 91 -/
set_option maxHeartbeats 2000000 in
theorem impl_fits_1.calls (B : Nat) (a1 c : ByteArray) (b : Bool) (W : World) (h0 : W.cell? ⟨B, 0, none⟩ = some (.string a1))
    (h : ((impl_begins.f c a1).bind fun x => if x = true then some true else impl_begins.f a1 c) = some b) :
    Calls Tryd.prog 91 #[.string c, .pointer (some ⟨B, 0, none⟩)] W fun e w' => e = .returned (.bool b) ∧ Below W.heap.size W w' := by
  replace h := Option.bind_eq_some_iff.mp h
  obtain ⟨x, hx, h⟩ := h
  have hcall := fun w => impl_begins.calls c a1 x w hx
  clear hx
  cases x with
  | true =>
    rw [if_pos rfl] at h
    have e := Option.some.inj h
    subst e
    clear h
    go_enter Tryd.func91, Tryd.ntmps91
    go_wp2_with fail
    refine (hcall _).mono ?_
    rintro e w' ⟨rfl, ⟨n, rfl⟩⟩
    clear hcall
    go_wp2
    go_ret
    exact ⟨rfl, pw_below_drewN (Below.refl _ W) _⟩
  | false =>
    rw [if_neg (by simp)] at h
    have hcall2 := fun w => impl_begins.calls a1 c b w h
    clear h
    go_enter Tryd.func91, Tryd.ntmps91
    go_wp2_with fail
    refine (hcall _).mono ?_
    rintro e w' ⟨rfl, ⟨n, rfl⟩⟩
    clear hcall
    have h1 : (W.drewN n).cell? ⟨B, 0, none⟩ = some (.string a1) := h0
    clear h0
    go_wp2_with fail
    refine (hcall2 _).mono ?_
    rintro e w' ⟨rfl, ⟨m, rfl⟩⟩
    clear hcall2
    go_wp2
    go_ret
    exact ⟨rfl, pw_below_drewN (Below.refl _ W) _⟩


/-! ### impl_fits: function 70 -/
def impl_fits.f (l0 : List ByteArray) (a1 : ByteArray) : Option Bool :=
  if l0.length ≤ 140737488355327 then (anyO (fun c => (impl_begins.f c a1).bind fun x => if x = true then some true else impl_begins.f a1 c) l0).bind fun t => some (!t) else none
set_option maxHeartbeats 4000000 in
theorem impl_fits.calls (A0 : Option Addr) (c0 : Nat) (l0 : List ByteArray) (a1 : ByteArray) (r : Bool) (w : World) (hr0 : Kd.C Kd.string w A0 l0.length l0) (hc0 : l0.length ≤ c0) (h : impl_fits.f l0 a1 = some r) :
    Calls Tryd.prog 70 #[.slice A0 l0.length c0, .string a1] w fun e w' => e = .returned (.bool r) ∧ Below w.heap.size w w' := by
  unfold impl_fits.f at h
  split at h
  · rename_i hbig
    replace h := Option.bind_eq_some_iff.mp h
    obtain ⟨t, ht, h⟩ := h
    have e := Option.some.inj h
    subst e
    have hb0 : Below w.heap.size w (w.alloc (.cells #[.string a1] 9)) := (Below.refl _ w).alloc (Nat.le_refl _) _
    have hany := any_string A0 c0 l0 91 #[.pointer (some ⟨w.heap.size, 0, none⟩)] _ (w.alloc (.cells #[.string a1] 9)) t
      (Kd.C_below hr0 hb0) hc0 (by omega) (enters_of Tryd.func91 (by kernel_rfl) rfl)
      (fun W x b hW hx => impl_fits_1.calls w.heap.size a1 x b W ((hW.cell (p := ⟨w.heap.size, 0, none⟩) (by simp)).trans (by simp)) hx) ht
    clear ht hr0 h
    go_enter Tryd.func70, Tryd.ntmps70
    go_wp2_with fail
    refine hany.mono ?_
    rintro e w1 ⟨rfl, hb1⟩
    clear hany
    go_wp2
    go_ret
    exact ⟨rfl, hb0.trans (hb1.mono hb0.size)⟩
  · exact absurd h (by simp)


/-! ### strings_Repeat: function 83 -/
/-- strings.Repeat, where the whole is short -/
def strings_Repeat.f (a0 : ByteArray) (a1 : Int) : Option ByteArray := if 0 ≤ a1 ∧ a1 ≤ 1048576 ∧ a0.size ≤ 1048576 then some ⟨(Lib.repeatL a0.data.toList a1.toNat).toArray⟩ else none
theorem strings_Repeat.calls (a0 : ByteArray) (a1 : Int) (r : ByteArray) (w : World) (h : strings_Repeat.f a0 a1 = some r) :
    Calls Tryd.prog 83 #[.string a0, .int .i64 a1] w fun e w' => e = .returned (.string r) ∧ Below w.heap.size w w' := by
  unfold strings_Repeat.f at h
  split at h
  · rename_i hc
    obtain ⟨n, rfl⟩ := Int.eq_ofNat_of_zero_le hc.1
    have e := Option.some.inj h
    subst e
    have hb : a0.size * n ≤ 1048576 * 1048576 := Nat.mul_le_mul hc.2.2 (by omega)
    exact Tryd.strings_Repeat a0 n w (by omega) (by omega)
  · exact absurd h (by simp)


/-! ### impl_firstFree: function 60 -/
def impl_firstFree.f : Nat → List ByteArray → ByteArray → Int → Option (ByteArray × Bool)
  | 0, _, _, _ => none
  | k + 1, l0, a1, a2 => if l0.length ≤ 1048576 ∧ a1.size ≤ 1048576 ∧ 0 ≤ a2 ∧ a2 ≤ 1048576 then (impl_fits.f l0 a1).bind fun t => if t = true ∧ a1.size ≠ 0 then ((strings_Repeat.f ⟨#[48]⟩ (a2 - (a1.size : Int))).bind fun z => if z.size ≤ 1099511627776 then some (a1 ++ z, true) else none) else if (a1.size : Int) = a2 then some (⟨#[]⟩, false) else (slices_Contains_string_string.f k l0 a1).bind fun c => if c = true then some (⟨#[]⟩, false) else firstO (fun d => impl_firstFree.f k l0 (moreD a1 d) a2) 10 0 else none
theorem impl_firstFree.mono : ∀ a0 a1 a2 k, LeO (impl_firstFree.f k a0 a1 a2) (impl_firstFree.f (k + 1) a0 a1 a2) := by
  intro a0 a1 a2 k
  induction k generalizing a1 with
  | zero => intro r h; simp [impl_firstFree.f] at h
  | succ k ih =>
    unfold impl_firstFree.f
    exact LeO.ite (LeO.bind (LeO.refl _) (fun _ => LeO.ite (LeO.refl _) (LeO.ite (LeO.refl _) (LeO.bind (slices_Contains_string_string.mono _ _ _) (fun _ => LeO.ite (LeO.refl _) (firstO_leO (fun d => ih (moreD a1 d)) 10 0)))))) (LeO.refl _)
theorem ne_size {a : ByteArray} (h : a.size ≠ 0) : a.toList ≠ [] := fun e => h (by rw [Lib.toList_data] at e; show a.data.toList.length = 0; rw [e]; rfl)
theorem nil_size {a : ByteArray} (h : a.size = 0) : a.toList = [] := by rw [Lib.toList_data]; exact List.eq_nil_of_length_eq_zero h
set_option maxHeartbeats 8000000 in
set_option maxRecDepth 100000 in
theorem impl_firstFree.calls (k : Nat) : ∀ (A0 : Option Addr) (c0 : Nat) (l0 : List ByteArray) (a1 : ByteArray) (a2 : Int) (r1 : ByteArray) (r2 : Bool) (w : World) (hr0 : Kd.C Kd.string w A0 l0.length l0) (hc0 : l0.length ≤ c0) (h : impl_firstFree.f k l0 a1 a2 = some (r1, r2)),
    Calls Tryd.prog 60 #[.slice A0 l0.length c0, .string a1, .int .i64 a2] w fun e w' => e = .returned (.tuple #[.string r1, .bool r2]) ∧ Below w.heap.size w w' := by
  induction k with
  | zero => intro A0 c0 l0 a1 a2 r1 r2 w hr0 hc0 h; exact absurd h (by simp [impl_firstFree.f])
  | succ k ih =>
    intro A0 c0 l0 a1 a2 r1 r2 w hr0 hc0 h
    simp only [impl_firstFree.f] at h
    split at h
    · rename_i hb
      obtain ⟨hl, hal, h20, h2m⟩ := hb
      replace h := Option.bind_eq_some_iff.mp h
      obtain ⟨t, ht, h⟩ := h
      have hfit := impl_fits.calls A0 c0 l0 a1 t w hr0 hc0 ht
      have HR := Aside0.mk hr0
      clear ht hr0
      split at h
      · rename_i hc
        obtain ⟨rfl, hz⟩ := hc
        replace h := Option.bind_eq_some_iff.mp h
        obtain ⟨z, hz2, h⟩ := h
        split at h
        · rename_i hzz
          simp only [Option.some.injEq, Prod.mk.injEq] at h
          obtain ⟨rfl, rfl⟩ := h
          have hrep := fun W => strings_Repeat.calls ⟨#[48]⟩ (a2 - (a1.size : Int)) z W hz2
          have n1 : a1.toList ≠ [] := ne_size hz
          have n2 : (a1.toList != []) = true := by simpa using n1
          have n3 : (!a1.toList.isEmpty) = true := by simpa using n1
          have n4 : a1.toList.isEmpty = false := by simpa using n1
          clear hz2 ih hz
          go_enter Tryd.func60, Tryd.ntmps60
          go_wp2_with fail
          refine hfit.mono ?_
          rintro e w1 ⟨rfl, hb1⟩
          clear hfit
          go_wp2_with fail
          refine (hrep _).mono ?_
          rintro e w2 ⟨rfl, hb2⟩
          clear hrep
          go_wp2
          go_ret2
          exact ⟨rfl, hb1.trans (hb2.mono hb1.size)⟩
        · exact absurd h (by simp)
      · rename_i hc
        have htc : t = false ∨ (t = true ∧ a1.size = 0) := by
          cases t with
          | false => exact .inl rfl
          | true => exact .inr ⟨rfl, Classical.byContradiction fun hz => hc ⟨rfl, hz⟩⟩
        clear hc
        by_cases hsz : (a1.size : Int) = a2
        · rw [if_pos hsz] at h
          simp only [Option.some.injEq, Prod.mk.injEq] at h
          obtain ⟨rfl, rfl⟩ := h
          subst hsz
          clear ih
          rcases htc with rfl | ⟨rfl, hz⟩
          · go_enter Tryd.func60, Tryd.ntmps60
            go_wp2_with fail
            refine hfit.mono ?_
            rintro e w1 ⟨rfl, hb1⟩
            clear hfit
            go_wp2
            go_ret2
            exact ⟨rfl, hb1⟩
          · have n1 : a1.toList = [] := nil_size hz
            have n2 : (a1.toList != []) = false := by simp [n1]
            have n3 : (!a1.toList.isEmpty) = false := by simp [n1]
            have n4 : a1.toList.isEmpty = true := by simp [n1]
            clear hz n1
            go_enter Tryd.func60, Tryd.ntmps60
            go_wp2_with fail
            refine hfit.mono ?_
            rintro e w1 ⟨rfl, hb1⟩
            clear hfit
            go_wp2
            go_ret2
            exact ⟨rfl, hb1⟩
        · rw [if_neg hsz] at h
          have hd : ((a1.size : Int) == a2) = false := by rw [beq_eq_false_iff_ne]; exact hsz
          clear hsz
          replace h := Option.bind_eq_some_iff.mp h
          obtain ⟨c, hcc, h⟩ := h
          have hcon := fun (W : World) (hW : Below w.heap.size w W) => slices_Contains_string_string.calls k A0 c0 l0 a1 c W (Kd.C_below HR.out hW) hc0 hcc
          clear hcc
          cases c with
          | true =>
            simp only [if_true, Option.some.injEq, Prod.mk.injEq] at h
            obtain ⟨rfl, rfl⟩ := h
            clear ih
            rcases htc with rfl | ⟨rfl, hz⟩
            · go_enter Tryd.func60, Tryd.ntmps60
              go_wp2_with fail
              refine hfit.mono ?_
              rintro e w1 ⟨rfl, hb1⟩
              have hcall := hcon _ hb1
              clear hfit hcon
              go_wp2_with fail
              refine hcall.mono ?_
              rintro e w2 ⟨rfl, ⟨n, rfl⟩⟩
              clear hcall
              go_wp2
              go_ret2
              exact ⟨rfl, pw_below_drewN hb1 _⟩
            · have n1 : a1.toList = [] := nil_size hz
              have n2 : (a1.toList != []) = false := by simp [n1]
              have n3 : (!a1.toList.isEmpty) = false := by simp [n1]
              have n4 : a1.toList.isEmpty = true := by simp [n1]
              clear hz n1
              go_enter Tryd.func60, Tryd.ntmps60
              go_wp2_with fail
              refine hfit.mono ?_
              rintro e w1 ⟨rfl, hb1⟩
              have hcall := hcon _ hb1
              clear hfit hcon
              go_wp2_with fail
              refine hcall.mono ?_
              rintro e w2 ⟨rfl, ⟨n, rfl⟩⟩
              clear hcall
              go_wp2
              go_ret2
              exact ⟨rfl, pw_below_drewN hb1 _⟩
          | false =>
            rw [if_neg (by simp)] at h
            have H := Aside0.mk h
            have IH := Aside0.mk ih
            clear h ih
            rcases htc with rfl | ⟨rfl, hz⟩
            · go_enter Tryd.func60, Tryd.ntmps60
              go_wp2_with fail
              refine hfit.mono ?_
              rintro e w1 ⟨rfl, hb1⟩
              have hcall := hcon _ hb1
              clear hfit hcon
              go_wp2_with fail
              refine hcall.mono ?_
              rintro e w2 ⟨rfl, ⟨n, rfl⟩⟩
              have hb4 := pw_below_drewN hb1 n
              clear hcall
              generalize w1.drewN n = w3 at hb4
              go_wp2
              have hI0 : w.heap.size ≤ w3.heap.size := hb4.size
              have hbI : Below w.heap.size w (w3.iter digS 0) := hb4.alloc hb4.size _
              have hit0 : (w3.iter digS 0).heap[w3.heap.size]? = some (.stringIter digS 0) := by simp [World.iter_heap]
              generalize hI : w3.heap.size = it at hit0 hI0
              go_loopw [8] (fun v8 wr => ∃ (d : Nat), d ≤ 10 ∧ Aside0 (wr.heap[it]? = some (.stringIter digS d)) ∧ Aside0 (Below w.heap.size w wr) ∧ Aside0 (firstO (fun d => impl_firstFree.f k l0 (moreD a1 d) a2) (10 - d) d = some (r1, r2)))
                (fun _ wr => 10 - wr.iterPos it)
              case atStart => exact ⟨0, by omega, ⟨hit0⟩, ⟨hbI⟩, H⟩
              case round =>
                obtain ⟨d, hd10, HT, HB, HF⟩ := hrel
                have hpos : wr.iterPos it = d := by unfold World.iterPos; rw [HT.out]
                have HP := Aside0.mk hpos
                clear hpos hit0 hbI H
                by_cases hlt : d < 10
                · have hf := HF.out
                  rw [show 10 - d = (10 - (d + 1)) + 1 by omega] at hf
                  simp only [firstO] at hf
                  replace hf := Option.bind_eq_some_iff.mp hf
                  obtain ⟨⟨q1, q2⟩, hq, hf⟩ := hf
                  have hrec := fun (W : World) (hW : Below w.heap.size w W) => IH.out A0 c0 l0 (moreD a1 d) a2 q1 q2 W (Kd.C_below HR.out hW) hc0 hq
                  have ha : ∀ q : Fin 10, (digS[q.val]'(by have := q.isLt; show q.val < 10; omega)).toNat < 128 := by decide
                  have hnx : ∀ ty, (Instr.next (.pointer (some ⟨it, 0, none⟩)) true ty).run Tryd.prog wr = _ := fun ty => Go.Lib.run_next_ascii_at wr it digS d ty HT.out hlt (ha ⟨d, hlt⟩)
                  have hw : wrap64 ((d : Int) + 1) = (d : Int) + 1 := by unfold wrap64; omega
                  have d11 : ((d : Int) ≤ (d : Int) + 1) = True := eq_true (by omega)
                  have d12 : ((d : Int) + 1 ≤ 10) = True := eq_true (by omega)
                  have HB2 := Aside0.mk (below_iterAt (it := it) (pos := d + 1) (s := digS) HB.out hI0)
                  have HT2 := Aside0.mk (Go.Lib.iterAt_heap wr it digS d (d + 1) HT.out)
                  have hcall := hrec _ HB2.out
                  have HF2 := Aside0.mk hf
                  clear ha HF hq hf hrec HB
                  cases q2 with
                  | true =>
                    go_wp2_with fail
                    refine hcall.mono ?_
                    rintro e w5 ⟨rfl, hb5⟩
                    clear hcall
                    go_wp2
                    go_ret2
                    have e := HF2.out
                    simp only [if_true, Option.some.injEq, Prod.mk.injEq] at e
                    obtain ⟨rfl, rfl⟩ := e
                    exact ⟨rfl, HB2.out.trans (hb5.mono HB2.out.size)⟩
                  | false =>
                    go_wp2_with fail
                    refine hcall.mono ?_
                    rintro e w5 ⟨rfl, hb5⟩
                    clear hcall
                    have hlt2 : it < (wr.iterAt it digS (d + 1)).heap.size := (Array.getElem?_eq_some_iff.1 HT2.out).1
                    have hit2 : w5.heap[it]? = some (.stringIter digS (d + 1)) := (hb5.block it hlt2).trans HT2.out
                    have hpos2 : w5.iterPos it = d + 1 := by unfold World.iterPos; rw [hit2]
                    have HI2 := Aside0.mk hit2
                    have HP2 := Aside0.mk hpos2
                    clear hit2 hpos2
                    go_wp2
                    go_roundw
                    case rel => exact ⟨d + 1, by omega, HI2, ⟨HB2.out.trans (hb5.mono HB2.out.size)⟩, ⟨by have := HF2.out; simpa using this⟩⟩
                    case measure => rw [HP2.out, HP.out]; omega
                · have hdd : d = 10 := by omega
                  subst hdd
                  have hnx : ∀ ty, (Instr.next (.pointer (some ⟨it, 0, none⟩)) true ty).run Tryd.prog wr = _ := fun ty => Go.Lib.run_next_end_at wr it digS 10 ty HT.out (by decide)
                  go_wp2
                  go_ret2
                  have e := HF.out
                  simp only [Nat.sub_self, firstO, Option.some.injEq, Prod.mk.injEq] at e
                  obtain ⟨rfl, rfl⟩ := e
                  exact ⟨rfl, HB.out⟩
            · have n1 : a1.toList = [] := nil_size hz
              have n2 : (a1.toList != []) = false := by simp [n1]
              have n3 : (!a1.toList.isEmpty) = false := by simp [n1]
              have n4 : a1.toList.isEmpty = true := by simp [n1]
              clear hz n1
              go_enter Tryd.func60, Tryd.ntmps60
              go_wp2_with fail
              refine hfit.mono ?_
              rintro e w1 ⟨rfl, hb1⟩
              have hcall := hcon _ hb1
              clear hfit hcon
              go_wp2_with fail
              refine hcall.mono ?_
              rintro e w2 ⟨rfl, ⟨n, rfl⟩⟩
              have hb4 := pw_below_drewN hb1 n
              clear hcall
              generalize w1.drewN n = w3 at hb4
              go_wp2
              have hI0 : w.heap.size ≤ w3.heap.size := hb4.size
              have hbI : Below w.heap.size w (w3.iter digS 0) := hb4.alloc hb4.size _
              have hit0 : (w3.iter digS 0).heap[w3.heap.size]? = some (.stringIter digS 0) := by simp [World.iter_heap]
              generalize hI : w3.heap.size = it at hit0 hI0
              go_loopw [8] (fun v8 wr => ∃ (d : Nat), d ≤ 10 ∧ Aside0 (wr.heap[it]? = some (.stringIter digS d)) ∧ Aside0 (Below w.heap.size w wr) ∧ Aside0 (firstO (fun d => impl_firstFree.f k l0 (moreD a1 d) a2) (10 - d) d = some (r1, r2)))
                (fun _ wr => 10 - wr.iterPos it)
              case atStart => exact ⟨0, by omega, ⟨hit0⟩, ⟨hbI⟩, H⟩
              case round =>
                obtain ⟨d, hd10, HT, HB, HF⟩ := hrel
                have hpos : wr.iterPos it = d := by unfold World.iterPos; rw [HT.out]
                have HP := Aside0.mk hpos
                clear hpos hit0 hbI H
                by_cases hlt : d < 10
                · have hf := HF.out
                  rw [show 10 - d = (10 - (d + 1)) + 1 by omega] at hf
                  simp only [firstO] at hf
                  replace hf := Option.bind_eq_some_iff.mp hf
                  obtain ⟨⟨q1, q2⟩, hq, hf⟩ := hf
                  have hrec := fun (W : World) (hW : Below w.heap.size w W) => IH.out A0 c0 l0 (moreD a1 d) a2 q1 q2 W (Kd.C_below HR.out hW) hc0 hq
                  have ha : ∀ q : Fin 10, (digS[q.val]'(by have := q.isLt; show q.val < 10; omega)).toNat < 128 := by decide
                  have hnx : ∀ ty, (Instr.next (.pointer (some ⟨it, 0, none⟩)) true ty).run Tryd.prog wr = _ := fun ty => Go.Lib.run_next_ascii_at wr it digS d ty HT.out hlt (ha ⟨d, hlt⟩)
                  have hw : wrap64 ((d : Int) + 1) = (d : Int) + 1 := by unfold wrap64; omega
                  have d11 : ((d : Int) ≤ (d : Int) + 1) = True := eq_true (by omega)
                  have d12 : ((d : Int) + 1 ≤ 10) = True := eq_true (by omega)
                  have HB2 := Aside0.mk (below_iterAt (it := it) (pos := d + 1) (s := digS) HB.out hI0)
                  have HT2 := Aside0.mk (Go.Lib.iterAt_heap wr it digS d (d + 1) HT.out)
                  have hcall := hrec _ HB2.out
                  have HF2 := Aside0.mk hf
                  clear ha HF hq hf hrec HB
                  cases q2 with
                  | true =>
                    go_wp2_with fail
                    refine hcall.mono ?_
                    rintro e w5 ⟨rfl, hb5⟩
                    clear hcall
                    go_wp2
                    go_ret2
                    have e := HF2.out
                    simp only [if_true, Option.some.injEq, Prod.mk.injEq] at e
                    obtain ⟨rfl, rfl⟩ := e
                    exact ⟨rfl, HB2.out.trans (hb5.mono HB2.out.size)⟩
                  | false =>
                    go_wp2_with fail
                    refine hcall.mono ?_
                    rintro e w5 ⟨rfl, hb5⟩
                    clear hcall
                    have hlt2 : it < (wr.iterAt it digS (d + 1)).heap.size := (Array.getElem?_eq_some_iff.1 HT2.out).1
                    have hit2 : w5.heap[it]? = some (.stringIter digS (d + 1)) := (hb5.block it hlt2).trans HT2.out
                    have hpos2 : w5.iterPos it = d + 1 := by unfold World.iterPos; rw [hit2]
                    have HI2 := Aside0.mk hit2
                    have HP2 := Aside0.mk hpos2
                    clear hit2 hpos2
                    go_wp2
                    go_roundw
                    case rel => exact ⟨d + 1, by omega, HI2, ⟨HB2.out.trans (hb5.mono HB2.out.size)⟩, ⟨by have := HF2.out; simpa using this⟩⟩
                    case measure => rw [HP2.out, HP.out]; omega
                · have hdd : d = 10 := by omega
                  subst hdd
                  have hnx : ∀ ty, (Instr.next (.pointer (some ⟨it, 0, none⟩)) true ty).run Tryd.prog wr = _ := fun ty => Go.Lib.run_next_end_at wr it digS 10 ty HT.out (by decide)
                  go_wp2
                  go_ret2
                  have e := HF.out
                  simp only [Nat.sub_self, firstO, Option.some.injEq, Prod.mk.injEq] at e
                  obtain ⟨rfl, rfl⟩ := e
                  exact ⟨rfl, HB.out⟩
    · exact absurd h (by simp)

/-! ### impl_FirstFreeCode: function 27 -/
def impl_FirstFreeCode.f (k : Nat) (l0 : List ByteArray) (a1 : Int) : Option (ByteArray × Bool) := (impl_IsCodePlan.f k l0).bind fun t285 => (if t285 = true then ((impl_codeLong.f a1).bind fun t286 => (if t286 = true then ((impl_firstFree.f k l0 (⟨#[]⟩ : ByteArray) a1).bind fun bt287 => (some (bt287.1, bt287.2))) else (some ((⟨#[]⟩ : ByteArray), false)))) else (some ((⟨#[]⟩ : ByteArray), false)))
theorem impl_FirstFreeCode.mono : ∀ a0 a1 k, LeO (impl_FirstFreeCode.f k a0 a1) (impl_FirstFreeCode.f (k + 1) a0 a1) := by
  intro a0 a1 k
  unfold impl_FirstFreeCode.f
  repeat' first
      | (with_reducible exact impl_IsCodePlan.mono _ _)
      | (with_reducible exact impl_firstFree.mono _ _ _ _)
      | (with_reducible exact LeO.refl _)
      | (with_reducible exact LeO.none _)
      | (with_reducible refine LeO.ite ?_ ?_)
      | (with_reducible refine LeO.bind ?_ (fun _ => ?_))
      | exact impl_IsCodePlan.mono _ _
      | exact impl_firstFree.mono _ _ _ _
      | exact LeO.none _
      | refine LeO.ite ?_ ?_
      | refine LeO.bind ?_ (fun _ => ?_)
set_option maxHeartbeats 8000000 in
set_option maxRecDepth 100000 in
theorem impl_FirstFreeCode.calls (k : Nat) (A0 : Option Addr) (c0 : Nat) (l0 : List ByteArray) (a1 : Int) (r1 : ByteArray) (r2 : Bool) (w : World) (hr0 : Kd.C Kd.string w A0 l0.length l0) (hc0 : l0.length ≤ c0) (h : impl_FirstFreeCode.f k l0 a1 = some (r1, r2)) :
    Calls Tryd.prog 27 #[.slice A0 l0.length c0, .int .i64 a1] w fun e w' => e = .returned (.tuple #[.string r1, .bool r2]) ∧ Below w.heap.size w w' := by
  have HR0 := Aside0.mk hr0
  have HC0 := Aside0.mk hc0
  clear hr0 hc0
  have HB := Aside0.mk (Below.refl w.heap.size w)
  have H : ((impl_IsCodePlan.f k l0).bind fun t285 => (if t285 = true then ((impl_codeLong.f a1).bind fun t286 => (if t286 = true then ((impl_firstFree.f k l0 (⟨#[]⟩ : ByteArray) a1).bind fun bt287 => (some (bt287.1, bt287.2))) else (some ((⟨#[]⟩ : ByteArray), false)))) else (some ((⟨#[]⟩ : ByteArray), false)))) = some (r1, r2) := h
  clear h
  replace H := Option.bind_eq_some_iff.mp H
  obtain ⟨t285, A30, H⟩ := H
  replace H : (if t285 = true then ((impl_codeLong.f a1).bind fun t286 => (if t286 = true then ((impl_firstFree.f k l0 (⟨#[]⟩ : ByteArray) a1).bind fun bt287 => (some (bt287.1, bt287.2))) else (some ((⟨#[]⟩ : ByteArray), false)))) else (some ((⟨#[]⟩ : ByteArray), false))) = some (r1, r2) := H
  have A3 := Aside0.mk A30
  clear A30
  by_cases c4 : t285 = true
  · subst c4
    have H1 : ((impl_codeLong.f a1).bind fun t286 => (if t286 = true then ((impl_firstFree.f k l0 (⟨#[]⟩ : ByteArray) a1).bind fun bt287 => (some (bt287.1, bt287.2))) else (some ((⟨#[]⟩ : ByteArray), false)))) = some (r1, r2) := by rw [if_pos rfl] at H; exact H
    clear H
    have H := H1
    clear H1
    replace H := Option.bind_eq_some_iff.mp H
    obtain ⟨t286, A50, H⟩ := H
    replace H : (if t286 = true then ((impl_firstFree.f k l0 (⟨#[]⟩ : ByteArray) a1).bind fun bt287 => (some (bt287.1, bt287.2))) else (some ((⟨#[]⟩ : ByteArray), false))) = some (r1, r2) := H
    have A5 := Aside0.mk A50
    clear A50
    by_cases c6 : t286 = true
    · subst c6
      have H1 : ((impl_firstFree.f k l0 (⟨#[]⟩ : ByteArray) a1).bind fun bt287 => (some (bt287.1, bt287.2))) = some (r1, r2) := by rw [if_pos rfl] at H; exact H
      clear H
      have H := H1
      clear H1
      replace H := Option.bind_eq_some_iff.mp H
      obtain ⟨⟨t287, t288⟩, A70, H⟩ := H
      replace H : (some (t287, t288)) = some (r1, r2) := H
      have A7 := Aside0.mk A70
      clear A70
      simp only [Option.some.injEq, Prod.mk.injEq] at H
      obtain ⟨rfl, rfl⟩ := H
      go_enter Tryd.func27, Tryd.ntmps27
      go_wp2_with (first | ((with_reducible refine gate_callee (f := 50) rfl ?_); refine goesL_ (some 7) rfl rfl Tryd.func50 (by kernel_rfl) rfl #[.slice A0 l0.length c0] rfl (by (try simp only [List.map_toArray, List.map_cons, List.map_nil]); first | done | rfl | (simp only [List.length_drop, List.length_take]; rfl)) ?_; (with_reducible refine (impl_IsCodePlan.calls k _ _ l0 true _ ?side1 ?side2 A3.out).mono ?_); (case side1 => repeat (first | exact HR0.out | (with_reducible refine Kd.C_alloc ?_ _) | (with_reducible refine Kd.C_drewN ?_ _) | (with_reducible refine Kd.C_drew ?_))); (case side2 => exact HC0.out); rintro e w8 ⟨rfl, hb⟩; refine ⟨_, rfl, ?_⟩; have n0_ := Aside0.mk (below_step (by repeat (first | (with_reducible first | exact HB.out | apply below_alloc | apply pw_below_drewN | apply below_drew1) | exact HB.out)) hb); clear HB; have HB := n0_; clear n0_; (try clear hb); (try clear hb2); (try clear hk); (try clear hi)) | (go_at_call 59; (with_reducible refine (impl_codeLong.calls a1 true _ A5.out).mono ?_); rintro e w' ⟨rfl, ⟨nd, rfl⟩⟩) | ((with_reducible refine gate_callee (f := 60) rfl ?_); refine goesL_ (some 16) rfl rfl Tryd.func60 (by kernel_rfl) rfl #[.slice A0 l0.length c0, .string (⟨#[]⟩ : ByteArray), .int .i64 a1] rfl (by (try simp only [List.map_toArray, List.map_cons, List.map_nil]); first | done | rfl | (simp only [List.length_drop, List.length_take]; rfl)) ?_; (with_reducible refine (impl_firstFree.calls k _ _ l0 (⟨#[]⟩ : ByteArray) a1 t287 t288 _ ?side1 ?side2 A7.out).mono ?_); (case side1 => repeat (first | exact (Kd.C_below HR0.out (by repeat (first | (with_reducible first | exact HB.out | apply below_alloc | apply pw_below_drewN | apply below_drew1) | exact HB.out))) | (with_reducible refine Kd.C_alloc ?_ _) | (with_reducible refine Kd.C_drewN ?_ _) | (with_reducible refine Kd.C_drew ?_))); (case side2 => exact HC0.out); rintro e w9 ⟨rfl, hb⟩; refine ⟨_, rfl, ?_⟩; have n0_ := Aside0.mk (below_step (by repeat (first | (with_reducible first | exact HB.out | apply below_alloc | apply pw_below_drewN | apply below_drew1) | exact HB.out)) hb); clear HB; have HB := n0_; clear n0_; (try clear hb); (try clear hb2); (try clear hk); (try clear hi)))
      go_ret2
      exact ⟨by first | rfl | (simp [errW_none, errW_some] <;> rfl) | (simp [*, errW_none, errW_some] <;> rfl), by repeat (first | (with_reducible first | exact HB.out | apply below_alloc | apply pw_below_drewN | apply below_drew1) | exact HB.out)⟩
    · replace c6 := Bool.eq_false_iff.mpr c6
      subst c6
      have H1 : (some ((⟨#[]⟩ : ByteArray), false)) = some (r1, r2) := by rw [if_neg (show ¬ (false = true) by decide)] at H; exact H
      clear H
      have H := H1
      clear H1
      simp only [Option.some.injEq, Prod.mk.injEq] at H
      obtain ⟨rfl, rfl⟩ := H
      go_enter Tryd.func27, Tryd.ntmps27
      go_wp2_with (first | ((with_reducible refine gate_callee (f := 50) rfl ?_); refine goesL_ (some 7) rfl rfl Tryd.func50 (by kernel_rfl) rfl #[.slice A0 l0.length c0] rfl (by (try simp only [List.map_toArray, List.map_cons, List.map_nil]); first | done | rfl | (simp only [List.length_drop, List.length_take]; rfl)) ?_; (with_reducible refine (impl_IsCodePlan.calls k _ _ l0 true _ ?side1 ?side2 A3.out).mono ?_); (case side1 => repeat (first | exact HR0.out | (with_reducible refine Kd.C_alloc ?_ _) | (with_reducible refine Kd.C_drewN ?_ _) | (with_reducible refine Kd.C_drew ?_))); (case side2 => exact HC0.out); rintro e w10 ⟨rfl, hb⟩; refine ⟨_, rfl, ?_⟩; have n0_ := Aside0.mk (below_step (by repeat (first | (with_reducible first | exact HB.out | apply below_alloc | apply pw_below_drewN | apply below_drew1) | exact HB.out)) hb); clear HB; have HB := n0_; clear n0_; (try clear hb); (try clear hb2); (try clear hk); (try clear hi)) | (go_at_call 59; (with_reducible refine (impl_codeLong.calls a1 false _ A5.out).mono ?_); rintro e w' ⟨rfl, ⟨nd, rfl⟩⟩))
      go_ret2
      exact ⟨by first | rfl | (simp [errW_none, errW_some] <;> rfl) | (simp [*, errW_none, errW_some] <;> rfl), by repeat (first | (with_reducible first | exact HB.out | apply below_alloc | apply pw_below_drewN | apply below_drew1) | exact HB.out)⟩
  · replace c4 := Bool.eq_false_iff.mpr c4
    subst c4
    have H1 : (some ((⟨#[]⟩ : ByteArray), false)) = some (r1, r2) := by rw [if_neg (show ¬ (false = true) by decide)] at H; exact H
    clear H
    have H := H1
    clear H1
    simp only [Option.some.injEq, Prod.mk.injEq] at H
    obtain ⟨rfl, rfl⟩ := H
    go_enter Tryd.func27, Tryd.ntmps27
    go_wp2_with (first | ((with_reducible refine gate_callee (f := 50) rfl ?_); refine goesL_ (some 7) rfl rfl Tryd.func50 (by kernel_rfl) rfl #[.slice A0 l0.length c0] rfl (by (try simp only [List.map_toArray, List.map_cons, List.map_nil]); first | done | rfl | (simp only [List.length_drop, List.length_take]; rfl)) ?_; (with_reducible refine (impl_IsCodePlan.calls k _ _ l0 false _ ?side1 ?side2 A3.out).mono ?_); (case side1 => repeat (first | exact HR0.out | (with_reducible refine Kd.C_alloc ?_ _) | (with_reducible refine Kd.C_drewN ?_ _) | (with_reducible refine Kd.C_drew ?_))); (case side2 => exact HC0.out); rintro e w11 ⟨rfl, hb⟩; refine ⟨_, rfl, ?_⟩; have n0_ := Aside0.mk (below_step (by repeat (first | (with_reducible first | exact HB.out | apply below_alloc | apply pw_below_drewN | apply below_drew1) | exact HB.out)) hb); clear HB; have HB := n0_; clear n0_; (try clear hb); (try clear hb2); (try clear hk); (try clear hi)))
    go_ret2
    exact ⟨by first | rfl | (simp [errW_none, errW_some] <;> rfl) | (simp [*, errW_none, errW_some] <;> rfl), by repeat (first | (with_reducible first | exact HB.out | apply below_alloc | apply pw_below_drewN | apply below_drew1) | exact HB.out)⟩

/-! ### laws_FnExactFirstFreeCode: function 6 -/
def laws_FnExactFirstFreeCode.j0 : Nat → List ByteArray → List ByteArray → Bool → Option (Bool)
  | 0, _, _, _ => none
  | k + 1, x0, x8, x38 => if x38 = true then (some false) else ((laws_toStringS.f k x0).bind fun t300 => ((laws_eqStringS.f k x8 t300).bind fun t303 => (if t303 = true then (some true) else (some false))))
def laws_FnExactFirstFreeCode.f (k : Nat) (l0 : List ByteArray) (a1 : Int) : Option (Bool) := (laws_szStringS.f k l0 1048576).bind fun t289 => (if t289 < 0 then (some true) else ((laws_toStringS.f k l0).bind fun t290 => ((spec_FirstFreeCode.f k t290 a1).bind fun bt293 => ((laws_toStringS.f k l0).bind fun t295 => ((impl_FirstFreeCode.f k t295 a1).bind fun bt298 => (if bt298.1.toList = bt293.1.toList then (laws_FnExactFirstFreeCode.j0 k l0 t295 (bt298.2 != bt293.2)) else (laws_FnExactFirstFreeCode.j0 k l0 t295 true)))))))
theorem laws_FnExactFirstFreeCode.mono_l : ∀ k, (∀ y0 y1 y2, LeO (laws_FnExactFirstFreeCode.j0 k y0 y1 y2) (laws_FnExactFirstFreeCode.j0 (k + 1) y0 y1 y2))
  | 0 => fun _ _ _ r h => by simp [laws_FnExactFirstFreeCode.j0] at h
  | k + 1 => by
    have ih0 := laws_FnExactFirstFreeCode.mono_l k
    · intro y0 y1 y2
      unfold laws_FnExactFirstFreeCode.j0
      repeat' first
      | (with_reducible exact ih0 _ _ _)
      | (with_reducible exact impl_FirstFreeCode.mono _ _ _)
      | (with_reducible exact laws_eqStringS.mono _ _ _)
      | (with_reducible exact laws_szStringS.mono _ _ _)
      | (with_reducible exact laws_toStringS.mono _ _)
      | (with_reducible exact spec_FirstFreeCode.mono _ _ _)
      | (with_reducible exact LeO.refl _)
      | (with_reducible exact LeO.none _)
      | (with_reducible refine LeO.ite ?_ ?_)
      | (with_reducible refine LeO.bind ?_ (fun _ => ?_))
      | exact ih0 _ _ _
      | exact impl_FirstFreeCode.mono _ _ _
      | exact laws_eqStringS.mono _ _ _
      | exact laws_szStringS.mono _ _ _
      | exact laws_toStringS.mono _ _
      | exact spec_FirstFreeCode.mono _ _ _
      | exact LeO.none _
      | refine LeO.ite ?_ ?_
      | refine LeO.bind ?_ (fun _ => ?_)
theorem laws_FnExactFirstFreeCode.mono : ∀ a0 a1 k, LeO (laws_FnExactFirstFreeCode.f k a0 a1) (laws_FnExactFirstFreeCode.f (k + 1) a0 a1) := by
  intro a0 a1 k
  have ih0 := laws_FnExactFirstFreeCode.mono_l k
  unfold laws_FnExactFirstFreeCode.f
  repeat' first
      | (with_reducible exact ih0 _ _ _)
      | (with_reducible exact impl_FirstFreeCode.mono _ _ _)
      | (with_reducible exact laws_eqStringS.mono _ _ _)
      | (with_reducible exact laws_szStringS.mono _ _ _)
      | (with_reducible exact laws_toStringS.mono _ _)
      | (with_reducible exact spec_FirstFreeCode.mono _ _ _)
      | (with_reducible exact LeO.refl _)
      | (with_reducible exact LeO.none _)
      | (with_reducible refine LeO.ite ?_ ?_)
      | (with_reducible refine LeO.bind ?_ (fun _ => ?_))
      | exact ih0 _ _ _
      | exact impl_FirstFreeCode.mono _ _ _
      | exact laws_eqStringS.mono _ _ _
      | exact laws_szStringS.mono _ _ _
      | exact laws_toStringS.mono _ _
      | exact spec_FirstFreeCode.mono _ _ _
      | exact LeO.none _
      | refine LeO.ite ?_ ?_
      | refine LeO.bind ?_ (fun _ => ?_)
set_option maxHeartbeats 8000000 in
set_option maxRecDepth 100000 in
theorem laws_FnExactFirstFreeCode.calls (k : Nat) (A0 : Option Addr) (c0 : Nat) (l0 : List ByteArray) (a1 : Int) (r : Bool) (w : World) (hr0 : Kd.C Kd.string w A0 l0.length l0) (hc0 : l0.length ≤ c0) (h : laws_FnExactFirstFreeCode.f k l0 a1 = some r) :
    Calls Tryd.prog 6 #[.slice A0 l0.length c0, .int .i64 a1] w fun e w' => e = .returned (.bool r) ∧ Below w.heap.size w w' := by
  have HR0 := Aside0.mk hr0
  have HC0 := Aside0.mk hc0
  clear hr0 hc0
  have HB := Aside0.mk (Below.refl w.heap.size w)
  have H : ((laws_szStringS.f k l0 1048576).bind fun t289 => (if t289 < 0 then (some true) else ((laws_toStringS.f k l0).bind fun t290 => ((spec_FirstFreeCode.f k t290 a1).bind fun bt293 => ((laws_toStringS.f k l0).bind fun t295 => ((impl_FirstFreeCode.f k t295 a1).bind fun bt298 => (if bt298.1.toList = bt293.1.toList then (laws_FnExactFirstFreeCode.j0 k l0 t295 (bt298.2 != bt293.2)) else (laws_FnExactFirstFreeCode.j0 k l0 t295 true)))))))) = some r := h
  clear h
  replace H := Option.bind_eq_some_iff.mp H
  obtain ⟨t289, A30, H⟩ := H
  replace H : (if t289 < 0 then (some true) else ((laws_toStringS.f k l0).bind fun t290 => ((spec_FirstFreeCode.f k t290 a1).bind fun bt293 => ((laws_toStringS.f k l0).bind fun t295 => ((impl_FirstFreeCode.f k t295 a1).bind fun bt298 => (if bt298.1.toList = bt293.1.toList then (laws_FnExactFirstFreeCode.j0 k l0 t295 (bt298.2 != bt293.2)) else (laws_FnExactFirstFreeCode.j0 k l0 t295 true))))))) = some r := H
  have A3 := Aside0.mk A30
  clear A30
  by_cases c4 : t289 < 0
  · rw [if_pos c4] at H
    have c4b0 : decide (t289 < 0) = true := decide_eq_true c4
    clear c4
    obtain rfl := Option.some.inj H
    go_enter Tryd.func6, Tryd.ntmps6
    go_wp2_with (first | ((with_reducible refine gate_callee (f := 12) rfl ?_); refine goesL_ (some 13) rfl rfl Tryd.func12 (by kernel_rfl) rfl #[.slice A0 l0.length c0, .int .i64 1048576] rfl (by (try simp only [List.map_toArray, List.map_cons, List.map_nil]); first | done | rfl | (simp only [List.length_drop, List.length_take]; rfl)) ?_; (with_reducible refine (laws_szStringS.calls k _ _ l0 1048576 t289 _ ?side1 ?side2 A3.out).mono ?_); (case side1 => repeat (first | exact HR0.out | (with_reducible refine Kd.C_alloc ?_ _) | (with_reducible refine Kd.C_drewN ?_ _) | (with_reducible refine Kd.C_drew ?_))); (case side2 => exact HC0.out); rintro e w' ⟨rfl, ⟨nd, rfl⟩⟩; refine ⟨_, rfl, ?_⟩))
    go_ret
    exact ⟨by first | rfl | (simp [errW_none, errW_some] <;> rfl) | (simp [*, errW_none, errW_some] <;> rfl), by repeat (first | (with_reducible first | exact HB.out | apply below_alloc | apply pw_below_drewN | apply below_drew1) | exact HB.out)⟩
  · rw [if_neg c4] at H
    have c4b0 : decide (t289 < 0) = false := decide_eq_false c4
    clear c4
    replace H := Option.bind_eq_some_iff.mp H
    obtain ⟨t290, A50, H⟩ := H
    replace H : ((spec_FirstFreeCode.f k t290 a1).bind fun bt293 => ((laws_toStringS.f k l0).bind fun t295 => ((impl_FirstFreeCode.f k t295 a1).bind fun bt298 => (if bt298.1.toList = bt293.1.toList then (laws_FnExactFirstFreeCode.j0 k l0 t295 (bt298.2 != bt293.2)) else (laws_FnExactFirstFreeCode.j0 k l0 t295 true))))) = some r := H
    have A5 := Aside0.mk A50
    clear A50
    replace H := Option.bind_eq_some_iff.mp H
    obtain ⟨⟨t293, t294⟩, A60, H⟩ := H
    replace H : ((laws_toStringS.f k l0).bind fun t295 => ((impl_FirstFreeCode.f k t295 a1).bind fun bt298 => (if bt298.1.toList = t293.toList then (laws_FnExactFirstFreeCode.j0 k l0 t295 (bt298.2 != t294)) else (laws_FnExactFirstFreeCode.j0 k l0 t295 true)))) = some r := H
    have A6 := Aside0.mk A60
    clear A60
    replace H := Option.bind_eq_some_iff.mp H
    obtain ⟨t295, A70, H⟩ := H
    replace H : ((impl_FirstFreeCode.f k t295 a1).bind fun bt298 => (if bt298.1.toList = t293.toList then (laws_FnExactFirstFreeCode.j0 k l0 t295 (bt298.2 != t294)) else (laws_FnExactFirstFreeCode.j0 k l0 t295 true))) = some r := H
    have A7 := Aside0.mk A70
    clear A70
    replace H := Option.bind_eq_some_iff.mp H
    obtain ⟨⟨t298, t299⟩, A80, H⟩ := H
    replace H : (if t298.toList = t293.toList then (laws_FnExactFirstFreeCode.j0 k l0 t295 (t299 != t294)) else (laws_FnExactFirstFreeCode.j0 k l0 t295 true)) = some r := H
    have A8 := Aside0.mk A80
    clear A80
    have HC9 := Aside0.mk H
    clear H
    go_enter Tryd.func6, Tryd.ntmps6
    go_upto_region 8 with (first | ((with_reducible refine gate_callee (f := 12) rfl ?_); refine goesL_ (some 13) rfl rfl Tryd.func12 (by kernel_rfl) rfl #[.slice A0 l0.length c0, .int .i64 1048576] rfl (by (try simp only [List.map_toArray, List.map_cons, List.map_nil]); first | done | rfl | (simp only [List.length_drop, List.length_take]; rfl)) ?_; (with_reducible refine (laws_szStringS.calls k _ _ l0 1048576 t289 _ ?side1 ?side2 A3.out).mono ?_); (case side1 => repeat (first | exact HR0.out | (with_reducible refine Kd.C_alloc ?_ _) | (with_reducible refine Kd.C_drewN ?_ _) | (with_reducible refine Kd.C_drew ?_))); (case side2 => exact HC0.out); rintro e w' ⟨rfl, ⟨nd, rfl⟩⟩; refine ⟨_, rfl, ?_⟩) | ((with_reducible refine gate_callee (f := 14) rfl ?_); refine goesL_ (some 18) rfl rfl Tryd.func14 (by kernel_rfl) rfl #[.slice A0 l0.length c0] rfl (by (try simp only [List.map_toArray, List.map_cons, List.map_nil]); first | done | rfl | (simp only [List.length_drop, List.length_take]; rfl)) ?_; (with_reducible refine (laws_toStringS.calls k _ _ l0 t290 _ ?side1 ?side2 A5.out).mono ?_); (case side1 => repeat (first | exact HR0.out | (with_reducible refine Kd.C_alloc ?_ _) | (with_reducible refine Kd.C_drewN ?_ _) | (with_reducible refine Kd.C_drew ?_))); (case side2 => exact HC0.out); rintro e w10 ⟨v291, rfl, ho0, hb⟩; refine ⟨_, rfl, ?_⟩; have n0_ := Aside0.mk (Kd.R_lower ho0 (below_size (by repeat (first | (with_reducible first | exact HB.out | apply below_alloc | apply pw_below_drewN | apply below_drew1) | exact HB.out)))); have n1_ := Aside0.mk (below_step (by repeat (first | (with_reducible first | exact HB.out | apply below_alloc | apply pw_below_drewN | apply below_drew1) | exact HB.out)) hb); clear HB; have HO292 := n0_; have HB := n1_; clear n0_ n1_; (try clear hb); (try clear hb2); (try clear hk); (try clear hi); (try clear ho0); obtain ⟨Ao11, co11, eo11⟩ := Kd.R_slice HO292.out; subst eo11) | ((with_reducible refine gate_callee (f := 26) rfl ?_); refine goesL_ (some 20) rfl rfl Tryd.func26 (by kernel_rfl) rfl #[.slice Ao11 t290.length co11, .int .i64 a1] rfl (by (try simp only [List.map_toArray, List.map_cons, List.map_nil]); first | done | rfl | (simp only [List.length_drop, List.length_take]; rfl)) ?_; (with_reducible refine (spec_FirstFreeCode.calls k _ _ t290 a1 t293 t294 _ ?side1 ?side2 A6.out).mono ?_); (case side1 => repeat (first | exact (Kd.R_reads' HO292.out).2.2 | (with_reducible refine Kd.C_alloc ?_ _) | (with_reducible refine Kd.C_drewN ?_ _) | (with_reducible refine Kd.C_drew ?_))); (case side2 => exact (Kd.R_reads' HO292.out).2.1); rintro e w12 ⟨rfl, hb⟩; refine ⟨_, rfl, ?_⟩; have n0_ := Aside0.mk (Kd.R_below (by (with_reducible repeat (first | apply Kd.R_alloc | apply Kd.R_drewN | apply Kd.R_drew)); exact HO292.out) hb); have n1_ := Aside0.mk (below_step (by repeat (first | (with_reducible first | exact HB.out | apply below_alloc | apply pw_below_drewN | apply below_drew1) | exact HB.out)) hb); clear HO292; clear HB; have HO292 := n0_; have HB := n1_; clear n0_ n1_; (try clear hb); (try clear hb2); (try clear hk); (try clear hi)) | ((with_reducible refine gate_callee (f := 14) rfl ?_); refine goesL_ (some 24) rfl rfl Tryd.func14 (by kernel_rfl) rfl #[.slice A0 l0.length c0] rfl (by (try simp only [List.map_toArray, List.map_cons, List.map_nil]); first | done | rfl | (simp only [List.length_drop, List.length_take]; rfl)) ?_; (with_reducible refine (laws_toStringS.calls k _ _ l0 t295 _ ?side1 ?side2 A7.out).mono ?_); (case side1 => repeat (first | exact (Kd.C_below HR0.out HB.out) | (with_reducible refine Kd.C_alloc ?_ _) | (with_reducible refine Kd.C_drewN ?_ _) | (with_reducible refine Kd.C_drew ?_))); (case side2 => exact HC0.out); rintro e w13 ⟨v296, rfl, ho0, hb⟩; refine ⟨_, rfl, ?_⟩; have n0_ := Aside0.mk (Kd.R_elder' (by (with_reducible repeat (first | apply Kd.R_alloc | apply Kd.R_drewN | apply Kd.R_drew)); exact HO292.out) (Kd.R_base ho0) hb); have n1_ := Aside0.mk (Kd.R_lower (Kd.R_new' ho0 (Kd.R_lt (by (with_reducible repeat (first | apply Kd.R_alloc | apply Kd.R_drewN | apply Kd.R_drew)); exact HO292.out))) (below_size (by repeat (first | (with_reducible first | exact HB.out | apply below_alloc | apply pw_below_drewN | apply below_drew1) | exact HB.out)))); have n2_ := Aside0.mk (below_step (by repeat (first | (with_reducible first | exact HB.out | apply below_alloc | apply pw_below_drewN | apply below_drew1) | exact HB.out)) hb); clear HO292; clear HB; have HO292 := n0_; have HO297 := n1_; have HB := n2_; clear n0_ n1_ n2_; (try clear hb); (try clear hb2); (try clear hk); (try clear hi); (try clear ho0); obtain ⟨Ao14, co14, eo14⟩ := Kd.R_slice HO297.out; subst eo14) | ((with_reducible refine gate_callee (f := 27) rfl ?_); refine goesL_ (some 28) rfl rfl Tryd.func27 (by kernel_rfl) rfl #[.slice Ao14 t295.length co14, .int .i64 a1] rfl (by (try simp only [List.map_toArray, List.map_cons, List.map_nil]); first | done | rfl | (simp only [List.length_drop, List.length_take]; rfl)) ?_; (with_reducible refine (impl_FirstFreeCode.calls k _ _ t295 a1 t298 t299 _ ?side1 ?side2 A8.out).mono ?_); (case side1 => repeat (first | exact (Kd.R_reads' HO297.out).2.2 | (with_reducible refine Kd.C_alloc ?_ _) | (with_reducible refine Kd.C_drewN ?_ _) | (with_reducible refine Kd.C_drew ?_))); (case side2 => exact (Kd.R_reads' HO297.out).2.1); rintro e w15 ⟨rfl, hb⟩; refine ⟨_, rfl, ?_⟩; have n0_ := Aside0.mk (Kd.R_below (by (with_reducible repeat (first | apply Kd.R_alloc | apply Kd.R_drewN | apply Kd.R_drew)); exact HO292.out) hb); have n1_ := Aside0.mk (Kd.R_below (by (with_reducible repeat (first | apply Kd.R_alloc | apply Kd.R_drewN | apply Kd.R_drew)); exact HO297.out) hb); have n2_ := Aside0.mk (below_step (by repeat (first | (with_reducible first | exact HB.out | apply below_alloc | apply pw_below_drewN | apply below_drew1) | exact HB.out)) hb); clear HO292; clear HO297; clear HB; have HO292 := n0_; have HO297 := n1_; have HB := n2_; clear n0_ n1_ n2_; (try clear hb); (try clear hb2); (try clear hk); (try clear hi)))
    (try simp only [Act.put, List.setIfInBounds_toArray, List.set_cons_zero, List.set_cons_succ])
    go_cut [38] (fun v38 wc => ∃ (kq : Nat) (x38_8 : Bool), v38 = .bool x38_8 ∧ Aside0 (laws_FnExactFirstFreeCode.j0 kq l0 t295 x38_8 = some r) ∧ Aside0 (kq ≤ k) ∧ Aside0 (Kd.R Kd.string 9 wc w.heap.size (fun _ => True) (.slice Ao14 t295.length co14) t295) ∧ Aside0 (Below w.heap.size w wc))
    case first =>
      have H := HC9.out
      clear HC9
      by_cases c16 : t298.toList = t293.toList
      · rw [if_pos c16] at H
        have c16b0 : (t298.toList == t293.toList) = true := beq_iff_eq.mpr c16
        have c16b1 : (t298.toList != t293.toList) = false := bne_eq_false_iff_eq.mpr c16
        clear c16
        (first | rw [c16b0] | (simp only [i64_w, i32_w]; rw [c16b0]) | skip)
        have H' := Aside0.mk H
        clear H
        go_wp2
        go_meet
        case rel => exact ⟨_, ((t299 != t294)), (by first | rfl | (simp; done) | (simp [*]; done) | (simp [isEmpty_bne]; done) | (simp [i64_w]; done) | (simp only [i64_w]; done)), H', ⟨by first | omega | exact Nat.le_refl _⟩, ⟨by (with_reducible repeat (first | apply Kd.R_alloc | apply Kd.R_drewN | apply Kd.R_drew)); exact Kd.R_mono HO297.out (fun _ hk => trivial)⟩, ⟨by repeat (first | (with_reducible first | exact HB.out | apply below_alloc | apply pw_below_drewN | apply below_drew1) | exact HB.out)⟩⟩
      · rw [if_neg c16] at H
        have c16b0 : (t298.toList == t293.toList) = false := beq_eq_false_iff_ne.mpr c16
        have c16b1 : (t298.toList != t293.toList) = true := bne_iff_ne.mpr c16
        (first | rw [c16b0] | (simp only [i64_w, i32_w]; rw [c16b0]) | skip)
        have H' := Aside0.mk H
        clear H
        go_wp2
        go_meet
        case rel => exact ⟨_, (true), (by first | rfl | (simp; done) | (simp [*]; done) | (simp [isEmpty_bne]; done) | (simp [i64_w]; done) | (simp only [i64_w]; done)), H', ⟨by first | omega | exact Nat.le_refl _⟩, ⟨by (with_reducible repeat (first | apply Kd.R_alloc | apply Kd.R_drewN | apply Kd.R_drew)); exact Kd.R_mono HO297.out (fun _ hk => trivial)⟩, ⟨by repeat (first | (with_reducible first | exact HB.out | apply below_alloc | apply pw_below_drewN | apply below_drew1) | exact HB.out)⟩⟩
    case rest =>
      clear HC9
      try clear c1
      try clear c2
      try clear p2
      try clear c4
      try clear c4b0
      try clear c6
      try clear c12
      try clear c14
      try clear c16
      try clear c16b0
      try clear c16b1
      obtain ⟨kq, x38_8, rfl, HA, HJ8, HO_8, HB⟩ := hcut
      cases kq with
      | zero => exact absurd HA.out (by simp [laws_FnExactFirstFreeCode.j0])
      | succ kj8 =>
        have H := HA.out
        clear HA
        simp only [laws_FnExactFirstFreeCode.j0] at H
        by_cases c17 : x38_8 = true
        · subst c17
          have H1 : (some false) = some r := by rw [if_pos rfl] at H; exact H
          clear H
          have H := H1
          clear H1
          obtain rfl := Option.some.inj H
          go_wp2
          go_ret
          exact ⟨by first | rfl | (simp [errW_none, errW_some] <;> rfl) | (simp [*, errW_none, errW_some] <;> rfl), by repeat (first | (with_reducible first | exact HB.out | apply below_alloc | apply pw_below_drewN | apply below_drew1) | exact HB.out)⟩
        · replace c17 := Bool.eq_false_iff.mpr c17
          subst c17
          have H1 : ((laws_toStringS.f kj8 l0).bind fun t300 => ((laws_eqStringS.f kj8 t295 t300).bind fun t303 => (if t303 = true then (some true) else (some false)))) = some r := by rw [if_neg (show ¬ (false = true) by decide)] at H; exact H
          clear H
          have H := H1
          clear H1
          replace H := Option.bind_eq_some_iff.mp H
          obtain ⟨t300, A180, H⟩ := H
          replace H : ((laws_eqStringS.f kj8 t295 t300).bind fun t303 => (if t303 = true then (some true) else (some false))) = some r := H
          have A18 := Aside0.mk A180
          clear A180
          replace H := Option.bind_eq_some_iff.mp H
          obtain ⟨t303, A190, H⟩ := H
          replace H : (if t303 = true then (some true) else (some false)) = some r := H
          have A19 := Aside0.mk A190
          clear A190
          by_cases c20 : t303 = true
          · subst c20
            have H1 : (some true) = some r := by rw [if_pos rfl] at H; exact H
            clear H
            have H := H1
            clear H1
            obtain rfl := Option.some.inj H
            go_wp2_with (first | ((with_reducible refine gate_callee (f := 14) rfl ?_); refine goesL_ (some 41) rfl rfl Tryd.func14 (by kernel_rfl) rfl #[.slice A0 l0.length c0] rfl (by (try simp only [List.map_toArray, List.map_cons, List.map_nil]); first | done | rfl | (simp only [List.length_drop, List.length_take]; rfl)) ?_; (with_reducible refine (laws_toStringS.calls kj8 _ _ l0 t300 _ ?side1 ?side2 A18.out).mono ?_); (case side1 => repeat (first | exact (Kd.C_below HR0.out HB.out) | (with_reducible refine Kd.C_alloc ?_ _) | (with_reducible refine Kd.C_drewN ?_ _) | (with_reducible refine Kd.C_drew ?_))); (case side2 => exact HC0.out); rintro e w21 ⟨v301, rfl, ho0, hb⟩; refine ⟨_, rfl, ?_⟩; have n0_ := Aside0.mk (Kd.R_elder' (by (with_reducible repeat (first | apply Kd.R_alloc | apply Kd.R_drewN | apply Kd.R_drew)); exact HO_8.out) (Kd.R_base ho0) hb); have n1_ := Aside0.mk (Kd.R_lower (Kd.R_new' ho0 (Kd.R_lt (by (with_reducible repeat (first | apply Kd.R_alloc | apply Kd.R_drewN | apply Kd.R_drew)); exact HO_8.out))) (below_size (by repeat (first | (with_reducible first | exact HB.out | apply below_alloc | apply pw_below_drewN | apply below_drew1) | exact HB.out)))); have n2_ := Aside0.mk (below_step (by repeat (first | (with_reducible first | exact HB.out | apply below_alloc | apply pw_below_drewN | apply below_drew1) | exact HB.out)) hb); clear HO_8; clear HB; have HO_8 := n0_; have HO302 := n1_; have HB := n2_; clear n0_ n1_ n2_; (try clear hb); (try clear hb2); (try clear hk); (try clear hi); (try clear ho0); obtain ⟨Ao22, co22, eo22⟩ := Kd.R_slice HO302.out; subst eo22) | ((with_reducible refine gate_callee (f := 17) rfl ?_); refine goesL_ (some 42) rfl rfl Tryd.func17 (by kernel_rfl) rfl #[.slice Ao14 t295.length co14, .slice Ao22 t300.length co22] rfl (by (try simp only [List.map_toArray, List.map_cons, List.map_nil]); first | done | rfl | (simp only [List.length_drop, List.length_take]; rfl)) ?_; (with_reducible refine (laws_eqStringS.calls kj8 _ _ t295 _ _ t300 true _ ?side1 ?side2 ?side3 ?side4 A19.out).mono ?_); (case side1 => repeat (first | exact (Kd.R_reads' HO_8.out).2.2 | (with_reducible refine Kd.C_alloc ?_ _) | (with_reducible refine Kd.C_drewN ?_ _) | (with_reducible refine Kd.C_drew ?_))); (case side2 => exact (Kd.R_reads' HO_8.out).2.1); (case side3 => repeat (first | exact (Kd.R_reads' HO302.out).2.2 | (with_reducible refine Kd.C_alloc ?_ _) | (with_reducible refine Kd.C_drewN ?_ _) | (with_reducible refine Kd.C_drew ?_))); (case side4 => exact (Kd.R_reads' HO302.out).2.1); rintro e w' ⟨rfl, ⟨nd, rfl⟩⟩; refine ⟨_, rfl, ?_⟩))
            go_ret
            exact ⟨by first | rfl | (simp [errW_none, errW_some] <;> rfl) | (simp [*, errW_none, errW_some] <;> rfl), by repeat (first | (with_reducible first | exact HB.out | apply below_alloc | apply pw_below_drewN | apply below_drew1) | exact HB.out)⟩
          · replace c20 := Bool.eq_false_iff.mpr c20
            subst c20
            have H1 : (some false) = some r := by rw [if_neg (show ¬ (false = true) by decide)] at H; exact H
            clear H
            have H := H1
            clear H1
            obtain rfl := Option.some.inj H
            go_wp2_with (first | ((with_reducible refine gate_callee (f := 14) rfl ?_); refine goesL_ (some 41) rfl rfl Tryd.func14 (by kernel_rfl) rfl #[.slice A0 l0.length c0] rfl (by (try simp only [List.map_toArray, List.map_cons, List.map_nil]); first | done | rfl | (simp only [List.length_drop, List.length_take]; rfl)) ?_; (with_reducible refine (laws_toStringS.calls kj8 _ _ l0 t300 _ ?side1 ?side2 A18.out).mono ?_); (case side1 => repeat (first | exact (Kd.C_below HR0.out HB.out) | (with_reducible refine Kd.C_alloc ?_ _) | (with_reducible refine Kd.C_drewN ?_ _) | (with_reducible refine Kd.C_drew ?_))); (case side2 => exact HC0.out); rintro e w23 ⟨v301, rfl, ho0, hb⟩; refine ⟨_, rfl, ?_⟩; have n0_ := Aside0.mk (Kd.R_elder' (by (with_reducible repeat (first | apply Kd.R_alloc | apply Kd.R_drewN | apply Kd.R_drew)); exact HO_8.out) (Kd.R_base ho0) hb); have n1_ := Aside0.mk (Kd.R_lower (Kd.R_new' ho0 (Kd.R_lt (by (with_reducible repeat (first | apply Kd.R_alloc | apply Kd.R_drewN | apply Kd.R_drew)); exact HO_8.out))) (below_size (by repeat (first | (with_reducible first | exact HB.out | apply below_alloc | apply pw_below_drewN | apply below_drew1) | exact HB.out)))); have n2_ := Aside0.mk (below_step (by repeat (first | (with_reducible first | exact HB.out | apply below_alloc | apply pw_below_drewN | apply below_drew1) | exact HB.out)) hb); clear HO_8; clear HB; have HO_8 := n0_; have HO302 := n1_; have HB := n2_; clear n0_ n1_ n2_; (try clear hb); (try clear hb2); (try clear hk); (try clear hi); (try clear ho0); obtain ⟨Ao24, co24, eo24⟩ := Kd.R_slice HO302.out; subst eo24) | ((with_reducible refine gate_callee (f := 17) rfl ?_); refine goesL_ (some 42) rfl rfl Tryd.func17 (by kernel_rfl) rfl #[.slice Ao14 t295.length co14, .slice Ao24 t300.length co24] rfl (by (try simp only [List.map_toArray, List.map_cons, List.map_nil]); first | done | rfl | (simp only [List.length_drop, List.length_take]; rfl)) ?_; (with_reducible refine (laws_eqStringS.calls kj8 _ _ t295 _ _ t300 false _ ?side1 ?side2 ?side3 ?side4 A19.out).mono ?_); (case side1 => repeat (first | exact (Kd.R_reads' HO_8.out).2.2 | (with_reducible refine Kd.C_alloc ?_ _) | (with_reducible refine Kd.C_drewN ?_ _) | (with_reducible refine Kd.C_drew ?_))); (case side2 => exact (Kd.R_reads' HO_8.out).2.1); (case side3 => repeat (first | exact (Kd.R_reads' HO302.out).2.2 | (with_reducible refine Kd.C_alloc ?_ _) | (with_reducible refine Kd.C_drewN ?_ _) | (with_reducible refine Kd.C_drew ?_))); (case side4 => exact (Kd.R_reads' HO302.out).2.1); rintro e w' ⟨rfl, ⟨nd, rfl⟩⟩; refine ⟨_, rfl, ?_⟩))
            go_ret
            exact ⟨by first | rfl | (simp [errW_none, errW_some] <;> rfl) | (simp [*, errW_none, errW_some] <;> rfl), by repeat (first | (with_reducible first | exact HB.out | apply below_alloc | apply pw_below_drewN | apply below_drew1) | exact HB.out)⟩

end Go.Proofs.YtphdlbdmdokfaaaDoor.PA
