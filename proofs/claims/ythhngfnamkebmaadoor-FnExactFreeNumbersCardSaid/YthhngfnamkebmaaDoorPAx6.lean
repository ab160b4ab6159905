-- printed by xprint.py: the kit's print.py with given contracts
import Derived.Test.YthhngfnamkebmaaDoorPAx0
import Derived.Test.YthhngfnamkebmaaDoorPAx1
import Derived.Test.YthhngfnamkebmaaDoorPAx2
import Derived.Test.YthhngfnamkebmaaDoorPAx3
import Derived.Test.YthhngfnamkebmaaDoorPAx4
import Derived.Test.YthhngfnamkebmaaDoorPAx5
namespace Go.Proofs.YthhngfnamkebmaaDoor.PA
open Go.RowKit Go.Proofs.YthhngfnamkebmaaDoorW.PrintWords Go.Proofs.YthhngfnamkebmaaDoorW.PrintLast Go.Proofs.YthhngfnamkebmaaDoorW.PrintMore
attribute [local go_sem] max2_int min2_int max_two min_two max_three min_three max_four min_four   -- for this text's walks alone
set_option linter.unusedVariables false
set_option linter.unusedSimpArgs false

/-! ### spec_plArea: function 39 -/
def spec_plArea.l0 : Nat → ByteArray → List ByteArray → Int → Int → Option (ByteArray)
  | 0, _, _, _, _ => none
  | k + 1, x1, x7, x8, x9 => if x9 < x8 then (if 0 ≤ x9 then (if x9 < (x7.length : Int) then ((spec_plBegins.f (rdOf ByteArray.empty x7 x9) x1).bind fun t154 => (if t154 = true then (some (rdOf ByteArray.empty x7 x9)) else (spec_plArea.l0 k x1 x7 x8 (wrap64 (x9 + 1))))) else (none)) else (none)) else (some (⟨#[]⟩ : ByteArray))
def spec_plArea.f (k : Nat) (l0 : List ByteArray) (a1 : ByteArray) : Option (ByteArray) := spec_plArea.l0 k a1 l0 (l0.length : Int) 0
theorem spec_plArea.mono_l : ∀ k, (∀ y0 y1 y2 y3, LeO (spec_plArea.l0 k y0 y1 y2 y3) (spec_plArea.l0 (k + 1) y0 y1 y2 y3))
  | 0 => fun _ _ _ _ r h => by simp [spec_plArea.l0] at h
  | k + 1 => by
    have ih0 := spec_plArea.mono_l k
    · intro y0 y1 y2 y3
      unfold spec_plArea.l0
      repeat' first
      | (with_reducible exact ih0 _ _ _ _)
      | (with_reducible exact LeO.refl _)
      | (with_reducible exact LeO.none _)
      | (with_reducible refine LeO.ite ?_ ?_)
      | (with_reducible refine LeO.bind ?_ (fun _ => ?_))
      | exact ih0 _ _ _ _
      | exact LeO.none _
      | refine LeO.ite ?_ ?_
      | refine LeO.bind ?_ (fun _ => ?_)
theorem spec_plArea.mono : ∀ a0 a1 k, LeO (spec_plArea.f k a0 a1) (spec_plArea.f (k + 1) a0 a1) := by
  intro a0 a1 k
  have ih0 := spec_plArea.mono_l k
  unfold spec_plArea.f
  repeat' first
      | (with_reducible exact ih0 _ _ _ _)
      | (with_reducible exact LeO.refl _)
      | (with_reducible exact LeO.none _)
      | (with_reducible refine LeO.ite ?_ ?_)
      | (with_reducible refine LeO.bind ?_ (fun _ => ?_))
      | exact ih0 _ _ _ _
      | exact LeO.none _
      | refine LeO.ite ?_ ?_
      | refine LeO.bind ?_ (fun _ => ?_)
set_option maxHeartbeats 8000000 in
set_option maxRecDepth 100000 in
theorem spec_plArea.calls (k : Nat) (A0 : Option Addr) (c0 : Nat) (l0 : List ByteArray) (a1 : ByteArray) (r : ByteArray) (w : World) (hr0 : Kd.C Kd.string w A0 l0.length l0) (hc0 : l0.length ≤ c0) (h : spec_plArea.f k l0 a1 = some r) :
    Calls Tryd.prog 39 #[.slice A0 l0.length c0, .string a1] w fun e w' => e = .returned (.string r) ∧ Drawn0 w w' := by
  have HR0 := Aside0.mk hr0
  have HC0 := Aside0.mk hc0
  clear hr0 hc0
  have H : (spec_plArea.l0 k a1 l0 (l0.length : Int) 0) = some r := h
  clear h
  have H' := Aside0.mk H
  clear H
  go_enter Tryd.func39, Tryd.ntmps39
  go_wp2
  go_loopg [9] k (fun kq v9 w' => ∃ (x9_1 : Int), v9 = .int .i64 x9_1 ∧ Aside0 (spec_plArea.l0 kq a1 l0 (l0.length : Int) x9_1 = some r) ∧ Aside0 (kq ≤ k) ∧ Drawn0 w w')
  case atStart => exact ⟨(0), (by first | rfl | (simp; done) | (simp [*]; done)), H', ⟨Nat.le_refl _⟩, by repeat (first | exact Drawn0.refl _ | apply Drawn0.step)⟩
  case round =>
    clear H'
    try clear p2
    obtain ⟨x9_1, rfl, HA, HK1, ⟨m1, rfl⟩⟩ := hrel
    cases gk with
    | zero => exact absurd HA.out (by simp [spec_plArea.l0])
    | succ k1 =>
      have H := HA.out
      clear HA
      simp only [spec_plArea.l0] at H
      by_cases c3 : x9_1 < (l0.length : Int)
      · rw [if_pos c3] at H
        have c3b0 : decide (x9_1 < (l0.length : Int)) = true := decide_eq_true c3
        clear c3
        by_cases c4 : 0 ≤ x9_1
        · rw [if_pos c4] at H
          have c4b0 : decide (0 ≤ x9_1) = true := decide_eq_true c4
          clear c4
          by_cases c5 : x9_1 < (l0.length : Int)
          · rw [if_pos c5] at H
            have c5b0 : decide (x9_1 < (l0.length : Int)) = true := decide_eq_true c5
            clear c5
            replace H := Option.bind_eq_some_iff.mp H
            obtain ⟨t154, A60, H⟩ := H
            replace H : (if t154 = true then (some (rdOf ByteArray.empty l0 x9_1)) else (spec_plArea.l0 k1 a1 l0 (l0.length : Int) (wrap64 (x9_1 + 1)))) = some r := H
            have A6 := Aside0.mk A60
            clear A60
            by_cases c7 : t154 = true
            · subst c7
              have H1 : (some (rdOf ByteArray.empty l0 x9_1)) = some r := by rw [if_pos rfl] at H; exact H
              clear H
              have H := H1
              clear H1
              obtain rfl := Option.some.inj H
              have p153 : 0 ≤ (x9_1 : Int) := of_decide_eq_true (by first | (with_reducible assumption) | assumption)
              have q153 : x9_1 < (l0.length : Int) := of_decide_eq_true (by first | (with_reducible assumption) | assumption)
              obtain ⟨ad153, e153, hx153_0⟩ := Kd.at_string HR0.out x9_1 p153 q153
              cases e153
              replace p153 := eq_true p153
              replace q153 := eq_true q153
              go_wp2_with (first | ((with_reducible refine gate_callee (f := 59) rfl ?_); refine goesL_ (some 15) rfl rfl Tryd.func59 (by kernel_rfl) rfl #[.string (rdOf ByteArray.empty l0 x9_1), .string a1] rfl (by (try simp only [List.map_toArray, List.map_cons, List.map_nil]); first | done | rfl | (simp only [List.length_drop, List.length_take]; rfl)) ?_; (with_reducible refine (spec_plBegins.calls (rdOf ByteArray.empty l0 x9_1) a1 true _ A6.out).mono ?_); rintro e w' ⟨rfl, ⟨nd, rfl⟩⟩; refine ⟨_, rfl, ?_⟩))
              go_ret
              exact ⟨by first | rfl | (simp; done) | (simp [*]; done) | (simp [isEmpty_bne]; done), by repeat (first | exact Drawn0.refl _ | apply Drawn0.step)⟩
            · replace c7 := Bool.eq_false_iff.mpr c7
              subst c7
              have H1 : (spec_plArea.l0 k1 a1 l0 (l0.length : Int) (wrap64 (x9_1 + 1))) = some r := by rw [if_neg (show ¬ (false = true) by decide)] at H; exact H
              clear H
              have H := H1
              clear H1
              have H' := Aside0.mk H
              clear H
              have p153 : 0 ≤ (x9_1 : Int) := of_decide_eq_true (by first | (with_reducible assumption) | assumption)
              have q153 : x9_1 < (l0.length : Int) := of_decide_eq_true (by first | (with_reducible assumption) | assumption)
              obtain ⟨ad153, e153, hx153_0⟩ := Kd.at_string HR0.out x9_1 p153 q153
              cases e153
              replace p153 := eq_true p153
              replace q153 := eq_true q153
              go_wp2_with (first | ((with_reducible refine gate_callee (f := 59) rfl ?_); refine goesL_ (some 15) rfl rfl Tryd.func59 (by kernel_rfl) rfl #[.string (rdOf ByteArray.empty l0 x9_1), .string a1] rfl (by (try simp only [List.map_toArray, List.map_cons, List.map_nil]); first | done | rfl | (simp only [List.length_drop, List.length_take]; rfl)) ?_; (with_reducible refine (spec_plBegins.calls (rdOf ByteArray.empty l0 x9_1) a1 false _ A6.out).mono ?_); rintro e w' ⟨rfl, ⟨nd, rfl⟩⟩; refine ⟨_, rfl, ?_⟩))
              go_roundg k1
              case measure => have := HK1.out; omega
              case rel => exact ⟨(wrap64 (x9_1 + 1)), (by first | rfl | (simp; done) | (simp [*]; done)), H', ⟨by have := HK1.out; omega⟩, by repeat (first | exact Drawn0.refl _ | apply Drawn0.step)⟩
          · rw [if_neg c5] at H
            exact absurd H (by simp)
        · rw [if_neg c4] at H
          exact absurd H (by simp)
      · rw [if_neg c3] at H
        have c3b0 : decide (x9_1 < (l0.length : Int)) = false := decide_eq_false c3
        clear c3
        obtain rfl := Option.some.inj H
        go_wp2
        go_ret
        exact ⟨by first | rfl | (simp; done) | (simp [*]; done) | (simp [isEmpty_bne]; done), by repeat (first | exact Drawn0.refl _ | apply Drawn0.step)⟩

/-! ### spec_AreaOf: function 19 -/
def spec_AreaOf.f (k : Nat) (l0 : List ByteArray) (a1 : ByteArray) : Option (ByteArray × Bool) := (spec_plGood.f k l0).bind fun t155 => (if t155 = true then ((spec_piDigits.f k a1 1 12).bind fun t156 => (if t156 = true then ((spec_plArea.f k l0 a1).bind fun t157 => (some (t157, (t157.toList != ([] : List UInt8))))) else (some ((⟨#[]⟩ : ByteArray), false)))) else (some ((⟨#[]⟩ : ByteArray), false)))
theorem spec_AreaOf.mono : ∀ a0 a1 k, LeO (spec_AreaOf.f k a0 a1) (spec_AreaOf.f (k + 1) a0 a1) := by
  intro a0 a1 k
  unfold spec_AreaOf.f
  repeat' first
      | (with_reducible exact spec_piDigits.mono _ _ _ _)
      | (with_reducible exact spec_plArea.mono _ _ _)
      | (with_reducible exact spec_plGood.mono _ _)
      | (with_reducible exact LeO.refl _)
      | (with_reducible exact LeO.none _)
      | (with_reducible refine LeO.ite ?_ ?_)
      | (with_reducible refine LeO.bind ?_ (fun _ => ?_))
      | exact spec_piDigits.mono _ _ _ _
      | exact spec_plArea.mono _ _ _
      | exact spec_plGood.mono _ _
      | exact LeO.none _
      | refine LeO.ite ?_ ?_
      | refine LeO.bind ?_ (fun _ => ?_)
set_option maxHeartbeats 8000000 in
set_option maxRecDepth 100000 in
theorem spec_AreaOf.calls (k : Nat) (A0 : Option Addr) (c0 : Nat) (l0 : List ByteArray) (a1 : ByteArray) (r1 : ByteArray) (r2 : Bool) (w : World) (hr0 : Kd.C Kd.string w A0 l0.length l0) (hc0 : l0.length ≤ c0) (h : spec_AreaOf.f k l0 a1 = some (r1, r2)) :
    Calls Tryd.prog 19 #[.slice A0 l0.length c0, .string a1] w fun e w' => e = .returned (.tuple #[.string r1, .bool r2]) ∧ Drawn0 w w' := by
  have HR0 := Aside0.mk hr0
  have HC0 := Aside0.mk hc0
  clear hr0 hc0
  have H : ((spec_plGood.f k l0).bind fun t155 => (if t155 = true then ((spec_piDigits.f k a1 1 12).bind fun t156 => (if t156 = true then ((spec_plArea.f k l0 a1).bind fun t157 => (some (t157, (t157.toList != ([] : List UInt8))))) else (some ((⟨#[]⟩ : ByteArray), false)))) else (some ((⟨#[]⟩ : ByteArray), false)))) = some (r1, r2) := h
  clear h
  replace H := Option.bind_eq_some_iff.mp H
  obtain ⟨t155, A30, H⟩ := H
  replace H : (if t155 = true then ((spec_piDigits.f k a1 1 12).bind fun t156 => (if t156 = true then ((spec_plArea.f k l0 a1).bind fun t157 => (some (t157, (t157.toList != ([] : List UInt8))))) else (some ((⟨#[]⟩ : ByteArray), false)))) else (some ((⟨#[]⟩ : ByteArray), false))) = some (r1, r2) := H
  have A3 := Aside0.mk A30
  clear A30
  by_cases c4 : t155 = true
  · subst c4
    have H1 : ((spec_piDigits.f k a1 1 12).bind fun t156 => (if t156 = true then ((spec_plArea.f k l0 a1).bind fun t157 => (some (t157, (t157.toList != ([] : List UInt8))))) else (some ((⟨#[]⟩ : ByteArray), false)))) = some (r1, r2) := by rw [if_pos rfl] at H; exact H
    clear H
    have H := H1
    clear H1
    replace H := Option.bind_eq_some_iff.mp H
    obtain ⟨t156, A50, H⟩ := H
    replace H : (if t156 = true then ((spec_plArea.f k l0 a1).bind fun t157 => (some (t157, (t157.toList != ([] : List UInt8))))) else (some ((⟨#[]⟩ : ByteArray), false))) = some (r1, r2) := H
    have A5 := Aside0.mk A50
    clear A50
    by_cases c6 : t156 = true
    · subst c6
      have H1 : ((spec_plArea.f k l0 a1).bind fun t157 => (some (t157, (t157.toList != ([] : List UInt8))))) = some (r1, r2) := by rw [if_pos rfl] at H; exact H
      clear H
      have H := H1
      clear H1
      replace H := Option.bind_eq_some_iff.mp H
      obtain ⟨t157, A70, H⟩ := H
      replace H : (some (t157, (t157.toList != ([] : List UInt8)))) = some (r1, r2) := H
      have A7 := Aside0.mk A70
      clear A70
      simp only [Option.some.injEq, Prod.mk.injEq] at H
      obtain ⟨rfl, rfl⟩ := H
      go_enter Tryd.func19, Tryd.ntmps19
      go_wp2_with (first | ((with_reducible refine gate_callee (f := 35) rfl ?_); refine goesL_ (some 8) rfl rfl Tryd.func35 (by kernel_rfl) rfl #[.slice A0 l0.length c0] rfl (by (try simp only [List.map_toArray, List.map_cons, List.map_nil]); first | done | rfl | (simp only [List.length_drop, List.length_take]; rfl)) ?_; (with_reducible refine (spec_plGood.calls k _ _ l0 true _ ?side1 ?side2 A3.out).mono ?_); (case side1 => repeat (first | exact HR0.out | (with_reducible refine Kd.C_alloc ?_ _) | (with_reducible refine Kd.C_drewN ?_ _) | (with_reducible refine Kd.C_drew ?_))); (case side2 => exact HC0.out); rintro e w' ⟨rfl, ⟨nd, rfl⟩⟩; refine ⟨_, rfl, ?_⟩) | (go_at_call 38; (with_reducible refine (spec_piDigits.calls k a1 1 12 true _ A5.out).mono ?_); rintro e w' ⟨rfl, ⟨nd, rfl⟩⟩) | ((with_reducible refine gate_callee (f := 39) rfl ?_); refine goesL_ (some 17) rfl rfl Tryd.func39 (by kernel_rfl) rfl #[.slice A0 l0.length c0, .string a1] rfl (by (try simp only [List.map_toArray, List.map_cons, List.map_nil]); first | done | rfl | (simp only [List.length_drop, List.length_take]; rfl)) ?_; (with_reducible refine (spec_plArea.calls k _ _ l0 a1 t157 _ ?side1 ?side2 A7.out).mono ?_); (case side1 => repeat (first | exact HR0.out | (with_reducible refine Kd.C_alloc ?_ _) | (with_reducible refine Kd.C_drewN ?_ _) | (with_reducible refine Kd.C_drew ?_))); (case side2 => exact HC0.out); rintro e w' ⟨rfl, ⟨nd, rfl⟩⟩; refine ⟨_, rfl, ?_⟩))
      go_ret2
      exact ⟨by first | rfl | (simp; done) | (simp [*]; done) | (simp [isEmpty_bne]; done), by repeat (first | exact Drawn0.refl _ | apply Drawn0.step)⟩
    · replace c6 := Bool.eq_false_iff.mpr c6
      subst c6
      have H1 : (some ((⟨#[]⟩ : ByteArray), false)) = some (r1, r2) := by rw [if_neg (show ¬ (false = true) by decide)] at H; exact H
      clear H
      have H := H1
      clear H1
      simp only [Option.some.injEq, Prod.mk.injEq] at H
      obtain ⟨rfl, rfl⟩ := H
      go_enter Tryd.func19, Tryd.ntmps19
      go_wp2_with (first | ((with_reducible refine gate_callee (f := 35) rfl ?_); refine goesL_ (some 8) rfl rfl Tryd.func35 (by kernel_rfl) rfl #[.slice A0 l0.length c0] rfl (by (try simp only [List.map_toArray, List.map_cons, List.map_nil]); first | done | rfl | (simp only [List.length_drop, List.length_take]; rfl)) ?_; (with_reducible refine (spec_plGood.calls k _ _ l0 true _ ?side1 ?side2 A3.out).mono ?_); (case side1 => repeat (first | exact HR0.out | (with_reducible refine Kd.C_alloc ?_ _) | (with_reducible refine Kd.C_drewN ?_ _) | (with_reducible refine Kd.C_drew ?_))); (case side2 => exact HC0.out); rintro e w' ⟨rfl, ⟨nd, rfl⟩⟩; refine ⟨_, rfl, ?_⟩) | (go_at_call 38; (with_reducible refine (spec_piDigits.calls k a1 1 12 false _ A5.out).mono ?_); rintro e w' ⟨rfl, ⟨nd, rfl⟩⟩))
      go_ret2
      exact ⟨by first | rfl | (simp; done) | (simp [*]; done) | (simp [isEmpty_bne]; done), by repeat (first | exact Drawn0.refl _ | apply Drawn0.step)⟩
  · replace c4 := Bool.eq_false_iff.mpr c4
    subst c4
    have H1 : (some ((⟨#[]⟩ : ByteArray), false)) = some (r1, r2) := by rw [if_neg (show ¬ (false = true) by decide)] at H; exact H
    clear H
    have H := H1
    clear H1
    simp only [Option.some.injEq, Prod.mk.injEq] at H
    obtain ⟨rfl, rfl⟩ := H
    go_enter Tryd.func19, Tryd.ntmps19
    go_wp2_with (first | ((with_reducible refine gate_callee (f := 35) rfl ?_); refine goesL_ (some 8) rfl rfl Tryd.func35 (by kernel_rfl) rfl #[.slice A0 l0.length c0] rfl (by (try simp only [List.map_toArray, List.map_cons, List.map_nil]); first | done | rfl | (simp only [List.length_drop, List.length_take]; rfl)) ?_; (with_reducible refine (spec_plGood.calls k _ _ l0 false _ ?side1 ?side2 A3.out).mono ?_); (case side1 => repeat (first | exact HR0.out | (with_reducible refine Kd.C_alloc ?_ _) | (with_reducible refine Kd.C_drewN ?_ _) | (with_reducible refine Kd.C_drew ?_))); (case side2 => exact HC0.out); rintro e w' ⟨rfl, ⟨nd, rfl⟩⟩; refine ⟨_, rfl, ?_⟩))
    go_ret2
    exact ⟨by first | rfl | (simp; done) | (simp [*]; done) | (simp [isEmpty_bne]; done), by repeat (first | exact Drawn0.refl _ | apply Drawn0.step)⟩


/-! ### slices_IndexFunc_string_string: function 40 -/
set_option maxHeartbeats 2000000 in
theorem idx_string (A : Option Addr) (c : Nat) (l : List ByteArray) (g : Nat) (lb : Array Value) (pf : ByteArray → Option Bool) (w : World) (r : Int)
    (hr : Kd.C Kd.string w A l.length l) (hc : l.length ≤ c) (hbig : l.length ≤ 9223372036854775807)
    (eg : ∀ args w, (callFunc g args).run Tryd.prog w = .ok (.enter g args) w)
    (hp : ∀ (W : World) (x : ByteArray) (b : Bool), Below w.heap.size w W → pf x = some b → Calls Tryd.prog g (#[.string x] ++ lb) W fun e w' => e = .returned (.bool b) ∧ Below W.heap.size W w')
    (h : idxO pf l 0 = some r) :
    Calls Tryd.prog 40 #[.slice A l.length c, .func (.func g) #[] lb] w fun e w' => e = .returned (.int .i64 r) ∧ Below w.heap.size w w' := by
  have HR := Aside0.mk hr
  have HP := Aside0.mk hp
  have H := Aside0.mk h
  clear hr hp h
  go_enter Tryd.func40, Tryd.ntmps40
  go_wp2
  go_loopg [5, 8] l.length (fun gg _ s8 wr => ∃ kk : Nat, kk ≤ l.length ∧ l.length - kk ≤ gg ∧ s8 = .int .i64 kk ∧ Aside0 (Below w.heap.size w wr) ∧ Aside0 (idxO pf (l.drop kk) kk = some r))
  case atStart => exact ⟨0, Nat.zero_le _, by omega, rfl, ⟨Below.refl _ w⟩, ⟨H.out⟩⟩
  case round =>
    obtain ⟨kk, hkk, hg, rfl, BW, HK⟩ := hrel
    have HRw := Kd.C_below HR.out BW.out
    by_cases hlt : kk < l.length
    · have hltz : (kk : Int) < (l.length : Int) := by omega
      obtain ⟨ad, hA, h0⟩ := Kd.at_string HRw (kk : Int) (by omega) (by omega)
      subst hA
      have hx : rdOf ByteArray.empty l (kk : Int) = l[kk] := by simp [rdOf, hlt]
      have e := HK.out
      rw [drop_cons hlt] at e
      simp only [idxO] at e
      replace e := Option.bind_eq_some_iff.mp e
      obtain ⟨b, hb, e⟩ := e
      rw [hx] at h0
      simp only [Int.toNat_natCast] at h0
      have hcall := HP.out wr _ b BW.out hb
      clear hx hb
      clear HRw
      generalize l[kk] = y at h0 hcall
      have E := Aside0.mk e
      clear e
      cases b with
      | true =>
        go_wp2_with fail
        refine hcall.mono ?_
        rintro e w' ⟨rfl, hb'⟩
        go_wp2_with fail
        go_ret
        exact ⟨by have := E.out; simp at this; subst this; rfl, BW.out.trans (hb'.mono BW.out.size)⟩
      | false =>
        go_wp2_with fail
        refine hcall.mono ?_
        rintro e w' ⟨rfl, hb'⟩
        go_wp2_with fail
        go_roundg (l.length - (kk + 1))
        case measure => omega
        case rel =>
          refine ⟨kk + 1, by omega, by omega, by go_num, ⟨BW.out.trans (hb'.mono BW.out.size)⟩, ⟨?_⟩⟩
          have := E.out; simp at this; rw [show ((kk + 1 : Nat) : Int) = (kk : Int) + 1 by omega]; exact this
    · have hd : decide ((kk : Int) < (l.length : Int)) = false := by simp; omega
      have e := HK.out
      rw [List.drop_of_length_le (by omega)] at e
      simp only [idxO, Option.some.injEq] at e
      have E := Aside0.mk e
      clear e
      go_wp2
      go_ret
      exact ⟨by have := E.out; subst this; rfl, BW.out⟩


/-! ### impl_AreaOf_1: function 41 -/
set_option maxHeartbeats 2000000 in
theorem impl_AreaOf_1.calls (B : Nat) (a1 c : ByteArray) (b : Bool) (W : World) (hB : B < W.heap.size) (h0 : W.cell? ⟨B, 0, none⟩ = some (.string a1))
    (h : impl_begins.f c a1 = some b) :
    Calls Tryd.prog 41 #[.string c, .pointer (some ⟨B, 0, none⟩)] W fun e w' => e = .returned (.bool b) ∧ Below W.heap.size W w' := by
  have hcall := fun w => impl_begins.calls c a1 b w h
  clear h
  go_enter Tryd.func41, Tryd.ntmps41
  go_wp2_with fail
  refine (hcall _).mono ?_
  rintro e w' ⟨rfl, ⟨n, rfl⟩⟩
  go_wp2
  go_ret
  exact ⟨rfl, pw_below_drewN (Below.refl _ _) _⟩


/-! ### impl_AreaOf: function 20 -/
def impl_AreaOf.f (k : Nat) (l0 : List ByteArray) (a1 : ByteArray) : Option (ByteArray × Bool) :=
  if l0.length ≤ 140737488355327 then (idxO (fun c => impl_begins.f c a1) l0 0).bind fun j => (impl_IsCodePlan.f k l0).bind fun g => if g = true then ((impl_isDigits.f a1 1 12).bind fun d => if d = true then (if j < 0 then some ((⟨#[]⟩ : ByteArray), false) else (if j < (l0.length : Int) then some (rdOf ByteArray.empty l0 j, true) else none)) else some ((⟨#[]⟩ : ByteArray), false)) else some ((⟨#[]⟩ : ByteArray), false) else none
theorem impl_AreaOf.mono : ∀ a0 a1 k, LeO (impl_AreaOf.f k a0 a1) (impl_AreaOf.f (k + 1) a0 a1) := by
  intro a0 a1 k
  have ih := impl_IsCodePlan.mono a0 k
  unfold impl_AreaOf.f
  repeat' first
      | (with_reducible exact ih)
      | (with_reducible exact LeO.refl _)
      | (with_reducible refine LeO.ite ?_ ?_)
      | (with_reducible refine LeO.bind ?_ (fun _ => ?_))
set_option maxHeartbeats 4000000 in
theorem impl_AreaOf.calls (k : Nat) (A0 : Option Addr) (c0 : Nat) (l0 : List ByteArray) (a1 : ByteArray) (r1 : ByteArray) (r2 : Bool) (w : World) (hr0 : Kd.C Kd.string w A0 l0.length l0) (hc0 : l0.length ≤ c0) (h : impl_AreaOf.f k l0 a1 = some (r1, r2)) :
    Calls Tryd.prog 20 #[.slice A0 l0.length c0, .string a1] w fun e w' => e = .returned (.tuple #[.string r1, .bool r2]) ∧ Below w.heap.size w w' := by
  unfold impl_AreaOf.f at h
  split at h
  · rename_i hbig
    replace h := Option.bind_eq_some_iff.mp h
    obtain ⟨j, hj, h⟩ := h
    replace h := Option.bind_eq_some_iff.mp h
    obtain ⟨g, hg, h⟩ := h
    have hidx := idx_string A0 c0 l0 41 #[.pointer (some ⟨w.heap.size, 0, none⟩)] _ (w.alloc (.cells #[.string a1] 9)) j
      (Kd.C_below hr0 ((Below.refl _ w).alloc (Nat.le_refl _) _)) hc0 (by omega) (enters_of Tryd.func41 (by kernel_rfl) rfl)
      (fun W x b hW hx => impl_AreaOf_1.calls w.heap.size a1 x b W (by have := hW.size; simp at this; omega) ((hW.cell (p := ⟨w.heap.size, 0, none⟩) (by simp)).trans (by simp)) hx) hj
    have hplan := fun (W : World) (hW : Below w.heap.size w W) => impl_IsCodePlan.calls k A0 c0 l0 g W (Kd.C_below hr0 hW) hc0 hg
    have HR := Aside0.mk hr0
    clear hj hg hr0
    cases g with
    | false =>
      simp only [Bool.false_eq_true, if_false, Option.some.injEq, Prod.mk.injEq] at h
      obtain ⟨rfl, rfl⟩ := h
      go_enter Tryd.func20, Tryd.ntmps20
      go_wp2_with fail
      refine hidx.mono ?_
      rintro e w1 ⟨rfl, hb1⟩
      have hb2 : Below w.heap.size w w1 := ((Below.refl _ w).alloc (Nat.le_refl _) _).trans (hb1.mono (by simp))
      have hcall := hplan w1 hb2
      clear hplan hidx
      go_wp2_with fail
      refine hcall.mono ?_
      rintro e w2 ⟨rfl, hb3⟩
      go_wp2
      go_ret2
      exact ⟨rfl, hb2.trans (hb3.mono hb2.size)⟩
    | true =>
      rw [if_pos rfl] at h
      replace h := Option.bind_eq_some_iff.mp h
      obtain ⟨d, hd, h⟩ := h
      have hdig := fun w => impl_isDigits.calls a1 1 12 d w hd
      clear hd
      cases d with
      | false =>
        simp only [Bool.false_eq_true, if_false, Option.some.injEq, Prod.mk.injEq] at h
        obtain ⟨rfl, rfl⟩ := h
        go_enter Tryd.func20, Tryd.ntmps20
        go_wp2_with fail
        refine hidx.mono ?_
        rintro e w1 ⟨rfl, hb1⟩
        have hb2 : Below w.heap.size w w1 := ((Below.refl _ w).alloc (Nat.le_refl _) _).trans (hb1.mono (by simp))
        have hc1 : w1.cell? ⟨w.heap.size, 0, none⟩ = some (.string a1) := (hb1.cell (p := ⟨w.heap.size, 0, none⟩) (by simp)).trans (by simp)
        have hlt : w.heap.size < w1.heap.size := by have := hb1.size; simp at this; omega
        have hcall := hplan w1 hb2
        clear hplan hidx
        go_wp2_with fail
        refine hcall.mono ?_
        rintro e w2 ⟨rfl, hb3⟩
        have hc2 : w2.cell? ⟨w.heap.size, 0, none⟩ = some (.string a1) := (hb3.cell (p := ⟨w.heap.size, 0, none⟩) hlt).trans hc1
        clear hcall hc1
        have hdig2 := hdig w2
        clear hdig
        go_wp2_with fail
        refine hdig2.mono ?_
        rintro e w3 ⟨rfl, hb4⟩
        clear hdig2 hc2
        go_wp2
        go_ret2
        exact ⟨rfl, (hb2.trans (hb3.mono hb2.size)).trans (hb4.mono (hb2.trans (hb3.mono hb2.size)).size)⟩
      | true =>
        rw [if_pos rfl] at h
        by_cases hj0 : j < 0
        · rw [if_pos hj0] at h
          simp only [Option.some.injEq, Prod.mk.injEq] at h
          obtain ⟨rfl, rfl⟩ := h
          have dj : decide (j < 0) = true := decide_eq_true hj0
          go_enter Tryd.func20, Tryd.ntmps20
          go_wp2_with fail
          refine hidx.mono ?_
          rintro e w1 ⟨rfl, hb1⟩
          have hb2 : Below w.heap.size w w1 := ((Below.refl _ w).alloc (Nat.le_refl _) _).trans (hb1.mono (by simp))
          have hc1 : w1.cell? ⟨w.heap.size, 0, none⟩ = some (.string a1) := (hb1.cell (p := ⟨w.heap.size, 0, none⟩) (by simp)).trans (by simp)
          have hlt : w.heap.size < w1.heap.size := by have := hb1.size; simp at this; omega
          have hcall := hplan w1 hb2
          clear hplan hidx
          go_wp2_with fail
          refine hcall.mono ?_
          rintro e w2 ⟨rfl, hb3⟩
          have hc2 : w2.cell? ⟨w.heap.size, 0, none⟩ = some (.string a1) := (hb3.cell (p := ⟨w.heap.size, 0, none⟩) hlt).trans hc1
          clear hcall hc1
          have hdig2 := hdig w2
          clear hdig
          go_wp2_with fail
          refine hdig2.mono ?_
          rintro e w3 ⟨rfl, hb4⟩
          clear hdig2 hc2
          go_wp2
          go_ret2
          exact ⟨rfl, (hb2.trans (hb3.mono hb2.size)).trans (hb4.mono (hb2.trans (hb3.mono hb2.size)).size)⟩
        · rw [if_neg hj0] at h
          have dj : decide (j < 0) = false := decide_eq_false hj0
          by_cases hj1 : j < (l0.length : Int)
          · rw [if_pos hj1] at h
            simp only [Option.some.injEq, Prod.mk.injEq] at h
            obtain ⟨e1, rfl⟩ := h
            have hj2 : 0 ≤ j := by omega
            have hread := fun (W : World) (hW : Below w.heap.size w W) => Kd.at_string (Kd.C_below HR.out hW) j hj2 hj1
            rw [e1] at hread
            have d0 : decide (0 ≤ j) = true := decide_eq_true hj2
            have d1 : decide (j < (l0.length : Int)) = true := decide_eq_true hj1
            clear e1
            go_enter Tryd.func20, Tryd.ntmps20
            go_wp2_with fail
            refine hidx.mono ?_
            rintro e w1 ⟨rfl, hb1⟩
            have hb2 : Below w.heap.size w w1 := ((Below.refl _ w).alloc (Nat.le_refl _) _).trans (hb1.mono (by simp))
            have hc1 : w1.cell? ⟨w.heap.size, 0, none⟩ = some (.string a1) := (hb1.cell (p := ⟨w.heap.size, 0, none⟩) (by simp)).trans (by simp)
            have hlt : w.heap.size < w1.heap.size := by have := hb1.size; simp at this; omega
            have hcall := hplan w1 hb2
            clear hplan hidx
            go_wp2_with fail
            refine hcall.mono ?_
            rintro e w2 ⟨rfl, hb3⟩
            have hc2 : w2.cell? ⟨w.heap.size, 0, none⟩ = some (.string a1) := (hb3.cell (p := ⟨w.heap.size, 0, none⟩) hlt).trans hc1
            clear hcall hc1
            have hdig2 := hdig w2
            clear hdig
            go_wp2_with fail
            refine hdig2.mono ?_
            rintro e w3 ⟨rfl, hb4⟩
            clear hdig2 hc2
            have hb5 := (hb2.trans (hb3.mono hb2.size)).trans (hb4.mono (hb2.trans (hb3.mono hb2.size)).size)
            obtain ⟨ad, hA, hcell⟩ := hread w3 hb5
            subst hA
            clear hread
            go_wp2
            go_ret2
            exact ⟨rfl, hb5⟩
          · rw [if_neg hj1] at h
            exact absurd h (by simp)
  · exact absurd h (by simp)

end Go.Proofs.YthhngfnamkebmaaDoor.PA
