-- printed by xprint.py: the kit's print.py with given contracts
import Derived.Test.YtepkhpnoibillaaDoorPAx0
import Derived.Test.YtepkhpnoibillaaDoorPAx1
import Derived.Test.YtepkhpnoibillaaDoorPAx2
namespace Go.Proofs.YtepkhpnoibillaaDoor.PA
open Go.RowKit Go.Proofs.YtepkhpnoibillaaDoorW.PrintWords Go.Proofs.YtepkhpnoibillaaDoorW.PrintLast Go.Proofs.YtepkhpnoibillaaDoorW.PrintMore
attribute [local go_sem] max2_int min2_int max_two min_two max_three min_three max_four min_four   -- for this text's walks alone
set_option linter.unusedVariables false
set_option linter.unusedSimpArgs false

/-! ### impl_Scheme_sum: function 34 -/
def impl_Scheme_sum.l0 : Nat → ByteArray → Int → Int → Int → Int → List Int → Option (Int × Int)
  | 0, _, _, _, _, _, _ => none
  | k + 1, x1, x5, x8, x9, x1000, x1001 => if x9 < x8 then (if 0 ≤ x9 then (if x9 < (x1.size : Int) then ((impl_digit.f (bt x1 x9)).bind fun t147 => (if x9 < (x1001.length : Int) then (impl_Scheme_sum.l0 k x1 (wrap64 (x5 + (wrap64 (t147 * (rd x1001 x9))))) x8 (wrap64 (x9 + 1)) x1000 x1001) else (none))) else (none)) else (none)) else (some (x5, x1000))
def impl_Scheme_sum.f (k : Nat) (s0_0 : Int) (s0_1 : List Int) (a1 : ByteArray) : Option (Int × Int) := impl_Scheme_sum.l0 k a1 0 (a1.size : Int) 0 s0_0 s0_1
theorem impl_Scheme_sum.mono_l : ∀ k, (∀ y0 y1 y2 y3 y4 y5, LeO (impl_Scheme_sum.l0 k y0 y1 y2 y3 y4 y5) (impl_Scheme_sum.l0 (k + 1) y0 y1 y2 y3 y4 y5))
  | 0 => fun _ _ _ _ _ _ r h => by simp [impl_Scheme_sum.l0] at h
  | k + 1 => by
    have ih0 := impl_Scheme_sum.mono_l k
    · intro y0 y1 y2 y3 y4 y5
      unfold impl_Scheme_sum.l0
      repeat' first
      | (with_reducible exact ih0 _ _ _ _ _ _)
      | (with_reducible exact LeO.refl _)
      | (with_reducible exact LeO.none _)
      | (with_reducible refine LeO.ite ?_ ?_)
      | (with_reducible refine LeO.bind ?_ (fun _ => ?_))
      | exact ih0 _ _ _ _ _ _
      | exact LeO.none _
      | refine LeO.ite ?_ ?_
      | refine LeO.bind ?_ (fun _ => ?_)
theorem impl_Scheme_sum.mono : ∀ a0 a1 a2 k, LeO (impl_Scheme_sum.f k a0 a1 a2) (impl_Scheme_sum.f (k + 1) a0 a1 a2) := by
  intro a0 a1 a2 k
  have ih0 := impl_Scheme_sum.mono_l k
  unfold impl_Scheme_sum.f
  repeat' first
      | (with_reducible exact ih0 _ _ _ _ _ _)
      | (with_reducible exact LeO.refl _)
      | (with_reducible exact LeO.none _)
      | (with_reducible refine LeO.ite ?_ ?_)
      | (with_reducible refine LeO.bind ?_ (fun _ => ?_))
      | exact ih0 _ _ _ _ _ _
      | exact LeO.none _
      | refine LeO.ite ?_ ?_
      | refine LeO.bind ?_ (fun _ => ?_)
set_option maxHeartbeats 8000000 in
set_option maxRecDepth 100000 in
theorem impl_Scheme_sum.calls (k : Nat) (g : Nat) (s0_0 : Int) (s0_1 : List Int) (a1 : ByteArray) (r1 : Int) (r2 : Int) (w0 w : World) (hI : IsS28 w0 w g s0_0 s0_1) (hB : Below w0.heap.size w0 w) (h : impl_Scheme_sum.f k s0_0 s0_1 a1 = some (r1, r2)) :
    Calls Tryd.prog 34 #[.pointer (some ⟨g, 0, none⟩), .string a1] w fun e w' => e = .returned (.int .i64 r1) ∧ IsS28 w0 w' g r2 s0_1 ∧ Below w0.heap.size w0 w' ∧ KeepBut w w' g none := by
  have HI0 := Aside0.mk hI
  have HK := Aside0.mk (KeepBut.refl w g none)
  have HL := Aside0.mk hB.size
  clear hI
  have HW0 := Aside0.mk hB.size
  have HB := Aside0.mk hB
  clear hB
  have H : (impl_Scheme_sum.l0 k a1 0 (a1.size : Int) 0 s0_0 s0_1) = some (r1, r2) := h
  clear h
  have H' := Aside0.mk H
  clear H
  go_enter Tryd.func34, Tryd.ntmps34
  go_wp2
  repeat (go_quiet (fail); try go_wp2)
  go_loopg [5, 9] k (fun kq v5 v9 w' => ∃ (x5_1 : Int) (x9_1 : Int), v5 = .int .i64 x5_1 ∧ v9 = .int .i64 x9_1 ∧ Aside0 (impl_Scheme_sum.l0 kq a1 x5_1 (a1.size : Int) x9_1 s0_0 s0_1 = some (r1, r2)) ∧ Aside0 (kq ≤ k) ∧ Aside0 (IsS28 w0 w' g s0_0 s0_1) ∧ Aside0 (KeepBut w w' g none) ∧ Aside0 (Below w0.heap.size w0 w'))
  case atStart => exact ⟨(0), (0), (by first | rfl | (simp; done) | (simp [*]; done) | (simp [isEmpty_bne]; done) | (simp [i64_w]; done) | (simp only [i64_w]; done)), (by first | rfl | (simp; done) | (simp [*]; done) | (simp [isEmpty_bne]; done) | (simp [i64_w]; done) | (simp only [i64_w]; done)), H', ⟨Nat.le_refl _⟩, ⟨by repeat (first | (with_reducible first | exact HI0.out | apply IsS28.alloc | apply IsS28.drewN | apply IsS28.drew | apply IsS28.set_0) | exact HI0.out)⟩, ⟨by repeat (first | (with_reducible first | exact HK.out | apply KeepBut.set_ | apply keep_drewN | apply keep_drew | apply keep_alloc) | exact HK.out)⟩, ⟨by repeat (first | (with_reducible first | exact HB.out | apply below_alloc | apply pw_below_drewN | apply below_drew1 | refine below_set ?_ (IsS28.ge HI0.out)) | exact HB.out)⟩⟩
  case round =>
    clear H'
    try clear p2
    obtain ⟨x5_1, x9_1, rfl, rfl, HA, HK1, HI0, HK, HB⟩ := hrel
    cases gk with
    | zero => exact absurd HA.out (by simp [impl_Scheme_sum.l0])
    | succ k1 =>
      have H := HA.out
      clear HA
      simp only [impl_Scheme_sum.l0] at H
      by_cases c3 : x9_1 < (a1.size : Int)
      · rw [if_pos c3] at H
        have c3b0 : decide (x9_1 < (a1.size : Int)) = true := decide_eq_true c3
        clear c3
        by_cases c4 : 0 ≤ x9_1
        · rw [if_pos c4] at H
          have c4b0 : decide (0 ≤ x9_1) = true := decide_eq_true c4
          clear c4
          by_cases c5 : x9_1 < (a1.size : Int)
          · rw [if_pos c5] at H
            have c5b0 : decide (x9_1 < (a1.size : Int)) = true := decide_eq_true c5
            clear c5
            replace H := Option.bind_eq_some_iff.mp H
            obtain ⟨t147, A70, H⟩ := H
            replace H : (if x9_1 < (s0_1.length : Int) then (impl_Scheme_sum.l0 k1 a1 (wrap64 (x5_1 + (wrap64 (t147 * (rd s0_1 x9_1))))) (a1.size : Int) (wrap64 (x9_1 + 1)) s0_0 s0_1) else (none)) = some (r1, r2) := H
            have A7 := Aside0.mk A70
            clear A70
            by_cases c8 : x9_1 < (s0_1.length : Int)
            · rw [if_pos c8] at H
              have c8b0 : decide (x9_1 < (s0_1.length : Int)) = true := decide_eq_true c8
              clear c8
              have H' := Aside0.mk H
              clear H
              have p6 : 0 ≤ (x9_1 : Int) := of_decide_eq_true (by first | (with_reducible assumption) | assumption)
              have q6 : x9_1 < (a1.size : Int) := of_decide_eq_true (by first | (with_reducible assumption) | assumption)
              have hx6 := bt_at a1 x9_1
              replace p6 := eq_true p6
              replace q6 := eq_true q6
              go_wp2_with (first | (go_at_call 36; (with_reducible refine (impl_digit.calls (bt a1 x9_1) t147 _ A7.out).mono ?_); rintro e w' ⟨rfl, ⟨nd, rfl⟩⟩; (try first | exact ⟨rfl, _, World.drewN_drewN _ _ _⟩ | exact ⟨rfl, _, Eq.trans (World.drewN_drewN _ _ _) (congrArg (World.drewN _) (Nat.add_assoc _ _ _))⟩); obtain ⟨ASz9_1, cSz9_1, HGz9, hgz9, HSz9_1⟩ := HI0.out; have hcz9_0 := cellS28_0 HGz9; have hcz9_1 := cellS28_1 HGz9; have hfz9_0 := blk_frozen HGz9 0; clear HGz9 hgz9; have p148 : 0 ≤ (x9_1 : Int) := of_decide_eq_true (by first | (with_reducible assumption) | assumption); have q148 : x9_1 < (s0_1.length : Int) := of_decide_eq_true (by first | (with_reducible assumption) | assumption); obtain ⟨ad148, e148, hx148_0⟩ := Kd.at_int HSz9_1 x9_1 p148 q148; cases e148; replace hx148_0 := pw_cell_below HB.out hx148_0; replace p148 := eq_true p148; replace q148 := eq_true q148))
              repeat (go_quiet (first | (go_at_call 36; (with_reducible refine (impl_digit.calls (bt a1 x9_1) t147 _ A7.out).mono ?_); rintro e w' ⟨rfl, ⟨nd, rfl⟩⟩; (try first | exact ⟨rfl, _, World.drewN_drewN _ _ _⟩ | exact ⟨rfl, _, Eq.trans (World.drewN_drewN _ _ _) (congrArg (World.drewN _) (Nat.add_assoc _ _ _))⟩); obtain ⟨ASz9_1, cSz9_1, HGz9, hgz9, HSz9_1⟩ := HI0.out; have hcz9_0 := cellS28_0 HGz9; have hcz9_1 := cellS28_1 HGz9; have hfz9_0 := blk_frozen HGz9 0; clear HGz9 hgz9; have p148 : 0 ≤ (x9_1 : Int) := of_decide_eq_true (by first | (with_reducible assumption) | assumption); have q148 : x9_1 < (s0_1.length : Int) := of_decide_eq_true (by first | (with_reducible assumption) | assumption); obtain ⟨ad148, e148, hx148_0⟩ := Kd.at_int HSz9_1 x9_1 p148 q148; cases e148; replace hx148_0 := pw_cell_below HB.out hx148_0; replace p148 := eq_true p148; replace q148 := eq_true q148)); try go_wp2_with (first | (go_at_call 36; (with_reducible refine (impl_digit.calls (bt a1 x9_1) t147 _ A7.out).mono ?_); rintro e w' ⟨rfl, ⟨nd, rfl⟩⟩; (try first | exact ⟨rfl, _, World.drewN_drewN _ _ _⟩ | exact ⟨rfl, _, Eq.trans (World.drewN_drewN _ _ _) (congrArg (World.drewN _) (Nat.add_assoc _ _ _))⟩); obtain ⟨ASz9_1, cSz9_1, HGz9, hgz9, HSz9_1⟩ := HI0.out; have hcz9_0 := cellS28_0 HGz9; have hcz9_1 := cellS28_1 HGz9; have hfz9_0 := blk_frozen HGz9 0; clear HGz9 hgz9; have p148 : 0 ≤ (x9_1 : Int) := of_decide_eq_true (by first | (with_reducible assumption) | assumption); have q148 : x9_1 < (s0_1.length : Int) := of_decide_eq_true (by first | (with_reducible assumption) | assumption); obtain ⟨ad148, e148, hx148_0⟩ := Kd.at_int HSz9_1 x9_1 p148 q148; cases e148; replace hx148_0 := pw_cell_below HB.out hx148_0; replace p148 := eq_true p148; replace q148 := eq_true q148)))
              go_roundg k1
              case measure => have := HK1.out; omega
              case rel => exact ⟨(wrap64 (x5_1 + (wrap64 (t147 * (rd s0_1 x9_1))))), (wrap64 (x9_1 + 1)), (by first | rfl | (simp; done) | (simp [*]; done) | (simp [isEmpty_bne]; done) | (simp [i64_w]; done) | (simp only [i64_w]; done)), (by first | rfl | (simp; done) | (simp [*]; done) | (simp [isEmpty_bne]; done) | (simp [i64_w]; done) | (simp only [i64_w]; done)), H', ⟨by have := HK1.out; omega⟩, ⟨by repeat (first | (with_reducible first | exact HI0.out | apply IsS28.alloc | apply IsS28.drewN | apply IsS28.drew | apply IsS28.set_0) | exact HI0.out)⟩, ⟨by repeat (first | (with_reducible first | exact HK.out | apply KeepBut.set_ | apply keep_drewN | apply keep_drew | apply keep_alloc) | exact HK.out)⟩, ⟨by repeat (first | (with_reducible first | exact HB.out | apply below_alloc | apply pw_below_drewN | apply below_drew1 | refine below_set ?_ (IsS28.ge HI0.out)) | exact HB.out)⟩⟩
            · rw [if_neg c8] at H
              exact absurd H (by simp)
          · rw [if_neg c5] at H
            exact absurd H (by simp)
        · rw [if_neg c4] at H
          exact absurd H (by simp)
      · rw [if_neg c3] at H
        have c3b0 : decide (x9_1 < (a1.size : Int)) = false := decide_eq_false c3
        clear c3
        simp only [Option.some.injEq, Prod.mk.injEq] at H
        obtain ⟨rfl, rfl⟩ := H
        go_wp2
        repeat (go_quiet (fail); try go_wp2)
        go_ret
        exact ⟨by first | rfl | (simp [errW_none, errW_some] <;> rfl) | (simp [*, errW_none, errW_some] <;> rfl), by repeat (first | (with_reducible first | exact HI0.out | apply IsS28.alloc | apply IsS28.drewN | apply IsS28.drew | apply IsS28.set_0) | exact HI0.out), by repeat (first | (with_reducible first | exact HB.out | apply below_alloc | apply pw_below_drewN | apply below_drew1 | refine below_set ?_ (IsS28.ge HI0.out)) | exact HB.out), by repeat (first | (with_reducible first | exact HK.out | apply KeepBut.set_ | apply keep_drewN | apply keep_drew | apply keep_alloc) | exact HK.out)⟩


/-! ### impl_Scheme_least: function 37 -/
def sgN : ByteArray := ⟨#[48, 49, 50, 51, 52, 53, 54, 55, 56, 57, 88]⟩
set_option maxHeartbeats 8000000 in
set_option maxRecDepth 100000 in
/-- sum only reads -/
theorem sum_readsN (k : Nat) (g : Nat) (m : Int) (ws : List Int) (a1 : ByteArray) (r1 r2 : Int) (A1 : Option Addr) (c1 : Nat) (w : World) (h0 : w.cell? ⟨g, 0, none⟩ = some (.int .i64 m)) (h1 : w.cell? ⟨g, 1, none⟩ = some (.slice A1 ws.length c1)) (hC : Kd.C (Kd.int .i64) w A1 ws.length ws) (h : impl_Scheme_sum.f k m ws a1 = some (r1, r2)) :
    Calls Tryd.prog 34 #[.pointer (some ⟨g, 0, none⟩), .string a1] w fun e w' => e = .returned (.int .i64 r1) ∧ ∃ q, w' = w.drewN q := by
  have HC := Aside0.mk hC
  have H : (impl_Scheme_sum.l0 k a1 0 (a1.size : Int) 0 m ws) = some (r1, r2) := h
  clear h hC
  have H' := Aside0.mk H
  clear H
  go_enter Tryd.func34, Tryd.ntmps34
  go_wp2
  repeat (go_quiet (fail); try go_wp2)
  go_loopg [5, 9] k (fun kq v5 v9 w' => ∃ (x5_1 : Int) (x9_1 : Int), v5 = .int .i64 x5_1 ∧ v9 = .int .i64 x9_1 ∧ Aside0 (impl_Scheme_sum.l0 kq a1 x5_1 (a1.size : Int) x9_1 m ws = some (r1, r2)) ∧ Aside0 (kq ≤ k) ∧ Aside0 (∃ q, w' = w.drewN q))
  case atStart => exact ⟨0, 0, rfl, rfl, H', ⟨Nat.le_refl _⟩, ⟨⟨0, rfl⟩⟩⟩
  case round =>
    clear H'
    obtain ⟨x5_1, x9_1, rfl, rfl, HA, HK1, HQ⟩ := hrel
    obtain ⟨q, hq⟩ := HQ.out
    subst hq
    clear HQ
    cases gk with
    | zero => exact absurd HA.out (by simp [impl_Scheme_sum.l0])
    | succ k1 =>
      have H := HA.out
      clear HA
      simp only [impl_Scheme_sum.l0] at H
      by_cases c3 : x9_1 < (a1.size : Int)
      · rw [if_pos c3] at H
        have c3b0 : decide (x9_1 < (a1.size : Int)) = true := decide_eq_true c3
        by_cases c4 : 0 ≤ x9_1
        · rw [if_pos c4, if_pos c3] at H
          have c4b0 : decide (0 ≤ x9_1) = true := decide_eq_true c4
          replace H := Option.bind_eq_some_iff.mp H
          obtain ⟨t, A70, H⟩ := H
          have A7 := Aside0.mk A70
          clear A70
          by_cases c8 : x9_1 < (ws.length : Int)
          · rw [if_pos c8] at H
            have c8b0 : decide (x9_1 < (ws.length : Int)) = true := decide_eq_true c8
            have H' := Aside0.mk H
            obtain ⟨ad, e, hx⟩ := Kd.at_int HC.out x9_1 c4 c8
            cases e
            have hx6 := bt_at a1 x9_1
            have p4 := eq_true c4
            have p3 := eq_true c3
            have p8 := eq_true c8
            clear H c3 c4 c8
            go_wp2_with (first | (go_at_call 36; (with_reducible refine (impl_digit.calls (bt a1 x9_1) t _ A7.out).mono ?_); rintro e w' ⟨rfl, ⟨nd, rfl⟩⟩; (try first | exact ⟨rfl, _, World.drewN_drewN _ _ _⟩ | exact ⟨rfl, _, Eq.trans (World.drewN_drewN _ _ _) (congrArg (World.drewN _) (Nat.add_assoc _ _ _))⟩)))
            repeat (go_quiet (first | (go_at_call 36; (with_reducible refine (impl_digit.calls (bt a1 x9_1) t _ A7.out).mono ?_); rintro e w' ⟨rfl, ⟨nd, rfl⟩⟩; (try first | exact ⟨rfl, _, World.drewN_drewN _ _ _⟩ | exact ⟨rfl, _, Eq.trans (World.drewN_drewN _ _ _) (congrArg (World.drewN _) (Nat.add_assoc _ _ _))⟩))); try go_wp2)
            go_roundg k1
            case measure => have := HK1.out; omega
            case rel => exact ⟨_, _, (by first | rfl | (simp; done) | (simp [*]; done) | (simp only [i64_w]; done)), (by first | rfl | (simp; done) | (simp [*]; done) | (simp only [i64_w]; done)), H', ⟨by have := HK1.out; omega⟩, ⟨by first | exact ⟨_, rfl⟩ | exact ⟨_, World.drewN_drewN _ _ _⟩⟩⟩
          · rw [if_neg c8] at H
            exact absurd H (by simp)
        · rw [if_neg c4] at H
          exact absurd H (by simp)
      · rw [if_neg c3] at H
        have c3b0 : decide (x9_1 < (a1.size : Int)) = false := decide_eq_false c3
        clear c3
        simp only [Option.some.injEq, Prod.mk.injEq] at H
        obtain ⟨rfl, rfl⟩ := H
        go_wp2
        repeat (go_quiet (fail); try go_wp2)
        go_ret
        exact ⟨by first | rfl | simp, by first | exact ⟨_, rfl⟩ | exact ⟨_, World.drewN_drewN _ _ _⟩⟩
/-- the first digit of which something is so -/
def dg1 (g : Nat → Bool) : Nat := ((List.range 10).find? g).getD 10
theorem dg1_any {g : Nat → Bool} (h : (List.range 10).any g = true) : dg1 g < 10 ∧ g (dg1 g) = true ∧ ∀ j, j < dg1 g → g j = false := by
  rw [List.any_eq_true] at h
  obtain ⟨d, hd, hg⟩ := h
  cases hf : (List.range 10).find? g with
  | none => exact absurd hg (by simpa using List.find?_eq_none.mp hf d hd)
  | some x =>
    have hx : dg1 g = x := by unfold dg1; rw [hf]; rfl
    rw [List.find?_range_eq_some] at hf
    obtain ⟨h1, h2, h3⟩ := hf
    rw [hx]
    exact ⟨by simpa using h2, h1, fun j hj => by simpa using h3 j hj⟩
def candG (m : Nat) (ws : List Int) (top : List Bool) (c r d : Nat) : Bool := (tabC m ws top c).getD (Int.tmod ((r : Nat) + (d : Nat) * ws.getD (ws.length - 1 - c) 0 : Int) (m : Int)).toNat false
/-- the least digits behind a rest, so many places being left -/
def leastGo (m : Nat) (ws : List Int) (top : List Bool) : Nat → Nat → ByteArray → ByteArray × Nat
  | 0, r, p => (p, r)
  | c + 1, r, p => leastGo m ws top c (Int.tmod ((r : Nat) + (dg1 (candG m ws top c r) : Nat) * ws.getD (ws.length - 1 - c) 0 : Int) (m : Int)).toNat (p ++ digS.extract (dg1 (candG m ws top c r)) (dg1 (candG m ws top c r) + 1))
def chkN (m r : Nat) : Nat := (Int.tmod ((m : Int) - Int.tmod (r : Int) (m : Int)) (m : Int)).toNat
def leastV (m : Nat) (ws : List Int) (top : List Bool) (p : ByteArray) (v : Int) : ByteArray × Bool :=
  if (tabC m ws top (ws.length - p.size)).getD (Int.tmod v (m : Int)).toNat false = true then
    ((leastGo m ws top (ws.length - p.size) (Int.tmod v (m : Int)).toNat p).1 ++ sgN.extract (chkN m (leastGo m ws top (ws.length - p.size) (Int.tmod v (m : Int)).toNat p).2) (chkN m (leastGo m ws top (ws.length - p.size) (Int.tmod v (m : Int)).toNat p).2 + 1), true)
  else (⟨#[]⟩, false)
set_option maxHeartbeats 8000000 in
set_option maxRecDepth 100000 in
/-- least only reads -/
theorem impl_Scheme_least.calls (k g m : Nat) (ws : List Int) (top : List Bool) (G B b0 : Nat) (hs : Array Value) (a1 : ByteArray) (v : Int) (A1 : Option Addr) (c1 : Nat) (w : World) (h0 : w.cell? ⟨g, 0, none⟩ = some (.int .i64 (m : Int))) (h1 : w.cell? ⟨g, 1, none⟩ = some (.slice A1 ws.length c1)) (hC : Kd.C (Kd.int .i64) w A1 ws.length ws)
    (hm : 2 ≤ m ∧ m ≤ 13) (hn : ws.length ≤ 12) (hws : ∀ x ∈ ws, 0 ≤ x ∧ x < m) (htl : top.length = m) (htop : ∀ r : Nat, r < m → top.getD r false = true → chkN m r ≤ 10)
    (hsz : a1.size ≤ ws.length) (hG : w.heap[G]? = some (.cells hs 71 (0, 0))) (hhs : hs.size = ws.length + 1) (hR : RowsAt w ws.length m (tabC m ws top) hs B b0 (ws.length + 1)) (hv : 0 ≤ v) (hsum : impl_Scheme_sum.f k (m : Int) ws a1 = some (v, (m : Int))) :
    Calls Tryd.prog 37 #[.pointer (some ⟨g, 0, none⟩), .slice (some ⟨G, 0, none⟩) (ws.length + 1) (ws.length + 1), .string a1] w fun e w' => e = .returned (.tuple #[.string (leastV m ws top a1 v).1, .bool (leastV m ws top a1 v).2]) ∧ ∃ q, w' = w.drewN q := by
  have hsumc := fun n => sum_readsN k g (m : Int) ws a1 v (m : Int) A1 c1 (w.drewN n) h0 h1 (Kd.C_below hC (pw_below_drewN (Below.refl _ w) n)) hsum
  obtain ⟨x, hx⟩ : ∃ x : Nat, Int.tmod v (m : Int) = (x : Int) := ⟨(Int.tmod v (m : Int)).toNat, by rw [Int.tmod_eq_emod_of_nonneg hv]; exact (Int.toNat_of_nonneg (Int.emod_nonneg _ (by omega))).symm⟩
  have hxm : x < m := by
    have h := Int.tmod_lt_of_pos v (b := (m : Int)) (by omega)
    omega
  have hm0 : ¬ m = 0 := by omega
  have hxm2 : (x : Int) < (m : Int) := by omega
  obtain ⟨gq, q1, q2, q3, q4⟩ := hR (ws.length - a1.size) (by omega)
  have hidx : ws.length - (ws.length - a1.size) = a1.size := by omega
  rw [hidx] at q1
  have hrow : w.cell? ⟨G, a1.size, none⟩ = some (.slice (some ⟨gq, 0, none⟩) m m) := by rw [cell_of_row w G a1.size hs _ (0, 0) hG]; exact q1
  have htc := tabC_len m ws top htl (ws.length - a1.size)
  obtain ⟨ub, hub⟩ : ∃ ub, (tabC m ws top (ws.length - a1.size))[x]? = some ub := ⟨_, List.getElem?_eq_getElem (by omega)⟩
  have hcu : w.cell? ⟨gq, x, none⟩ = some (.bool ub) := by
    rw [cell_of_row w gq x _ _ (0, 0) q4]
    simp [hub]
  have hV : leastV m ws top a1 v = if ub = true then ((leastGo m ws top (ws.length - a1.size) x a1).1 ++ sgN.extract (chkN m (leastGo m ws top (ws.length - a1.size) x a1).2) (chkN m (leastGo m ws top (ws.length - a1.size) x a1).2 + 1), true) else (⟨#[]⟩, false) := by
    unfold leastV
    rw [hx, Int.toNat_natCast, List.getD, hub, Option.getD_some]
  rw [hV]
  have hi1 : (a1.size : Int) < (ws.length : Int) + 1 := by omega
  have hi0 : (0 : Int) ≤ (a1.size : Int) := by omega
  have HC := Aside0.mk hC
  have HWS := Aside0.mk hws
  have HT := Aside0.mk htop
  have HG := Aside0.mk hG
  have HHS := Aside0.mk hhs
  have HR := Aside0.mk hR
  have HS := Aside0.mk hsumc
  have HTL := Aside0.mk htl
  have HUB := Aside0.mk hub
  clear hC hws htop hG hhs hR hsumc hsum hV htl hub q1 q2 q3 q4 htc hidx
  cases ub with
  | false =>
    rw [if_neg Bool.false_ne_true]
    go_enter Tryd.func37, Tryd.ntmps37
    go_wp2
    go_quiet (first
      | (go_at_call 34; (with_reducible refine (HS.out _).mono ?_); rintro e w' ⟨rfl, ⟨nd, rfl⟩⟩; (try first | exact ⟨rfl, _, World.drewN_drewN _ _ _⟩ | exact ⟨rfl, _, Eq.trans (World.drewN_drewN _ _ _) (congrArg (World.drewN _) (Nat.add_assoc _ _ _))⟩)))
    go_wp2
    go_ret2
    exact ⟨rfl, _, rfl⟩
  | true =>
    rw [if_pos rfl]
    obtain ⟨L, hL⟩ : ∃ L, leastGo m ws top (ws.length - a1.size) x a1 = L := ⟨_, rfl⟩
    rw [hL]
    have HL := Aside0.mk hL
    clear hL
    go_enter Tryd.func37, Tryd.ntmps37
    go_wp2
    go_quiet (first
      | (go_at_call 34; (with_reducible refine (HS.out _).mono ?_); rintro e w' ⟨rfl, ⟨nd, rfl⟩⟩; (try first | exact ⟨rfl, _, World.drewN_drewN _ _ _⟩ | exact ⟨rfl, _, Eq.trans (World.drewN_drewN _ _ _) (congrArg (World.drewN _) (Nat.add_assoc _ _ _))⟩)))
    go_wp2
    clear hx hrow hcu hi0 hi1
    go_loopg [2, 8, 9] (ws.length + 1) (fun gg s2 s8 s9 wr => ∃ (c r : Nat) (p : ByteArray), s2 = .string p ∧ s8 = .int .i64 (r : Int) ∧ s9 = .int .i64 ((ws.length - c : Nat) : Int) ∧ c ≤ gg ∧ c ≤ ws.length ∧ r < m ∧ Aside0 (p.size + c ≤ 12) ∧ Aside0 ((tabC m ws top c)[r]? = some true) ∧ Aside0 (leastGo m ws top c r p = L) ∧ Aside0 (∃ q, wr = w.drewN q))
    case atStart => exact ⟨ws.length - a1.size, x, a1, rfl, rfl, by rw [show ws.length - (ws.length - a1.size) = a1.size by omega], by omega, by omega, hxm, ⟨by omega⟩, ⟨HUB.out⟩, HL, ⟨_, rfl⟩⟩
    case round =>
      clear HUB HL
      obtain ⟨c, r, p, rfl, rfl, rfl, hgg, hcn, hrm, HP, HO, HL, HQ⟩ := hrel
      obtain ⟨q, hq⟩ := HQ.out
      subst hq
      clear HQ
      cases c with
      | zero =>
        have hl0 : ¬ ((ws.length - 0 : Nat) : Int) < (ws.length : Int) := by omega
        have hLL := HL.out
        simp only [leastGo] at hLL
        subst hLL
        have hck10 := HT.out r hrm (by have h := HO.out; simp only [tabC] at h; simp [List.getD, h])
        have hchk : ∀ n, Calls Tryd.prog 60 #[.pointer (some ⟨g, 0, none⟩), .int .i64 (r : Int)] (w.drewN n) fun e w' => e = .returned (.int .i64 (chkN m r : Nat)) ∧ ∃ q, w' = (w.drewN n).drewN q := fun n => check_reads g (m : Int) ws (r : Int) (chkN m r : Nat) (m : Int) (w.drewN n) h0 (by
          unfold impl_Scheme_check.f
          rw [if_neg (by omega)]
          have h1 : 0 ≤ Int.tmod (r : Int) (m : Int) := Int.tmod_nonneg _ (by omega)
          have h2 := Int.tmod_lt_of_pos (r : Int) (b := (m : Int)) (by omega)
          have h3 : wrap64 ((m : Int) - Int.tmod (r : Int) (m : Int)) = (m : Int) - Int.tmod (r : Int) (m : Int) := by unfold wrap64; omega
          have h4 : 0 ≤ Int.tmod ((m : Int) - Int.tmod (r : Int) (m : Int)) (m : Int) := Int.tmod_nonneg _ (by omega)
          rw [h3]
          unfold chkN
          rw [Int.toNat_of_nonneg h4])
        have HCK := Aside0.mk hchk
        clear hchk
        obtain ⟨ck, hck⟩ : ∃ ck, chkN m r = ck := ⟨_, rfl⟩
        rw [hck] at hck10 HCK
        have HCQ := Aside0.mk hck
        clear hck
        have k1 : IntKind.i64.wrap ((ck : Int) + 1) = (ck : Int) + 1 := by rw [IntKind.wrap_i64]; omega
        have k2 : ((ck : Int) ≤ (ck : Int) + 1) = True := eq_true (by omega)
        have k3 : ((ck : Int) + 1 ≤ 11) = True := eq_true (by omega)
        have k4 : (9223372036854775807 < p.size + 1) = False := eq_false (by have := HP.out; omega)
        go_wp2_with fail
        refine (HCK.out _).mono ?_
        rintro e w1 ⟨rfl, ⟨q1, rfl⟩⟩
        go_wp2
        go_ret2
        exact ⟨by rw [HCQ.out]; rfl, by first | exact ⟨_, rfl⟩ | exact ⟨_, World.drewN_drewN _ _ _⟩⟩
      | succ c2 =>
        obtain ⟨i, hi⟩ : ∃ i : Nat, i = ws.length - (c2 + 1) := ⟨_, rfl⟩
        rw [← hi]
        have hil : i < ws.length := by omega
        have hilz : (i : Int) < (ws.length : Int) := by omega
        have hi0 : (0 : Int) ≤ (i : Int) := by omega
        have hi1a : (0 : Int) ≤ (i : Int) + 1 := by omega
        have hi1b : (i : Int) + 1 < (ws.length : Int) + 1 := by omega
        have hi1w : IntKind.i64.wrap ((i : Int) + 1) = (i : Int) + 1 := by rw [IntKind.wrap_i64]; omega
        have hi1c : ((i : Int) + 1).toNat = i + 1 := by omega
        obtain ⟨gv, v1, v2, v3, v4⟩ := HR.out c2 (by omega)
        rw [show ws.length - c2 = i + 1 by omega] at v1
        have hup : w.cell? ⟨G, i + 1, none⟩ = some (.slice (some ⟨gv, 0, none⟩) m m) := by rw [cell_of_row w G (i + 1) hs _ (0, 0) HG.out]; exact v1
        obtain ⟨aw, hAw, hxw⟩ := Kd.at_int HC.out (i : Int) (by omega) (by omega)
        subst hAw
        have hwi : rd ws (i : Int) = ws[i] := by simp [rd, hil]
        have hwb := HWS.out ws[i] (List.getElem_mem hil)
        have hwg2 : ws.getD (ws.length - 1 - c2) 0 = ws[i] := by rw [show ws.length - 1 - c2 = i by omega]; simp [List.getD, hil]
        rw [hwi] at hxw
        simp only [Int.toNat_natCast] at hxw
        have HWG := Aside0.mk hwg2
        have HI := Aside0.mk hi
        clear hwi hwg2 hi
        generalize hwq : ws[i] = wv at hxw hwb HWG
        clear hwq
        have hany : (List.range 10).any (candG m ws top c2 r) = true := by
          have h := HO.out
          simp only [tabC, upRow] at h
          rw [List.getElem?_map, List.getElem?_range hrm] at h
          simp only [Option.map_some, Option.some.injEq] at h
          exact h
        obtain ⟨d1, d2, d3⟩ := dg1_any hany
        obtain ⟨D, hD⟩ : ∃ D, dg1 (candG m ws top c2 r) = D := ⟨_, rfl⟩
        rw [hD] at d1 d2 d3
        have HLL := HL.out
        simp only [leastGo] at HLL
        rw [hD, HWG.out] at HLL
        have HLE := Aside0.mk HLL
        have HD2 := Aside0.mk d2
        have HD3 := Aside0.mk d3
        clear HLL hD d2 d3 hany HL HO
        go_wp2_with fail
        go_loopg [10] 10 (fun gg3 s10 W => ∃ d : Nat, s10 = .int .i64 (d : Int) ∧ d ≤ D ∧ 10 - d ≤ gg3 ∧ Aside0 (∃ q, W = w.drewN q))
        case atStart => exact ⟨0, rfl, by omega, by omega, ⟨_, rfl⟩⟩
        case round =>
          obtain ⟨d, rfl, hd, hgg3, HQ⟩ := hrel
          obtain ⟨q, hq⟩ := HQ.out
          subst hq
          clear HQ
          have hpb : (d : Int) * wv ≤ 9 * 13 := by
            have h1 : (d : Int) * wv ≤ 9 * wv := Int.mul_le_mul_of_nonneg_right (by omega) hwb.1
            omega
          have hpn : 0 ≤ (d : Int) * wv := Int.mul_nonneg (by omega) hwb.1
          have hwr1 : IntKind.i64.wrap ((d : Int) * wv) = (d : Int) * wv := by rw [IntKind.wrap_i64]; omega
          have hwr2 : IntKind.i64.wrap ((r : Int) + (d : Int) * wv) = (r : Int) + (d : Int) * wv := by rw [IntKind.wrap_i64]; omega
          obtain ⟨y, hy⟩ : ∃ y : Nat, Int.tmod ((r : Int) + (d : Int) * wv) (m : Int) = (y : Int) := ⟨(Int.tmod ((r : Int) + (d : Int) * wv) (m : Int)).toNat, by rw [Int.tmod_eq_emod_of_nonneg (by omega)]; exact (Int.toNat_of_nonneg (Int.emod_nonneg _ (by omega))).symm⟩
          have hym : y < m := by
            have h := Int.tmod_lt_of_pos ((r : Int) + (d : Int) * wv) (b := (m : Int)) (by omega)
            omega
          have hymz : (y : Int) < (m : Int) := by omega
          have hwry : IntKind.i64.wrap (y : Int) = (y : Int) := by rw [IntKind.wrap_i64]; omega
          obtain ⟨ub, hub⟩ : ∃ ub, (tabC m ws top c2)[y]? = some ub := ⟨_, List.getElem?_eq_getElem (by rw [tabC_len m ws top HTL.out]; omega)⟩
          have hcu : w.cell? ⟨gv, y, none⟩ = some (.bool ub) := by
            rw [cell_of_row w gv y _ _ (0, 0) v4]
            simp [hub]
          have hcand : candG m ws top c2 r d = ub := by
            unfold candG
            rw [HWG.out, hy, Int.toNat_natCast, List.getD, hub, Option.getD_some]
          have HCD := Aside0.mk hcand
          clear hub hpb hpn hcand
          cases ub with
          | true =>
            have hdD : d = D := by
              rcases Nat.lt_or_ge d D with h | h
              · have h1 := HD3.out d h
                rw [HCD.out] at h1
                cases h1
              · omega
            have k1 : IntKind.i64.wrap ((d : Int) + 1) = (d : Int) + 1 := by rw [IntKind.wrap_i64]; omega
            have k2 : ((d : Int) ≤ (d : Int) + 1) = True := eq_true (by omega)
            have k3 : ((d : Int) + 1 ≤ 10) = True := eq_true (by omega)
            have k4 : (9223372036854775807 < p.size + 1) = False := eq_false (by have := HP.out; omega)
            have k5 : ((d : Int) + 1).toNat = d + 1 := by omega
            have k6 : (9223372036854775807 < p.size + (((d : Int) + 1).toNat - d)) = False := eq_false (by have := HP.out; omega)
            have k7 : (9223372036854775807 < p.size + (d + 1 - d)) = False := eq_false (by have := HP.out; omega)
            have k8 : (9223372036854775807 < p.size + (min (d + 1) 10 - d)) = False := eq_false (by have := HP.out; omega)
            have k9 : (9223372036854775807 < p.size + ((⟨#[48, 49, 50, 51, 52, 53, 54, 55, 56, 57]⟩ : ByteArray).extract d (d + 1)).size) = False := eq_false (by rw [ByteArray.size_extract]; have := HP.out; omega)
            have HDD := Aside0.mk hdD
            have HY := Aside0.mk hy
            clear hdD
            go_wp2
            go_quiet (fail)
            go_wp2
            go_quiet (fail)
            go_wp2
            go_roundg c2
            case measure => omega
            case rel =>
              obtain rfl := HDD.out
              refine ⟨c2, y, p ++ digS.extract d (d + 1), by first | rfl | (unfold digS; rfl), rfl, by have := HI.out; first | (go_num; done) | (congr 1; omega), Nat.le_refl _, by omega, hym, ⟨by have := HP.out; rw [ByteArray.size_append, ByteArray.size_extract]; omega⟩, ⟨?_⟩, ⟨?_⟩, by first | exact ⟨_, rfl⟩ | exact ⟨_, World.drewN_drewN _ _ _⟩⟩
              · have h1 := HCD.out
                unfold candG at h1
                rw [HWG.out, HY.out, Int.toNat_natCast, List.getD] at h1
                have h2 := tabC_len m ws top HTL.out c2
                rw [List.getElem?_eq_getElem (by omega), Option.getD_some] at h1
                rw [List.getElem?_eq_getElem (by omega), h1]
              · have h1 := HLE.out
                rw [HY.out, Int.toNat_natCast] at h1
                exact h1
          | false =>
            have hdD : d < D := by
              rcases Nat.lt_or_ge d D with h | h
              · exact h
              · obtain rfl : d = D := by omega
                have h1 := HD2.out
                rw [HCD.out] at h1
                cases h1
            have k1 : IntKind.i64.wrap ((d : Int) + 1) = (d : Int) + 1 := by rw [IntKind.wrap_i64]; omega
            go_wp2
            go_quiet (fail)
            go_wp2
            go_roundg (10 - (d + 1))
            case measure => omega
            case rel => exact ⟨d + 1, by go_num, by omega, Nat.le_refl _, by first | exact ⟨⟨_, rfl⟩⟩ | exact ⟨⟨_, World.drewN_drewN _ _ _⟩⟩⟩


/-! ### impl_NextRight: function 11 -/
/-- the table's foot -/
def topO (k : Nat) (m : Int) (ws : List Int) : Nat → Option (List Bool)
  | 0 => some []
  | r + 1 => (topO k m ws r).bind fun l => (impl_Scheme_checks.f k m ws (r : Int)).bind fun c => if c.2 = m then some (l ++ [decide ((c.1.length : Int) > 0)]) else none
theorem topO_mono (m : Int) (ws : List Int) (k : Nat) : ∀ r, LeO (topO k m ws r) (topO (k + 1) m ws r)
  | 0 => LeO.refl _
  | r + 1 => LeO.bind (topO_mono m ws k r) (fun _ => LeO.bind (impl_Scheme_checks.mono m ws _ k) (fun _ => LeO.refl _))
theorem topO_at {k : Nat} {m : Int} {ws : List Int} : ∀ {R : Nat} {l : List Bool}, topO k m ws R = some l → l.length = R ∧ ∀ r : Nat, r < R → ∃ c, impl_Scheme_checks.f k m ws (r : Int) = some (c, m) ∧ l[r]? = some (decide ((c.length : Int) > 0))
  | 0, l, h => by
    simp only [topO, Option.some.injEq] at h
    subst h
    exact ⟨rfl, fun r hr => absurd hr (by omega)⟩
  | R + 1, l, h => by
    simp only [topO] at h
    obtain ⟨l0, h0, h⟩ := Option.bind_eq_some_iff.mp h
    obtain ⟨c, hc, h⟩ := Option.bind_eq_some_iff.mp h
    split at h
    · rename_i hm
      simp only [Option.some.injEq] at h
      subst h
      obtain ⟨i1, i2⟩ := topO_at h0
      refine ⟨by simp [i1], fun r hr => ?_⟩
      rcases Nat.lt_or_ge r R with hlt | hge
      · obtain ⟨c', h1, h2⟩ := i2 r hlt
        exact ⟨c', h1, by rw [List.getElem?_append_left (by omega)]; exact h2⟩
      · obtain rfl : r = R := by omega
        refine ⟨c.1, by rw [hc, ← hm], ?_⟩
        rw [List.getElem?_append_right (by omega), i1, Nat.sub_self]
        rfl
    · cases h
theorem checks_pos {k m r : Nat} {ws : List Int} {l : List Int} (hm : 2 ≤ m ∧ m ≤ 13) (hr : r < m) (h : impl_Scheme_checks.f k (m : Int) ws (r : Int) = some (l, (m : Int))) (hl : (l.length : Int) > 0) : chkN m r ≤ 10 := by
  replace h : ((impl_Scheme_check.f (m : Int) ws (r : Int)).bind fun c => impl_Scheme_checks.l0 k ([] : List Int) c.1 c.2 ws) = some (l, (m : Int)) := h
  unfold impl_Scheme_check.f at h
  rw [if_neg (by omega), Option.bind_some] at h
  have h1 : 0 ≤ Int.tmod (r : Int) (m : Int) := Int.tmod_nonneg _ (by omega)
  have h2 := Int.tmod_lt_of_pos (r : Int) (b := (m : Int)) (by omega)
  have h3 : wrap64 ((m : Int) - Int.tmod (r : Int) (m : Int)) = (m : Int) - Int.tmod (r : Int) (m : Int) := by unfold wrap64; omega
  have h4 : 0 ≤ Int.tmod ((m : Int) - Int.tmod (r : Int) (m : Int)) (m : Int) := Int.tmod_nonneg _ (by omega)
  rw [h3] at h
  unfold chkN
  cases k with
  | zero => simp [impl_Scheme_checks.l0] at h
  | succ k =>
    simp only [impl_Scheme_checks.l0] at h
    split at h
    · omega
    · simp only [Option.some.injEq, Prod.mk.injEq] at h
      rw [← h.1] at hl
      simp at hl
def tryO (k : Nat) (m : Int) (ws : List Int) (top : List Bool) (p : ByteArray) : Option (ByteArray × Bool) := (impl_Scheme_sum.f k m ws p).bind fun s => if s.2 = m ∧ 0 ≤ s.1 then some (leastV m.toNat ws top p s.1) else none
theorem tryO_mono (m : Int) (ws : List Int) (top : List Bool) (p : ByteArray) (k : Nat) : LeO (tryO k m ws top p) (tryO (k + 1) m ws top p) := LeO.bind (impl_Scheme_sum.mono m ws p k) (fun _ => LeO.refl _)
def headI (t : ByteArray) (i d : Nat) : ByteArray := t.extract 0 i ++ digS.extract d (d + 1)
def placeO (k : Nat) (m : Int) (ws : List Int) (top : List Bool) (t : ByteArray) : Nat → Option (ByteArray × Bool)
  | 0 => some (⟨#[]⟩, false)
  | i + 1 => (impl_digit.f (bt t (i : Int))).bind fun dg => if 0 ≤ dg ∧ dg ≤ 9 then (firstO (fun d => tryO k m ws top (headI t i d)) (9 - dg.toNat) (dg.toNat + 1)).bind fun r => if r.2 = true then some r else placeO k m ws top t i else none
theorem placeO_mono (m : Int) (ws : List Int) (top : List Bool) (t : ByteArray) (k : Nat) : ∀ i, LeO (placeO k m ws top t i) (placeO (k + 1) m ws top t i)
  | 0 => LeO.refl _
  | i + 1 => LeO.bind (LeO.refl _) (fun _ => LeO.ite (LeO.bind (firstO_leO (fun d => tryO_mono m ws top _ k) _ _) (fun _ => LeO.ite (LeO.refl _) (placeO_mono m ws top t k i))) (LeO.refl _))
def impl_NextRight.f (k : Nat) (a0_0 : Int) (l0_1 : List Int) (a1 : ByteArray) : Option (ByteArray × Bool) :=
  (impl_numberOk.f a0_0 l0_1 a1).bind fun g => if g = true then
    (if 2 ≤ a0_0 ∧ a0_0 ≤ 13 ∧ l0_1.length ≤ 12 ∧ (∀ x ∈ l0_1, 0 ≤ x ∧ x < a0_0) ∧ a1.size = l0_1.length + 1 then
      (impl_Scheme_sum.f k a0_0 l0_1 (a1.extract 0 l0_1.length)).bind fun s => (impl_Scheme_checks.f k a0_0 l0_1 s.1).bind fun cs => (strings_IndexByte.f sgN (bt a1 (l0_1.length : Int))).bind fun j => (topO k a0_0 l0_1 a0_0.toNat).bind fun top =>
        if s.2 = a0_0 ∧ cs.1.length ≤ 20 ∧ (∀ x ∈ cs.1, 0 ≤ x ∧ x ≤ 10) then
          (if (cs.1.any fun c => decide (j < c)) = true then some (a1.extract 0 l0_1.length ++ sgN.extract ((cs.1.find? fun c => decide (j < c)).getD 0).toNat (((cs.1.find? fun c => decide (j < c)).getD 0).toNat + 1), true) else placeO k a0_0 l0_1 top a1 l0_1.length)
        else none
    else none)
  else some (⟨#[]⟩, false)
theorem impl_NextRight.mono : ∀ a0_0 a0_1 a1 k, LeO (impl_NextRight.f k a0_0 a0_1 a1) (impl_NextRight.f (k + 1) a0_0 a0_1 a1) := by
  intro a0 a1 a2 k
  unfold impl_NextRight.f
  exact LeO.bind (LeO.refl _) (fun _ => LeO.ite (LeO.ite (LeO.bind (impl_Scheme_sum.mono _ _ _ k) (fun _ => LeO.bind (impl_Scheme_checks.mono _ _ _ k) (fun _ => LeO.bind (LeO.refl _) (fun _ => LeO.bind (topO_mono _ _ k _) (fun _ => LeO.ite (LeO.ite (LeO.refl _) (placeO_mono _ _ _ _ k _)) (LeO.refl _)))))) (LeO.refl _)) (LeO.refl _))
set_option maxHeartbeats 16000000 in
set_option maxRecDepth 100000 in
theorem impl_NextRight.calls (k : Nat) (a0_0 : Int) (A0_1 : Option Addr) (c0_1 : Nat) (l0_1 : List Int) (a1 : ByteArray) (r1 : ByteArray) (r2 : Bool) (w : World) (hr0_1 : Kd.C (Kd.int .i64) w A0_1 l0_1.length l0_1) (hc0_1 : l0_1.length ≤ c0_1) (h : impl_NextRight.f k a0_0 l0_1 a1 = some (r1, r2)) :
    Calls Tryd.prog 11 #[.agg #[.int .i64 a0_0, .slice A0_1 l0_1.length c0_1], .string a1] w fun e w' => e = .returned (.tuple #[.string r1, .bool r2]) ∧ Below w.heap.size w w' := by
  have hu := Tryd.underlying28
  replace h := Option.bind_eq_some_iff.mp h
  obtain ⟨g, hg, h⟩ := h
  have hgood := fun (W : World) (hW : Below w.heap.size w W) => impl_numberOk.calls a0_0 A0_1 c0_1 l0_1 a1 g W (Kd.C_below hr0_1 hW) hc0_1 hg
  have hb0 : Below w.heap.size w (w.alloc (.cells #[.int .i64 a0_0, .slice A0_1 l0_1.length c0_1] 28)) := (Below.refl _ w).alloc (Nat.le_refl _) _
  have hI0 := IsS28.new w w A0_1 c0_1 a0_0 l0_1 (Below.refl _ w) hr0_1
  have hcall := hgood _ hb0
  clear hg hgood
  cases g with
  | false =>
    simp only [Bool.false_eq_true, if_false, Option.some.injEq, Prod.mk.injEq] at h
    obtain ⟨rfl, rfl⟩ := h
    clear hI0
    go_enter Tryd.func11, Tryd.ntmps11
    go_wp2_with fail
    refine hcall.mono ?_
    rintro e w1 ⟨rfl, hb1⟩
    clear hcall
    go_wp2
    go_ret2
    exact ⟨rfl, hb0.trans (hb1.mono hb0.size)⟩
  | true =>
    rw [if_pos rfl] at h
    split at h
    · rename_i hcond
      obtain ⟨hm1, hm2, hn, hws, hz⟩ := hcond
      obtain ⟨m, rfl⟩ : ∃ m : Nat, a0_0 = (m : Int) := ⟨a0_0.toNat, by omega⟩
      have hm : 2 ≤ m ∧ m ≤ 13 := by omega
      obtain ⟨⟨s, m2⟩, hs, h1⟩ := Option.bind_eq_some_iff.mp h
      clear h
      obtain ⟨⟨cs, m3⟩, hcs, h2⟩ := Option.bind_eq_some_iff.mp h1
      clear h1
      obtain ⟨j, hj, h3⟩ := Option.bind_eq_some_iff.mp h2
      clear h2
      obtain ⟨top, htop, h4⟩ := Option.bind_eq_some_iff.mp h3
      clear h3
      rw [Int.toNat_natCast] at htop
      split at h4
      · rename_i hc2
        obtain ⟨hm2', hcl, hcb⟩ := hc2
        simp only at hm2' hcl hcb hcs h4
        subst hm2'
        obtain ⟨ht1, ht2⟩ := topO_at htop
        have htop2 : ∀ r : Nat, r < m → top.getD r false = true → chkN m r ≤ 10 := fun r hr ht => by
          obtain ⟨c, h1, h2⟩ := ht2 r hr
          rw [List.getD, h2, Option.getD_some] at ht
          exact checks_pos hm hr h1 (of_decide_eq_true ht)
        have HI0 := Aside0.mk hI0
        have HZ := Aside0.mk hz
        have HWS := Aside0.mk hws
        have HT1 := Aside0.mk ht1
        have HT2 := Aside0.mk ht2
        have HT3 := Aside0.mk htop2
        have HCB := Aside0.mk hcb
        have HS := Aside0.mk hs
        have HCS := Aside0.mk hcs
        have HJ := Aside0.mk hj
        have HH := Aside0.mk h4
        have HB0 := Aside0.mk hb0
        have HC0 := Aside0.mk hr0_1
        have hg1 : (w.alloc (.cells #[.int .i64 (m : Int), .slice A0_1 l0_1.length c0_1] 28)).cell? ⟨w.heap.size, 1, none⟩ = some (.slice A0_1 l0_1.length c0_1) := by simp
        have hgl : w.heap.size < (w.alloc (.cells #[.int .i64 (m : Int), .slice A0_1 l0_1.length c0_1] 28)).heap.size := by simp
        clear hI0 hz hws ht1 ht2 htop2 hcb hs hcs hj h4 htop hr0_1
        go_enter Tryd.func11, Tryd.ntmps11
        go_wp2_with fail
        refine hcall.mono ?_
        rintro e w1 ⟨rfl, hb1⟩
        have HB1 := Aside0.mk (hb0.trans (hb1.mono hb0.size))
        have hI1 := HI0.out.below hb1
        have hx1 := (hb1.cell (p := ⟨w.heap.size, 1, none⟩) hgl).trans hg1
        have hgl1 : w.heap.size < w1.heap.size := Nat.lt_of_lt_of_le hgl hb1.size
        have HI1 := Aside0.mk hI1
        clear hcall HI0 hb0 hb1 hg1 hgl hI1
        have hopen := fun (W : World) (hW : Below w1.heap.size w1 W) => impl_Scheme_open.calls k w.heap.size m l0_1 top w W (HI1.out.below hW) (HB1.out.trans (hW.mono HB1.out.size)) hm hn HWS.out HT1.out HT2.out
        have HOP := Aside0.mk hopen
        clear hopen
        go_wp2
        go_region_held3 (fun w' => w'.cell? ⟨w.heap.size, 1, none⟩ = some (.slice A0_1 l0_1.length c0_1) ∧ Below w1.heap.size w1 w')
          (first
            | exact ⟨hx1, Below.refl _ _⟩
            | exact ⟨hx1, below_drew1 (Below.refl _ _)⟩
            | exact ⟨(hb.cell (p := ⟨w.heap.size, 1, none⟩) hgl1).trans hx1, (below_drew1 (Below.refl w1.heap.size w1)).trans hb⟩
            | go_keep)
          ((go_at_call 32; refine (HOP.out _ ?sh).mono ?_; (case sh => first | exact below_drew1 (Below.refl _ _) | exact Below.refl _ _); rintro e w' ⟨hs, rfl, ho1, ho2, ho3, hb⟩))
        have hx0 : w'.cell? ⟨w.heap.size, 0, none⟩ = some (.int .i64 (m : Int)) := by
          have hbv : Below w1.heap.size w1 w' := (below_drew1 (Below.refl w1.heap.size w1)).trans hb
          obtain ⟨A5, c5, hblk, _⟩ := (HI1.out.below hbv)
          exact (blk_cell hblk 0).trans rfl
        have hx1' : w'.cell? ⟨w.heap.size, 1, none⟩ = some (.slice A0_1 l0_1.length c0_1) := (hb.cell (p := ⟨w.heap.size, 1, none⟩) hgl1).trans hx1
        have hbv : Below w.heap.size w w' := HB1.out.trans (((below_drew1 (Below.refl w1.heap.size w1)).trans hb).mono HB1.out.size)
        have hlt' : w.heap.size < w'.heap.size := Nat.lt_of_lt_of_le hgl1 hb.size
        have HBV := Aside0.mk hbv
        have HO1 := Aside0.mk (show w'.heap[w1.heap.size]? = _ from ho1)
        have HO2 := Aside0.mk ho2
        have HO3 := Aside0.mk (show RowsAt w' l0_1.length m (tabC m l0_1 top) hs w'.heap.size w1.heap.size (l0_1.length + 1) from ho3)
        have hz1 : (l0_1.length ≤ a1.size) = True := eq_true (by have := HZ.out; omega)
        have hsumc := sum_readsN k w.heap.size (m : Int) l0_1 (a1.extract 0 l0_1.length) s (m : Int) A0_1 c0_1 w' hx0 hx1' (Kd.C_below HC0.out hbv) HS.out
        have HSC := Aside0.mk hsumc
        clear hsumc hb ho1 ho2 ho3 hbv hx1 HB1 HI1 HOP
        clear hgl1
        generalize hG : w1.heap.size = G at HO1 HO3 ⊢
        clear hG
        go_wp2_with fail
        refine HSC.out.mono ?_
        rintro e w2 ⟨rfl, ⟨q2, rfl⟩⟩
        go_wp2_with fail
        refine (checks_made k w.heap.size (m : Int) l0_1 s cs m3 (w'.drewN q2) hx0 HCS.out).mono ?_
        rintro e W ⟨v, rfl, hR, hbW⟩
        obtain ⟨A9, c9, e9, hle9, hC9⟩ := Kd.R_reads hR
        subst e9
        have hbW2 : Below w'.heap.size w' W := (pw_below_drewN (Below.refl w'.heap.size w') q2).trans hbW
        have hX0 : W.cell? ⟨w.heap.size, 0, none⟩ = some (.int .i64 (m : Int)) := (hbW2.cell (p := ⟨w.heap.size, 0, none⟩) hlt').trans hx0
        have hX1 : W.cell? ⟨w.heap.size, 1, none⟩ = some (.slice A0_1 l0_1.length c0_1) := (hbW2.cell (p := ⟨w.heap.size, 1, none⟩) hlt').trans hx1'
        have HBW := Aside0.mk (HBV.out.trans (hbW2.mono HBV.out.size))
        have HCW := Aside0.mk (Kd.C_below HC0.out HBW.out)
        have HGW := Aside0.mk ((hbW2.block G (Array.getElem?_eq_some_iff.1 HO1.out).1).trans HO1.out)
        have HRW := Aside0.mk (HO3.out.below hbW2)
        have HC9 := Aside0.mk hC9
        clear hR hle9 hC9 hbW hbW2 hx0 hx1' HSC HCS HS HO1 HO3 HBV HC0 hlt'
        have hLR := HH.out
        clear HH
        have HLR := Aside0.mk hLR
        clear hLR
        go_wp2
        go_loopg [9, 28] (cs.length + 1) (fun gg s9 s28 wr => ∃ i : Nat, s28 = .int .i64 (i : Int) ∧ i ≤ cs.length ∧ cs.length - i ≤ gg ∧ Aside0 (∀ p, p < i → ∀ hp : p < cs.length, ¬ j < cs[p]) ∧ Aside0 (∃ q, wr = W.drewN q))
        case atStart => exact ⟨0, rfl, Nat.zero_le _, by omega, ⟨fun p hp => absurd hp (by omega)⟩, ⟨⟨0, rfl⟩⟩⟩
        case round =>
          obtain ⟨i, rfl, hi, hgg, HN, HQ⟩ := hrel
          obtain ⟨q, hq⟩ := HQ.out
          subst hq
          clear HQ
          by_cases hil : i < cs.length
          · have hilz : (i : Int) < (cs.length : Int) := by omega
            obtain ⟨a9, hA9, hx9⟩ := Kd.at_int HC9.out (i : Int) (by omega) (by omega)
            subst hA9
            have hrd : rd cs (i : Int) = cs[i] := by simp [rd, hil]
            rw [hrd, Int.toNat_natCast] at hx9
            have hcb := HCB.out cs[i] (List.getElem_mem hil)
            have hfi : j < cs[i] → (∀ p, p < i → ∀ hp : p < cs.length, ¬ j < cs[p]) → (cs.any fun c => decide (j < c)) = true ∧ (cs.find? fun c => decide (j < c)).getD 0 = cs[i] := fun h1 h2 => by
              refine ⟨List.any_eq_true.mpr ⟨cs[i], List.getElem_mem hil, decide_eq_true h1⟩, ?_⟩
              have : (cs.find? fun c => decide (j < c)) = some cs[i] := by
                rw [List.find?_eq_some_iff_getElem]
                exact ⟨decide_eq_true h1, i, hil, rfl, fun p hp => by simpa using h2 p hp (by omega)⟩
              rw [this]
              rfl
            have HFI := Aside0.mk hfi
            clear hrd hfi
            generalize hcq : cs[i] = cv at hx9 hcb HFI
            have HCQ := Aside0.mk hcq
            clear hcq
            have hz2 : (l0_1.length < a1.size) = True := eq_true (by have := HZ.out; omega)
            have hz3 : (l0_1.length : Int) < (a1.size : Int) := by have := HZ.out; omega
            have hbt : ∀ (h_ : l0_1.length < a1.size), (((a1[l0_1.length]'h_).toNat : Nat) : Int) = bt a1 (l0_1.length : Int) := bt_at a1 (l0_1.length : Int)
            have HIX := Aside0.mk (fun W => strings_IndexByte.calls sgN (bt a1 (l0_1.length : Int)) j W HJ.out)
            have hin : ∀ W, Calls Tryd.prog 35 #[.string ⟨#[48, 49, 50, 51, 52, 53, 54, 55, 56, 57, 88]⟩, .int .u8 (bt a1 (l0_1.length : Int))] W fun e w' => e = .returned (.int .i64 j) ∧ ∃ n, w' = W.drewN n := fun W => (HIX.out W).mono fun e w' ⟨h1, n, h2⟩ => ⟨h1, n, h2⟩
            have HIN := Aside0.mk hin
            clear hin
            by_cases hjc : j < cv
            · obtain ⟨ck, hck⟩ : ∃ ck : Nat, cv = (ck : Int) := ⟨cv.toNat, by omega⟩
              subst hck
              have hjd : decide (j < (ck : Int)) = true := decide_eq_true hjc
              have k1 : IntKind.i64.wrap ((ck : Int) + 1) = (ck : Int) + 1 := by rw [IntKind.wrap_i64]; omega
              have k2 : ((ck : Int) ≤ (ck : Int) + 1) = True := eq_true (by omega)
              have k3 : ((ck : Int) + 1 ≤ 11) = True := eq_true (by omega)
              have hsz12 : l0_1.length ≤ 12 := hn
              have k4 : (9223372036854775807 < l0_1.length + 1) = False := eq_false (by omega)
              have k5 : (9223372036854775807 < l0_1.length + (((ck : Int) + 1).toNat - ck)) = False := eq_false (by omega)
              have k6 : (9223372036854775807 < (a1.extract 0 l0_1.length).size + 1) = False := eq_false (by rw [ByteArray.size_extract]; omega)
              have k7 : (9223372036854775807 < (a1.extract 0 l0_1.length).size + (((ck : Int) + 1).toNat - ck)) = False := eq_false (by rw [ByteArray.size_extract]; omega)
              have k8 : ((ck : Int) + 1).toNat = ck + 1 := by omega
              go_wp2_with fail
              refine (HIN.out _).mono ?_
              rintro e w5 ⟨rfl, ⟨q5, rfl⟩⟩
              go_wp2
              go_quiet (fail)
              go_wp2
              go_ret2
              obtain ⟨f1, f2⟩ := HFI.out (by omega) HN.out
              have e := HLR.out
              rw [if_pos f1, f2] at e
              simp only [Option.some.injEq, Prod.mk.injEq, Int.toNat_natCast] at e
              obtain ⟨e1, e2⟩ := e
              rw [← e1, ← e2]
              exact ⟨rfl, pw_below_drewN (pw_below_drewN HBW.out _) _⟩
            · have hjd : decide (j < cv) = false := decide_eq_false hjc
              go_wp2_with fail
              refine (HIN.out _).mono ?_
              rintro e w5 ⟨rfl, ⟨q5, rfl⟩⟩
              go_wp2
              go_roundg (cs.length - (i + 1))
              case measure => omega
              case rel =>
                refine ⟨i + 1, by go_num, by omega, Nat.le_refl _, ⟨fun p hp hpl => ?_⟩, by first | exact ⟨⟨_, rfl⟩⟩ | exact ⟨⟨_, World.drewN_drewN _ _ _⟩⟩⟩
                rcases Nat.lt_or_ge p i with h1 | h1
                · exact HN.out p h1 hpl
                · obtain rfl : p = i := by omega
                  rw [HCQ.out]
                  exact hjc
          · obtain rfl : i = cs.length := by omega
            have hany : (cs.any fun c => decide (j < c)) = false := by
              rw [List.any_eq_false]
              intro c hc
              obtain ⟨p, hp, e⟩ := List.getElem_of_mem hc
              rw [← e]
              simpa using HN.out p hp hp
            have e := HLR.out
            rw [if_neg (by rw [hany]; decide)] at e
            have HPL := Aside0.mk e
            have hni : ¬ ((cs.length : Nat) : Int) < (cs.length : Int) := by omega
            have hn1 : IntKind.i64.wrap ((l0_1.length : Int) - 1) = (l0_1.length : Int) - 1 := by rw [IntKind.wrap_i64]; omega
            clear e hany hil hi hgg HLR HC9 HCB HN
            go_wp2
            go_loopg [10] (l0_1.length + 1) (fun gg s10 wr => ∃ i : Nat, s10 = .int .i64 ((i : Int) - 1) ∧ i ≤ l0_1.length ∧ i ≤ gg ∧ Aside0 (placeO k (m : Int) l0_1 top a1 i = some (r1, r2)) ∧ Aside0 (∃ q, wr = W.drewN q))
            case atStart => exact ⟨l0_1.length, rfl, Nat.le_refl _, by omega, HPL, by first | exact ⟨⟨_, rfl⟩⟩ | exact ⟨⟨_, World.drewN_drewN _ _ _⟩⟩⟩
            case round =>
              clear HPL
              obtain ⟨i, rfl, hi, hgg, HP, HQ⟩ := hrel
              obtain ⟨q, hq⟩ := HQ.out
              subst hq
              clear HQ
              cases i with
              | zero =>
                have e := HP.out
                simp only [placeO, Option.some.injEq, Prod.mk.injEq] at e
                obtain ⟨rfl, rfl⟩ := e
                have hlt : ¬ (0 : Int) ≤ ((0 : Nat) : Int) - 1 := by omega
                go_wp2
                go_ret2
                exact ⟨rfl, pw_below_drewN HBW.out _⟩
              | succ i =>
                have hge : (0 : Int) ≤ (i : Int) := by omega
                have hcast : (((i + 1 : Nat) : Int) - 1) = (i : Int) := by omega
                rw [hcast]
                have e := HP.out
                simp only [placeO] at e
                obtain ⟨dg, hdg, e1⟩ := Option.bind_eq_some_iff.mp e
                clear e
                split at e1
                · rename_i hdb
                  obtain ⟨r, hr, e2⟩ := Option.bind_eq_some_iff.mp e1
                  clear e1
                  obtain ⟨dn, hdn⟩ : ∃ dn : Nat, dg = (dn : Int) := ⟨dg.toNat, by omega⟩
                  subst hdn
                  rw [Int.toNat_natCast] at hr
                  have HR := Aside0.mk hr
                  have HE := Aside0.mk e2
                  have hz4 : (i < a1.size) = True := eq_true (by have := HZ.out; omega)
                  have hz5 : (i : Int) < (a1.size : Int) := by have := HZ.out; omega
                  have hbt : ∀ (h_ : i < a1.size), (((a1[i]'h_).toNat : Nat) : Int) = bt a1 (i : Int) := bt_at a1 (i : Int)
                  have HD := Aside0.mk (fun W => impl_digit.calls (bt a1 (i : Int)) (dn : Int) W hdg)
                  have hdig : ∀ W, Calls Tryd.prog 36 #[.int .u8 (bt a1 (i : Int))] W fun e w' => e = .returned (.int .i64 (dn : Int)) ∧ ∃ n, w' = W.drewN n := fun W => (HD.out W).mono fun e w' ⟨h1, n, h2⟩ => ⟨h1, n, h2⟩
                  have HDG := Aside0.mk hdig
                  have k1 : IntKind.i64.wrap ((dn : Int) + 1) = (dn : Int) + 1 := by rw [IntKind.wrap_i64]; omega
                  clear hr e2 hdg HD hdig HP hcast
                  go_wp2_with fail
                  refine (HDG.out _).mono ?_
                  rintro e w5 ⟨rfl, ⟨q5, rfl⟩⟩
                  clear HDG hbt
                  go_wp2
                  go_loopg [11] 10 (fun g2 s11 wr => ∃ d : Nat, s11 = .int .i64 (d : Int) ∧ d ≤ 10 ∧ 10 - d ≤ g2 ∧ Aside0 (firstO (fun d => tryO k (m : Int) l0_1 top (headI a1 i d)) (10 - d) d = some r) ∧ Aside0 (∃ q, wr = W.drewN q))
                  case atStart => exact ⟨dn + 1, by go_num, by omega, by omega, ⟨by have := HR.out; rwa [show 10 - (dn + 1) = 9 - dn by omega]⟩, by first | exact ⟨⟨_, rfl⟩⟩ | exact ⟨⟨_, World.drewN_drewN _ _ _⟩⟩⟩
                  case round =>
                    clear HR
                    obtain ⟨d, rfl, hd, hg2, HF, HQ⟩ := hrel
                    obtain ⟨q, hq⟩ := HQ.out
                    subst hq
                    clear HQ
                    by_cases hd10 : d < 10
                    · have hd10z : (d : Int) < 10 := by omega
                      have e := HF.out
                      rw [show 10 - d = (10 - (d + 1)) + 1 by omega, firstO] at e
                      obtain ⟨tr, htr0, e3⟩ := Option.bind_eq_some_iff.mp e
                      clear e
                      unfold tryO at htr0
                      obtain ⟨⟨sv, sm⟩, hsv, htr⟩ := Option.bind_eq_some_iff.mp htr0
                      clear htr0
                      simp only at htr
                      split at htr
                      · rename_i hsm
                        obtain ⟨hsm, hsv0⟩ := hsm
                        subst hsm
                        rw [Int.toNat_natCast, Option.some.injEq] at htr
                        have hhz : (headI a1 i d).size = i + 1 := by
                          unfold headI
                          have hz := HZ.out
                          rw [ByteArray.size_append, ByteArray.size_extract, ByteArray.size_extract]
                          show min i a1.size - 0 + (min (d + 1) 10 - d) = i + 1
                          omega
                        have hleast : Calls Tryd.prog 37 #[.pointer (some ⟨w.heap.size, 0, none⟩), .slice (some ⟨G, 0, none⟩) (l0_1.length + 1) (l0_1.length + 1), .string (headI a1 i d)] (W.drewN q).drew fun e w' => e = .returned (.tuple #[.string tr.1, .bool tr.2]) ∧ ∃ q', w' = ((W.drewN q).drewN 1).drewN q' := by
                          have hl := impl_Scheme_least.calls k w.heap.size m l0_1 top G w'.heap.size G hs (headI a1 i d) sv A0_1 c0_1 ((W.drewN q).drewN 1) hX0 hX1 (Kd.C_below HCW.out (pw_below_drewN (pw_below_drewN (Below.refl _ W) q) 1)) hm hn HWS.out HT1.out HT3.out (by omega) HGW.out HO2.out HRW.out hsv0 hsv
                          rw [htr] at hl
                          exact hl
                        have HLE := Aside0.mk hleast
                        have HEE := Aside0.mk e3
                        have k2 : IntKind.i64.wrap ((d : Int) + 1) = (d : Int) + 1 := by rw [IntKind.wrap_i64]; omega
                        have k3 : ((d : Int) ≤ (d : Int) + 1) = True := eq_true (by omega)
                        have k4 : ((d : Int) + 1 ≤ 10) = True := eq_true (by omega)
                        have k5 : ((d : Int) + 1).toNat = d + 1 := by omega
                        have k6 : (9223372036854775807 < i + 1) = False := eq_false (by omega)
                        have k7 : (9223372036854775807 < i + (((d : Int) + 1).toNat - d)) = False := eq_false (by omega)
                        have k8 : (9223372036854775807 < (a1.extract 0 i).size + 1) = False := eq_false (by rw [ByteArray.size_extract]; omega)
                        have k9 : (i ≤ a1.size) = True := eq_true (by have := HZ.out; omega)
                        have k10 : (i : Int) ≤ (a1.size : Int) := by have := HZ.out; omega
                        have k11 : (9223372036854775807 < i + (min (d + 1) 10 - d)) = False := eq_false (by omega)
                        clear e3 hleast hsv htr hhz HF
                        unfold headI digS at HLE
                        obtain ⟨trs, trb⟩ := tr
                        cases trb with
                        | true =>
                          go_wp2
                          go_region_held3 (fun w' => w'.cell? ⟨w.heap.size, 0, none⟩ = some (.int .i64 (m : Int))) (first | exact hX0 | go_keep) ((go_at_call 37; refine HLE.out.mono ?_; rintro e w' ⟨rfl, ⟨nd, rfl⟩⟩))
                          go_wp2
                          go_ret2
                          have e : (trs, true) = r := by simpa using HEE.out
                          subst e
                          have e2 := HE.out
                          simp only [if_true, Option.some.injEq, Prod.mk.injEq] at e2
                          obtain ⟨rfl, rfl⟩ := e2
                          exact ⟨rfl, by first | exact pw_below_drewN HBW.out _ | exact pw_below_drewN (pw_below_drewN HBW.out _) _ | exact pw_below_drewN (pw_below_drewN (pw_below_drewN HBW.out _) _) _⟩
                        | false =>
                          go_wp2
                          go_region_held3 (fun w' => w'.cell? ⟨w.heap.size, 0, none⟩ = some (.int .i64 (m : Int))) (first | exact hX0 | go_keep) ((go_at_call 37; refine HLE.out.mono ?_; rintro e w' ⟨rfl, ⟨nd, rfl⟩⟩))
                          go_wp2
                          go_roundg (10 - (d + 1))
                          case measure => omega
                          case rel => exact ⟨d + 1, by go_num, by omega, Nat.le_refl _, ⟨by have := HEE.out; simpa using this⟩, by first | exact ⟨⟨_, rfl⟩⟩ | exact ⟨⟨_, World.drewN_drewN _ _ _⟩⟩ | exact ⟨⟨_, by rw [World.drewN_drewN, World.drewN_drewN]⟩⟩⟩
                      · cases htr
                    · obtain rfl : d = 10 := by omega
                      have hnl : ¬ ((10 : Nat) : Int) < 10 := by omega
                      have e := HF.out
                      rw [Nat.sub_self, firstO, Option.some.injEq] at e
                      subst e
                      have e2 := HE.out
                      rw [if_neg Bool.false_ne_true] at e2
                      have HP2 := Aside0.mk e2
                      have hn2 : IntKind.i64.wrap ((i : Int) - 1) = (i : Int) - 1 := by rw [IntKind.wrap_i64]; omega
                      clear e2 HE HF
                      go_wp2
                      go_roundg i
                      case measure => omega
                      case rel => exact ⟨i, by go_num, by omega, Nat.le_refl _, HP2, by first | exact ⟨⟨_, rfl⟩⟩ | exact ⟨⟨_, World.drewN_drewN _ _ _⟩⟩⟩
                · cases e1
      · exact absurd h4 (by simp)
    · exact absurd h (by simp)

/-! ### laws_eqIntS: function 38 -/
def laws_eqIntS.l0 : Nat → List Int → List Int → Int → Option (Bool)
  | 0, _, _, _ => none
  | k + 1, x0, x1, x5 => if x5 < (x0.length : Int) then (if 0 ≤ x5 then (if x5 < (x1.length : Int) then (if (rd x0 x5) = (rd x1 x5) then (laws_eqIntS.l0 k x0 x1 (wrap64 (x5 + 1))) else (some false)) else (none)) else (none)) else (some true)
def laws_eqIntS.f (k : Nat) (l0 : List Int) (l1 : List Int) : Option (Bool) := if (l0.length : Int) = (l1.length : Int) then (laws_eqIntS.l0 k l0 l1 0) else (some false)
theorem laws_eqIntS.mono_l : ∀ k, (∀ y0 y1 y2, LeO (laws_eqIntS.l0 k y0 y1 y2) (laws_eqIntS.l0 (k + 1) y0 y1 y2))
  | 0 => fun _ _ _ r h => by simp [laws_eqIntS.l0] at h
  | k + 1 => by
    have ih0 := laws_eqIntS.mono_l k
    · intro y0 y1 y2
      unfold laws_eqIntS.l0
      repeat' first
      | (with_reducible exact ih0 _ _ _)
      | (with_reducible exact LeO.refl _)
      | (with_reducible exact LeO.none _)
      | (with_reducible refine LeO.ite ?_ ?_)
      | (with_reducible refine LeO.bind ?_ (fun _ => ?_))
      | exact ih0 _ _ _
      | exact LeO.none _
      | refine LeO.ite ?_ ?_
      | refine LeO.bind ?_ (fun _ => ?_)
theorem laws_eqIntS.mono : ∀ a0 a1 k, LeO (laws_eqIntS.f k a0 a1) (laws_eqIntS.f (k + 1) a0 a1) := by
  intro a0 a1 k
  have ih0 := laws_eqIntS.mono_l k
  unfold laws_eqIntS.f
  repeat' first
      | (with_reducible exact ih0 _ _ _)
      | (with_reducible exact LeO.refl _)
      | (with_reducible exact LeO.none _)
      | (with_reducible refine LeO.ite ?_ ?_)
      | (with_reducible refine LeO.bind ?_ (fun _ => ?_))
      | exact ih0 _ _ _
      | exact LeO.none _
      | refine LeO.ite ?_ ?_
      | refine LeO.bind ?_ (fun _ => ?_)
set_option maxHeartbeats 8000000 in
set_option maxRecDepth 100000 in
theorem laws_eqIntS.calls (k : Nat) (A0 : Option Addr) (c0 : Nat) (l0 : List Int) (A1 : Option Addr) (c1 : Nat) (l1 : List Int) (r : Bool) (w : World) (hr0 : Kd.C (Kd.int .i64) w A0 l0.length l0) (hc0 : l0.length ≤ c0) (hr1 : Kd.C (Kd.int .i64) w A1 l1.length l1) (hc1 : l1.length ≤ c1) (h : laws_eqIntS.f k l0 l1 = some r) :
    Calls Tryd.prog 38 #[.slice A0 l0.length c0, .slice A1 l1.length c1] w fun e w' => e = .returned (.bool r) ∧ Drawn0 w w' := by
  have HR0 := Aside0.mk hr0
  have HC0 := Aside0.mk hc0
  clear hr0 hc0
  have HR1 := Aside0.mk hr1
  have HC1 := Aside0.mk hc1
  clear hr1 hc1
  have H : (if (l0.length : Int) = (l1.length : Int) then (laws_eqIntS.l0 k l0 l1 0) else (some false)) = some r := h
  clear h
  by_cases c3 : (l0.length : Int) = (l1.length : Int)
  · rw [if_pos c3] at H
    have c3b0 : ((l0.length : Int) == (l1.length : Int)) = true := beq_iff_eq.mpr c3
    have c3b1 : ((l0.length : Int) != (l1.length : Int)) = false := bne_eq_false_iff_eq.mpr c3
    have c3b2 : (l0.length == l1.length) = true := by first | simpa using c3 | (simp at c3 ⊢; omega)
    clear c3
    have H' := Aside0.mk H
    clear H
    go_enter Tryd.func38, Tryd.ntmps38
    go_wp2
    repeat (go_quiet (fail); try go_wp2)
    go_loopg [5] k (fun kq v5 w' => ∃ (x5_1 : Int), v5 = .int .i64 x5_1 ∧ Aside0 (laws_eqIntS.l0 kq l0 l1 x5_1 = some r) ∧ Aside0 (kq ≤ k) ∧ Drawn0 w w')
    case atStart => exact ⟨(0), (by first | rfl | (simp; done) | (simp [*]; done) | (simp [isEmpty_bne]; done) | (simp [i64_w]; done) | (simp only [i64_w]; done)), H', ⟨Nat.le_refl _⟩, by repeat (first | exact Drawn0.refl _ | apply Drawn0.step)⟩
    case round =>
      clear H'
      try clear c1
      try clear p2
      try clear c3
      try clear c3b0
      try clear c3b1
      try clear c3b2
      obtain ⟨x5_1, rfl, HA, HK1, ⟨m1, rfl⟩⟩ := hrel
      cases gk with
      | zero => exact absurd HA.out (by simp [laws_eqIntS.l0])
      | succ k1 =>
        have H := HA.out
        clear HA
        simp only [laws_eqIntS.l0] at H
        by_cases c4 : x5_1 < (l0.length : Int)
        · rw [if_pos c4] at H
          have c4b0 : decide (x5_1 < (l0.length : Int)) = true := decide_eq_true c4
          clear c4
          by_cases c5 : 0 ≤ x5_1
          · rw [if_pos c5] at H
            have c5b0 : decide (0 ≤ x5_1) = true := decide_eq_true c5
            clear c5
            by_cases c6 : x5_1 < (l1.length : Int)
            · rw [if_pos c6] at H
              have c6b0 : decide (x5_1 < (l1.length : Int)) = true := decide_eq_true c6
              clear c6
              by_cases c7 : (rd l0 x5_1) = (rd l1 x5_1)
              · rw [if_pos c7] at H
                have c7b0 : ((rd l0 x5_1) == (rd l1 x5_1)) = true := beq_iff_eq.mpr c7
                have c7b1 : ((rd l0 x5_1) != (rd l1 x5_1)) = false := bne_eq_false_iff_eq.mpr c7
                clear c7
                have H' := Aside0.mk H
                clear H
                have p149 : 0 ≤ (x5_1 : Int) := of_decide_eq_true (by first | (with_reducible assumption) | assumption)
                have q149 : x5_1 < (l0.length : Int) := of_decide_eq_true (by first | (with_reducible assumption) | assumption)
                obtain ⟨ad149, e149, hx149_0⟩ := Kd.at_int HR0.out x5_1 p149 q149
                cases e149
                replace p149 := eq_true p149
                replace q149 := eq_true q149
                have p150 : 0 ≤ (x5_1 : Int) := of_decide_eq_true (by first | (with_reducible assumption) | assumption)
                have q150 : x5_1 < (l1.length : Int) := of_decide_eq_true (by first | (with_reducible assumption) | assumption)
                obtain ⟨ad150, e150, hx150_0⟩ := Kd.at_int HR1.out x5_1 p150 q150
                cases e150
                replace p150 := eq_true p150
                replace q150 := eq_true q150
                go_wp2
                repeat (go_quiet (fail); try go_wp2)
                go_roundg k1
                case measure => have := HK1.out; omega
                case rel => exact ⟨(wrap64 (x5_1 + 1)), (by first | rfl | (simp; done) | (simp [*]; done) | (simp [isEmpty_bne]; done) | (simp [i64_w]; done) | (simp only [i64_w]; done)), H', ⟨by have := HK1.out; omega⟩, by repeat (first | exact Drawn0.refl _ | apply Drawn0.step)⟩
              · rw [if_neg c7] at H
                have c7b0 : ((rd l0 x5_1) == (rd l1 x5_1)) = false := beq_eq_false_iff_ne.mpr c7
                have c7b1 : ((rd l0 x5_1) != (rd l1 x5_1)) = true := bne_iff_ne.mpr c7
                obtain rfl := Option.some.inj H
                have p149 : 0 ≤ (x5_1 : Int) := of_decide_eq_true (by first | (with_reducible assumption) | assumption)
                have q149 : x5_1 < (l0.length : Int) := of_decide_eq_true (by first | (with_reducible assumption) | assumption)
                obtain ⟨ad149, e149, hx149_0⟩ := Kd.at_int HR0.out x5_1 p149 q149
                cases e149
                replace p149 := eq_true p149
                replace q149 := eq_true q149
                have p150 : 0 ≤ (x5_1 : Int) := of_decide_eq_true (by first | (with_reducible assumption) | assumption)
                have q150 : x5_1 < (l1.length : Int) := of_decide_eq_true (by first | (with_reducible assumption) | assumption)
                obtain ⟨ad150, e150, hx150_0⟩ := Kd.at_int HR1.out x5_1 p150 q150
                cases e150
                replace p150 := eq_true p150
                replace q150 := eq_true q150
                go_wp2
                repeat (go_quiet (fail); try go_wp2)
                go_ret
                exact ⟨by first | rfl | (simp; done) | (simp [*]; done) | (simp [isEmpty_bne]; done) | (simp [i64_w]; done) | (simp only [i64_w]; done), by repeat (first | exact Drawn0.refl _ | apply Drawn0.step)⟩
            · rw [if_neg c6] at H
              exact absurd H (by simp)
          · rw [if_neg c5] at H
            exact absurd H (by simp)
        · rw [if_neg c4] at H
          have c4b0 : decide (x5_1 < (l0.length : Int)) = false := decide_eq_false c4
          clear c4
          obtain rfl := Option.some.inj H
          go_wp2
          repeat (go_quiet (fail); try go_wp2)
          go_ret
          exact ⟨by first | rfl | (simp; done) | (simp [*]; done) | (simp [isEmpty_bne]; done) | (simp [i64_w]; done) | (simp only [i64_w]; done), by repeat (first | exact Drawn0.refl _ | apply Drawn0.step)⟩
  · rw [if_neg c3] at H
    have c3b0 : ((l0.length : Int) == (l1.length : Int)) = false := beq_eq_false_iff_ne.mpr c3
    have c3b1 : ((l0.length : Int) != (l1.length : Int)) = true := bne_iff_ne.mpr c3
    have c3b2 : (l0.length == l1.length) = false := by first | simpa using c3 | (simp at c3 ⊢; omega)
    obtain rfl := Option.some.inj H
    go_enter Tryd.func38, Tryd.ntmps38
    go_wp2
    repeat (go_quiet (fail); try go_wp2)
    go_ret
    exact ⟨by first | rfl | (simp; done) | (simp [*]; done) | (simp [isEmpty_bne]; done) | (simp [i64_w]; done) | (simp only [i64_w]; done), by repeat (first | exact Drawn0.refl _ | apply Drawn0.step)⟩

/-! ### laws_eqScheme: function 12 -/
def laws_eqScheme.f (k : Nat) (a0_0 : Int) (l0_1 : List Int) (a1_0 : Int) (l1_1 : List Int) : Option (Bool) := if a0_0 = a1_0 then ((laws_eqIntS.f k l0_1 l1_1).bind fun t153 => (if t153 = true then (some true) else (some false))) else (some false)
theorem laws_eqScheme.mono : ∀ a0 a1 a2 a3 k, LeO (laws_eqScheme.f k a0 a1 a2 a3) (laws_eqScheme.f (k + 1) a0 a1 a2 a3) := by
  intro a0 a1 a2 a3 k
  unfold laws_eqScheme.f
  repeat' first
      | (with_reducible exact laws_eqIntS.mono _ _ _)
      | (with_reducible exact LeO.refl _)
      | (with_reducible exact LeO.none _)
      | (with_reducible refine LeO.ite ?_ ?_)
      | (with_reducible refine LeO.bind ?_ (fun _ => ?_))
      | exact laws_eqIntS.mono _ _ _
      | exact LeO.none _
      | refine LeO.ite ?_ ?_
      | refine LeO.bind ?_ (fun _ => ?_)
set_option maxHeartbeats 8000000 in
set_option maxRecDepth 100000 in
theorem laws_eqScheme.calls (k : Nat) (a0_0 : Int) (A0_1 : Option Addr) (c0_1 : Nat) (l0_1 : List Int) (a1_0 : Int) (A1_1 : Option Addr) (c1_1 : Nat) (l1_1 : List Int) (r : Bool) (w : World) (hr0_1 : Kd.C (Kd.int .i64) w A0_1 l0_1.length l0_1) (hc0_1 : l0_1.length ≤ c0_1) (hr1_1 : Kd.C (Kd.int .i64) w A1_1 l1_1.length l1_1) (hc1_1 : l1_1.length ≤ c1_1) (h : laws_eqScheme.f k a0_0 l0_1 a1_0 l1_1 = some r) :
    Calls Tryd.prog 12 #[.agg #[.int .i64 a0_0, .slice A0_1 l0_1.length c0_1], .agg #[.int .i64 a1_0, .slice A1_1 l1_1.length c1_1]] w fun e w' => e = .returned (.bool r) ∧ Below w.heap.size w w' := by
  have hu28 := Tryd.underlying28
  have HR0_1 := Aside0.mk hr0_1
  have HC0_1 := Aside0.mk hc0_1
  clear hr0_1 hc0_1
  have HR1_1 := Aside0.mk hr1_1
  have HC1_1 := Aside0.mk hc1_1
  clear hr1_1 hc1_1
  have HB := Aside0.mk (Below.refl w.heap.size w)
  have H : (if a0_0 = a1_0 then ((laws_eqIntS.f k l0_1 l1_1).bind fun t153 => (if t153 = true then (some true) else (some false))) else (some false)) = some r := h
  clear h
  by_cases c3 : a0_0 = a1_0
  · rw [if_pos c3] at H
    have c3b0 : (a0_0 == a1_0) = true := beq_iff_eq.mpr c3
    have c3b1 : (a0_0 != a1_0) = false := bne_eq_false_iff_eq.mpr c3
    clear c3
    replace H := Option.bind_eq_some_iff.mp H
    obtain ⟨t153, A40, H⟩ := H
    replace H : (if t153 = true then (some true) else (some false)) = some r := H
    have A4 := Aside0.mk A40
    clear A40
    by_cases c5 : t153 = true
    · subst c5
      have H1 : (some true) = some r := by rw [if_pos rfl] at H; exact H
      clear H
      have H := H1
      clear H1
      obtain rfl := Option.some.inj H
      go_enter Tryd.func12, Tryd.ntmps12
      go_wp2_with (first | ((with_reducible refine gate_dst (N := 2) rfl ?_); refine box_event ?hg (N := 2) ?hd (cs := #[.int .i64 a0_0, .slice A0_1 l0_1.length c0_1]) (t := 28) ?hr ?_; (case hd => rfl); (case hg => rfl); (case hr => first | (go_simp; done) | (go_simp; rfl)); intro gb151 hg w6 hbox hb; have n0_ := Aside0.mk (below_step (by repeat (first | (with_reducible first | exact HB.out | apply below_alloc | apply pw_below_drewN | apply below_drew1) | exact HB.out)) hb); have n1_ := Aside0.mk (hbox); have n2_ := Aside0.mk ((by rw [hg]; exact (below_size (by repeat (first | (with_reducible first | exact HB.out | apply below_alloc | apply pw_below_drewN | apply below_drew1) | exact HB.out))) : w.heap.size ≤ gb151)); have n3_ := Aside0.mk ((by rw [hg]; exact (below_size (by repeat (first | (with_reducible first | exact HB.out | apply below_alloc | apply pw_below_drewN | apply below_drew1) | exact HB.out))) : w.heap.size ≤ gb151)); clear HB; have HB := n0_; have BK151 := n1_; have GW151 := n2_; have GE151 := n3_; clear n0_ n1_ n2_ n3_; clear hb hbox hg) | ((with_reducible refine gate_dst (N := 3) rfl ?_); refine box_event ?hg (N := 3) ?hd (cs := #[.int .i64 a1_0, .slice A1_1 l1_1.length c1_1]) (t := 28) ?hr ?_; (case hd => rfl); (case hg => rfl); (case hr => first | (go_simp; done) | (go_simp; rfl)); intro gb152 hg w7 hbox hb; have n0_ := Aside0.mk (blk_below (g := gb151) (o := .cells #[.int .i64 a0_0, .slice A0_1 l0_1.length c0_1] 28 (0, 0)) (by (with_reducible repeat (first | refine blk_drewN ?_ _ | refine blk_drew ?_ | refine blk_alloc ?_ _)); exact BK151.out) hb); have n1_ := Aside0.mk (below_step (by repeat (first | (with_reducible first | exact HB.out | apply below_alloc | apply pw_below_drewN | apply below_drew1 | refine below_set ?_ GE151.out) | exact HB.out)) hb); have n2_ := Aside0.mk (hbox); have n3_ := Aside0.mk ((by rw [hg]; exact (below_size (by repeat (first | (with_reducible first | exact HB.out | apply below_alloc | apply pw_below_drewN | apply below_drew1 | refine below_set ?_ GE151.out) | exact HB.out))) : w.heap.size ≤ gb152)); have n4_ := Aside0.mk ((by rw [hg]; exact (below_size (by repeat (first | (with_reducible first | exact HB.out | apply below_alloc | apply pw_below_drewN | apply below_drew1 | refine below_set ?_ GE151.out) | exact HB.out))) : w.heap.size ≤ gb152)); have n5_ := Aside0.mk ((by rw [hg]; exact Nat.ne_of_lt (blk_lt (g := gb151) (o := .cells #[.int .i64 a0_0, .slice A0_1 l0_1.length c0_1] 28 (0, 0)) (by (with_reducible repeat (first | refine blk_drewN ?_ _ | refine blk_drew ?_ | refine blk_alloc ?_ _)); exact BK151.out)) : gb151 ≠ gb152)); have n6_ := Aside0.mk ((by rw [hg]; exact Nat.ne_of_gt (blk_lt (g := gb151) (o := .cells #[.int .i64 a0_0, .slice A0_1 l0_1.length c0_1] 28 (0, 0)) (by (with_reducible repeat (first | refine blk_drewN ?_ _ | refine blk_drew ?_ | refine blk_alloc ?_ _)); exact BK151.out)) : gb152 ≠ gb151)); clear BK151; clear HB; have BK151 := n0_; have HB := n1_; have BK152 := n2_; have GW152 := n3_; have GE152 := n4_; have NB151_152 := n5_; have NB152_151 := n6_; clear n0_ n1_ n2_ n3_ n4_ n5_ n6_; clear hb hbox hg; have hnb8 := NB151_152.out; have hnc8 := NB152_151.out; have hcz9_0 : w7.cell? ⟨gb151, 0, none⟩ = some (.int .i64 a0_0) := (blk_cell BK151.out 0).trans rfl; have hcz9_1 : w7.cell? ⟨gb151, 1, none⟩ = some (.slice A0_1 l0_1.length c0_1) := (blk_cell BK151.out 1).trans rfl; have hfz9_0 := blk_frozen BK151.out 0; have hfz9_1 := blk_frozen BK151.out 1; have hcz10_0 : w7.cell? ⟨gb152, 0, none⟩ = some (.int .i64 a1_0) := (blk_cell BK152.out 0).trans rfl; have hcz10_1 : w7.cell? ⟨gb152, 1, none⟩ = some (.slice A1_1 l1_1.length c1_1) := (blk_cell BK152.out 1).trans rfl; have hfz10_0 := blk_frozen BK152.out 0; have hfz10_1 := blk_frozen BK152.out 1) | ((with_reducible refine gate_callee (f := 38) rfl ?_); refine goesL_ (some 14) rfl rfl Tryd.func38 (by kernel_rfl) rfl #[.slice A0_1 l0_1.length c0_1, .slice A1_1 l1_1.length c1_1] rfl (by (try simp only [List.map_toArray, List.map_cons, List.map_nil]); first | done | rfl | (simp only [List.length_drop, List.length_take]; rfl)) ?_; (with_reducible refine (laws_eqIntS.calls k _ _ l0_1 _ _ l1_1 true _ ?side1 ?side2 ?side3 ?side4 A4.out).mono ?_); (case side1 => repeat (first | exact (Kd.C_below HR0_1.out HB.out) | (with_reducible refine Kd.C_alloc ?_ _) | (with_reducible refine Kd.C_drewN ?_ _) | (with_reducible refine Kd.C_drew ?_))); (case side2 => exact HC0_1.out); (case side3 => repeat (first | exact (Kd.C_below HR1_1.out HB.out) | (with_reducible refine Kd.C_alloc ?_ _) | (with_reducible refine Kd.C_drewN ?_ _) | (with_reducible refine Kd.C_drew ?_))); (case side4 => exact HC1_1.out); rintro e w' ⟨rfl, ⟨nd, rfl⟩⟩; refine ⟨_, rfl, ?_⟩))
      go_ret
      exact ⟨by first | rfl | (simp [errW_none, errW_some] <;> rfl) | (simp [*, errW_none, errW_some] <;> rfl), by repeat (first | (with_reducible first | exact HB.out | apply below_alloc | apply pw_below_drewN | apply below_drew1 | refine below_set ?_ GE151.out | refine below_set ?_ GE152.out) | exact HB.out)⟩
    · replace c5 := Bool.eq_false_iff.mpr c5
      subst c5
      have H1 : (some false) = some r := by rw [if_neg (show ¬ (false = true) by decide)] at H; exact H
      clear H
      have H := H1
      clear H1
      obtain rfl := Option.some.inj H
      go_enter Tryd.func12, Tryd.ntmps12
      go_wp2_with (first | ((with_reducible refine gate_dst (N := 2) rfl ?_); refine box_event ?hg (N := 2) ?hd (cs := #[.int .i64 a0_0, .slice A0_1 l0_1.length c0_1]) (t := 28) ?hr ?_; (case hd => rfl); (case hg => rfl); (case hr => first | (go_simp; done) | (go_simp; rfl)); intro gb151 hg w11 hbox hb; have n0_ := Aside0.mk (below_step (by repeat (first | (with_reducible first | exact HB.out | apply below_alloc | apply pw_below_drewN | apply below_drew1) | exact HB.out)) hb); have n1_ := Aside0.mk (hbox); have n2_ := Aside0.mk ((by rw [hg]; exact (below_size (by repeat (first | (with_reducible first | exact HB.out | apply below_alloc | apply pw_below_drewN | apply below_drew1) | exact HB.out))) : w.heap.size ≤ gb151)); have n3_ := Aside0.mk ((by rw [hg]; exact (below_size (by repeat (first | (with_reducible first | exact HB.out | apply below_alloc | apply pw_below_drewN | apply below_drew1) | exact HB.out))) : w.heap.size ≤ gb151)); clear HB; have HB := n0_; have BK151 := n1_; have GW151 := n2_; have GE151 := n3_; clear n0_ n1_ n2_ n3_; clear hb hbox hg) | ((with_reducible refine gate_dst (N := 3) rfl ?_); refine box_event ?hg (N := 3) ?hd (cs := #[.int .i64 a1_0, .slice A1_1 l1_1.length c1_1]) (t := 28) ?hr ?_; (case hd => rfl); (case hg => rfl); (case hr => first | (go_simp; done) | (go_simp; rfl)); intro gb152 hg w12 hbox hb; have n0_ := Aside0.mk (blk_below (g := gb151) (o := .cells #[.int .i64 a0_0, .slice A0_1 l0_1.length c0_1] 28 (0, 0)) (by (with_reducible repeat (first | refine blk_drewN ?_ _ | refine blk_drew ?_ | refine blk_alloc ?_ _)); exact BK151.out) hb); have n1_ := Aside0.mk (below_step (by repeat (first | (with_reducible first | exact HB.out | apply below_alloc | apply pw_below_drewN | apply below_drew1 | refine below_set ?_ GE151.out) | exact HB.out)) hb); have n2_ := Aside0.mk (hbox); have n3_ := Aside0.mk ((by rw [hg]; exact (below_size (by repeat (first | (with_reducible first | exact HB.out | apply below_alloc | apply pw_below_drewN | apply below_drew1 | refine below_set ?_ GE151.out) | exact HB.out))) : w.heap.size ≤ gb152)); have n4_ := Aside0.mk ((by rw [hg]; exact (below_size (by repeat (first | (with_reducible first | exact HB.out | apply below_alloc | apply pw_below_drewN | apply below_drew1 | refine below_set ?_ GE151.out) | exact HB.out))) : w.heap.size ≤ gb152)); have n5_ := Aside0.mk ((by rw [hg]; exact Nat.ne_of_lt (blk_lt (g := gb151) (o := .cells #[.int .i64 a0_0, .slice A0_1 l0_1.length c0_1] 28 (0, 0)) (by (with_reducible repeat (first | refine blk_drewN ?_ _ | refine blk_drew ?_ | refine blk_alloc ?_ _)); exact BK151.out)) : gb151 ≠ gb152)); have n6_ := Aside0.mk ((by rw [hg]; exact Nat.ne_of_gt (blk_lt (g := gb151) (o := .cells #[.int .i64 a0_0, .slice A0_1 l0_1.length c0_1] 28 (0, 0)) (by (with_reducible repeat (first | refine blk_drewN ?_ _ | refine blk_drew ?_ | refine blk_alloc ?_ _)); exact BK151.out)) : gb152 ≠ gb151)); clear BK151; clear HB; have BK151 := n0_; have HB := n1_; have BK152 := n2_; have GW152 := n3_; have GE152 := n4_; have NB151_152 := n5_; have NB152_151 := n6_; clear n0_ n1_ n2_ n3_ n4_ n5_ n6_; clear hb hbox hg; have hnb13 := NB151_152.out; have hnc13 := NB152_151.out; have hcz14_0 : w12.cell? ⟨gb151, 0, none⟩ = some (.int .i64 a0_0) := (blk_cell BK151.out 0).trans rfl; have hcz14_1 : w12.cell? ⟨gb151, 1, none⟩ = some (.slice A0_1 l0_1.length c0_1) := (blk_cell BK151.out 1).trans rfl; have hfz14_0 := blk_frozen BK151.out 0; have hfz14_1 := blk_frozen BK151.out 1; have hcz15_0 : w12.cell? ⟨gb152, 0, none⟩ = some (.int .i64 a1_0) := (blk_cell BK152.out 0).trans rfl; have hcz15_1 : w12.cell? ⟨gb152, 1, none⟩ = some (.slice A1_1 l1_1.length c1_1) := (blk_cell BK152.out 1).trans rfl; have hfz15_0 := blk_frozen BK152.out 0; have hfz15_1 := blk_frozen BK152.out 1) | ((with_reducible refine gate_callee (f := 38) rfl ?_); refine goesL_ (some 14) rfl rfl Tryd.func38 (by kernel_rfl) rfl #[.slice A0_1 l0_1.length c0_1, .slice A1_1 l1_1.length c1_1] rfl (by (try simp only [List.map_toArray, List.map_cons, List.map_nil]); first | done | rfl | (simp only [List.length_drop, List.length_take]; rfl)) ?_; (with_reducible refine (laws_eqIntS.calls k _ _ l0_1 _ _ l1_1 false _ ?side1 ?side2 ?side3 ?side4 A4.out).mono ?_); (case side1 => repeat (first | exact (Kd.C_below HR0_1.out HB.out) | (with_reducible refine Kd.C_alloc ?_ _) | (with_reducible refine Kd.C_drewN ?_ _) | (with_reducible refine Kd.C_drew ?_))); (case side2 => exact HC0_1.out); (case side3 => repeat (first | exact (Kd.C_below HR1_1.out HB.out) | (with_reducible refine Kd.C_alloc ?_ _) | (with_reducible refine Kd.C_drewN ?_ _) | (with_reducible refine Kd.C_drew ?_))); (case side4 => exact HC1_1.out); rintro e w' ⟨rfl, ⟨nd, rfl⟩⟩; refine ⟨_, rfl, ?_⟩))
      go_ret
      exact ⟨by first | rfl | (simp [errW_none, errW_some] <;> rfl) | (simp [*, errW_none, errW_some] <;> rfl), by repeat (first | (with_reducible first | exact HB.out | apply below_alloc | apply pw_below_drewN | apply below_drew1 | refine below_set ?_ GE151.out | refine below_set ?_ GE152.out) | exact HB.out)⟩
  · rw [if_neg c3] at H
    have c3b0 : (a0_0 == a1_0) = false := beq_eq_false_iff_ne.mpr c3
    have c3b1 : (a0_0 != a1_0) = true := bne_iff_ne.mpr c3
    obtain rfl := Option.some.inj H
    go_enter Tryd.func12, Tryd.ntmps12
    go_wp2_with (first | ((with_reducible refine gate_dst (N := 2) rfl ?_); refine box_event ?hg (N := 2) ?hd (cs := #[.int .i64 a0_0, .slice A0_1 l0_1.length c0_1]) (t := 28) ?hr ?_; (case hd => rfl); (case hg => rfl); (case hr => first | (go_simp; done) | (go_simp; rfl)); intro gb151 hg w16 hbox hb; have n0_ := Aside0.mk (below_step (by repeat (first | (with_reducible first | exact HB.out | apply below_alloc | apply pw_below_drewN | apply below_drew1) | exact HB.out)) hb); have n1_ := Aside0.mk (hbox); have n2_ := Aside0.mk ((by rw [hg]; exact (below_size (by repeat (first | (with_reducible first | exact HB.out | apply below_alloc | apply pw_below_drewN | apply below_drew1) | exact HB.out))) : w.heap.size ≤ gb151)); have n3_ := Aside0.mk ((by rw [hg]; exact (below_size (by repeat (first | (with_reducible first | exact HB.out | apply below_alloc | apply pw_below_drewN | apply below_drew1) | exact HB.out))) : w.heap.size ≤ gb151)); clear HB; have HB := n0_; have BK151 := n1_; have GW151 := n2_; have GE151 := n3_; clear n0_ n1_ n2_ n3_; clear hb hbox hg) | ((with_reducible refine gate_dst (N := 3) rfl ?_); refine box_event ?hg (N := 3) ?hd (cs := #[.int .i64 a1_0, .slice A1_1 l1_1.length c1_1]) (t := 28) ?hr ?_; (case hd => rfl); (case hg => rfl); (case hr => first | (go_simp; done) | (go_simp; rfl)); intro gb152 hg w17 hbox hb; have n0_ := Aside0.mk (blk_below (g := gb151) (o := .cells #[.int .i64 a0_0, .slice A0_1 l0_1.length c0_1] 28 (0, 0)) (by (with_reducible repeat (first | refine blk_drewN ?_ _ | refine blk_drew ?_ | refine blk_alloc ?_ _)); exact BK151.out) hb); have n1_ := Aside0.mk (below_step (by repeat (first | (with_reducible first | exact HB.out | apply below_alloc | apply pw_below_drewN | apply below_drew1 | refine below_set ?_ GE151.out) | exact HB.out)) hb); have n2_ := Aside0.mk (hbox); have n3_ := Aside0.mk ((by rw [hg]; exact (below_size (by repeat (first | (with_reducible first | exact HB.out | apply below_alloc | apply pw_below_drewN | apply below_drew1 | refine below_set ?_ GE151.out) | exact HB.out))) : w.heap.size ≤ gb152)); have n4_ := Aside0.mk ((by rw [hg]; exact (below_size (by repeat (first | (with_reducible first | exact HB.out | apply below_alloc | apply pw_below_drewN | apply below_drew1 | refine below_set ?_ GE151.out) | exact HB.out))) : w.heap.size ≤ gb152)); have n5_ := Aside0.mk ((by rw [hg]; exact Nat.ne_of_lt (blk_lt (g := gb151) (o := .cells #[.int .i64 a0_0, .slice A0_1 l0_1.length c0_1] 28 (0, 0)) (by (with_reducible repeat (first | refine blk_drewN ?_ _ | refine blk_drew ?_ | refine blk_alloc ?_ _)); exact BK151.out)) : gb151 ≠ gb152)); have n6_ := Aside0.mk ((by rw [hg]; exact Nat.ne_of_gt (blk_lt (g := gb151) (o := .cells #[.int .i64 a0_0, .slice A0_1 l0_1.length c0_1] 28 (0, 0)) (by (with_reducible repeat (first | refine blk_drewN ?_ _ | refine blk_drew ?_ | refine blk_alloc ?_ _)); exact BK151.out)) : gb152 ≠ gb151)); clear BK151; clear HB; have BK151 := n0_; have HB := n1_; have BK152 := n2_; have GW152 := n3_; have GE152 := n4_; have NB151_152 := n5_; have NB152_151 := n6_; clear n0_ n1_ n2_ n3_ n4_ n5_ n6_; clear hb hbox hg; have hnb18 := NB151_152.out; have hnc18 := NB152_151.out; have hcz19_0 : w17.cell? ⟨gb151, 0, none⟩ = some (.int .i64 a0_0) := (blk_cell BK151.out 0).trans rfl; have hcz19_1 : w17.cell? ⟨gb151, 1, none⟩ = some (.slice A0_1 l0_1.length c0_1) := (blk_cell BK151.out 1).trans rfl; have hfz19_0 := blk_frozen BK151.out 0; have hfz19_1 := blk_frozen BK151.out 1; have hcz20_0 : w17.cell? ⟨gb152, 0, none⟩ = some (.int .i64 a1_0) := (blk_cell BK152.out 0).trans rfl; have hcz20_1 : w17.cell? ⟨gb152, 1, none⟩ = some (.slice A1_1 l1_1.length c1_1) := (blk_cell BK152.out 1).trans rfl; have hfz20_0 := blk_frozen BK152.out 0; have hfz20_1 := blk_frozen BK152.out 1))
    go_ret
    exact ⟨by first | rfl | (simp [errW_none, errW_some] <;> rfl) | (simp [*, errW_none, errW_some] <;> rfl), by repeat (first | (with_reducible first | exact HB.out | apply below_alloc | apply pw_below_drewN | apply below_drew1 | refine below_set ?_ GE151.out | refine below_set ?_ GE152.out) | exact HB.out)⟩

/-! ### laws_FnExactNextRight: function 3 -/
def laws_FnExactNextRight.f (k : Nat) (a0_0 : Int) (l0_1 : List Int) (a1 : ByteArray) : Option (Bool) := if (a1.size : Int) > 1048576 then (some true) else ((laws_szScheme.f a0_0 l0_1 1048576).bind fun t155 => (if t155 < 0 then (some true) else ((laws_toScheme.f k a0_0 l0_1).bind fun bt156 => ((spec_NextRight.f k bt156.1 bt156.2 a1).bind fun bt160 => ((laws_toScheme.f k a0_0 l0_1).bind fun bt162 => ((impl_NextRight.f k bt162.1 bt162.2 a1).bind fun bt167 => (if bt167.1.toList = bt160.1.toList then (if (bt167.2 != bt160.2) = true then (none) else ((laws_toScheme.f k a0_0 l0_1).bind fun bt169 => ((laws_eqScheme.f k bt162.1 bt162.2 bt169.1 bt169.2).bind fun t173 => (if t173 = true then (some true) else (none))))) else (none))))))))
theorem laws_FnExactNextRight.mono : ∀ a0 a1 a2 k, LeO (laws_FnExactNextRight.f k a0 a1 a2) (laws_FnExactNextRight.f (k + 1) a0 a1 a2) := by
  intro a0 a1 a2 k
  unfold laws_FnExactNextRight.f
  repeat' first
      | (with_reducible exact impl_NextRight.mono _ _ _ _)
      | (with_reducible exact laws_eqScheme.mono _ _ _ _ _)
      | (with_reducible exact laws_toScheme.mono _ _ _)
      | (with_reducible exact spec_NextRight.mono _ _ _ _)
      | (with_reducible exact LeO.refl _)
      | (with_reducible exact LeO.none _)
      | (with_reducible refine LeO.ite ?_ ?_)
      | (with_reducible refine LeO.bind ?_ (fun _ => ?_))
      | exact impl_NextRight.mono _ _ _ _
      | exact laws_eqScheme.mono _ _ _ _ _
      | exact laws_toScheme.mono _ _ _
      | exact spec_NextRight.mono _ _ _ _
      | exact LeO.none _
      | refine LeO.ite ?_ ?_
      | refine LeO.bind ?_ (fun _ => ?_)
set_option maxHeartbeats 8000000 in
set_option maxRecDepth 100000 in
theorem laws_FnExactNextRight.calls (k : Nat) (a0_0 : Int) (A0_1 : Option Addr) (c0_1 : Nat) (l0_1 : List Int) (a1 : ByteArray) (r : Bool) (w : World) (hr0_1 : Kd.C (Kd.int .i64) w A0_1 l0_1.length l0_1) (hc0_1 : l0_1.length ≤ c0_1) (h : laws_FnExactNextRight.f k a0_0 l0_1 a1 = some r) :
    Calls Tryd.prog 3 #[.agg #[.int .i64 a0_0, .slice A0_1 l0_1.length c0_1], .string a1] w fun e w' => e = .returned (.bool r) ∧ Below w.heap.size w w' := by
  have hu24 := Tryd.underlying24
  have hu28 := Tryd.underlying28
  have HR0_1 := Aside0.mk hr0_1
  have HC0_1 := Aside0.mk hc0_1
  clear hr0_1 hc0_1
  have HB := Aside0.mk (Below.refl w.heap.size w)
  have H : (if (a1.size : Int) > 1048576 then (some true) else ((laws_szScheme.f a0_0 l0_1 1048576).bind fun t155 => (if t155 < 0 then (some true) else ((laws_toScheme.f k a0_0 l0_1).bind fun bt156 => ((spec_NextRight.f k bt156.1 bt156.2 a1).bind fun bt160 => ((laws_toScheme.f k a0_0 l0_1).bind fun bt162 => ((impl_NextRight.f k bt162.1 bt162.2 a1).bind fun bt167 => (if bt167.1.toList = bt160.1.toList then (if (bt167.2 != bt160.2) = true then (none) else ((laws_toScheme.f k a0_0 l0_1).bind fun bt169 => ((laws_eqScheme.f k bt162.1 bt162.2 bt169.1 bt169.2).bind fun t173 => (if t173 = true then (some true) else (none))))) else (none))))))))) = some r := h
  clear h
  by_cases c3 : (a1.size : Int) > 1048576
  · rw [if_pos c3] at H
    have c3b0 : decide (1048576 < (a1.size : Int)) = true := decide_eq_true c3
    have c3b1 : decide (1048576 < a1.size) = true := decide_eq_true (by omega)
    clear c3
    obtain rfl := Option.some.inj H
    go_enter Tryd.func3, Tryd.ntmps3
    go_wp2_with (first | ((with_reducible refine gate_dst (N := 2) rfl ?_); refine box_event ?hg (N := 2) ?hd (cs := #[.int .i64 a0_0, .slice A0_1 l0_1.length c0_1]) (t := 24) ?hr ?_; (case hd => rfl); (case hg => rfl); (case hr => first | (go_simp; done) | (go_simp; rfl)); intro gb154 hg w4 hbox hb; have n0_ := Aside0.mk (below_step (by repeat (first | (with_reducible first | exact HB.out | apply below_alloc | apply pw_below_drewN | apply below_drew1) | exact HB.out)) hb); have n1_ := Aside0.mk (hbox); have n2_ := Aside0.mk ((by rw [hg]; exact (below_size (by repeat (first | (with_reducible first | exact HB.out | apply below_alloc | apply pw_below_drewN | apply below_drew1) | exact HB.out))) : w.heap.size ≤ gb154)); have n3_ := Aside0.mk ((by rw [hg]; exact (below_size (by repeat (first | (with_reducible first | exact HB.out | apply below_alloc | apply pw_below_drewN | apply below_drew1) | exact HB.out))) : w.heap.size ≤ gb154)); clear HB; have HB := n0_; have BK154 := n1_; have GW154 := n2_; have GE154 := n3_; clear n0_ n1_ n2_ n3_; clear hb hbox hg))
    go_ret
    exact ⟨by first | rfl | (simp [errW_none, errW_some] <;> rfl) | (simp [*, errW_none, errW_some] <;> rfl), by repeat (first | (with_reducible first | exact HB.out | apply below_alloc | apply pw_below_drewN | apply below_drew1 | refine below_set ?_ GE154.out) | exact HB.out)⟩
  · rw [if_neg c3] at H
    have c3b0 : decide (1048576 < (a1.size : Int)) = false := decide_eq_false c3
    have c3b1 : decide (1048576 < a1.size) = false := decide_eq_false (by omega)
    clear c3
    replace H := Option.bind_eq_some_iff.mp H
    obtain ⟨t155, A50, H⟩ := H
    replace H : (if t155 < 0 then (some true) else ((laws_toScheme.f k a0_0 l0_1).bind fun bt156 => ((spec_NextRight.f k bt156.1 bt156.2 a1).bind fun bt160 => ((laws_toScheme.f k a0_0 l0_1).bind fun bt162 => ((impl_NextRight.f k bt162.1 bt162.2 a1).bind fun bt167 => (if bt167.1.toList = bt160.1.toList then (if (bt167.2 != bt160.2) = true then (none) else ((laws_toScheme.f k a0_0 l0_1).bind fun bt169 => ((laws_eqScheme.f k bt162.1 bt162.2 bt169.1 bt169.2).bind fun t173 => (if t173 = true then (some true) else (none))))) else (none))))))) = some r := H
    have A5 := Aside0.mk A50
    clear A50
    by_cases c6 : t155 < 0
    · rw [if_pos c6] at H
      have c6b0 : decide (t155 < 0) = true := decide_eq_true c6
      clear c6
      obtain rfl := Option.some.inj H
      go_enter Tryd.func3, Tryd.ntmps3
      go_wp2_with (first | ((with_reducible refine gate_dst (N := 2) rfl ?_); refine box_event ?hg (N := 2) ?hd (cs := #[.int .i64 a0_0, .slice A0_1 l0_1.length c0_1]) (t := 24) ?hr ?_; (case hd => rfl); (case hg => rfl); (case hr => first | (go_simp; done) | (go_simp; rfl)); intro gb154 hg w7 hbox hb; have n0_ := Aside0.mk (below_step (by repeat (first | (with_reducible first | exact HB.out | apply below_alloc | apply pw_below_drewN | apply below_drew1) | exact HB.out)) hb); have n1_ := Aside0.mk (hbox); have n2_ := Aside0.mk ((by rw [hg]; exact (below_size (by repeat (first | (with_reducible first | exact HB.out | apply below_alloc | apply pw_below_drewN | apply below_drew1) | exact HB.out))) : w.heap.size ≤ gb154)); have n3_ := Aside0.mk ((by rw [hg]; exact (below_size (by repeat (first | (with_reducible first | exact HB.out | apply below_alloc | apply pw_below_drewN | apply below_drew1) | exact HB.out))) : w.heap.size ≤ gb154)); clear HB; have HB := n0_; have BK154 := n1_; have GW154 := n2_; have GE154 := n3_; clear n0_ n1_ n2_ n3_; clear hb hbox hg; have hcz8_0 : w7.cell? ⟨gb154, 0, none⟩ = some (.int .i64 a0_0) := (blk_cell BK154.out 0).trans rfl; have hcz8_1 : w7.cell? ⟨gb154, 1, none⟩ = some (.slice A0_1 l0_1.length c0_1) := (blk_cell BK154.out 1).trans rfl; have hfz8_0 := blk_frozen BK154.out 0; have hfz8_1 := blk_frozen BK154.out 1) | ((with_reducible refine gate_callee (f := 8) rfl ?_); refine goesL_ (some 16) rfl rfl Tryd.func8 (by kernel_rfl) rfl #[.agg #[.int .i64 a0_0, .slice A0_1 l0_1.length c0_1], .int .i64 1048576] rfl (by (try simp only [List.map_toArray, List.map_cons, List.map_nil]); first | done | rfl | (simp only [List.length_drop, List.length_take]; rfl)) ?_; (with_reducible refine (laws_szScheme.calls a0_0 _ _ l0_1 1048576 t155 _ ?side1 ?side2 A5.out).mono ?_); (case side1 => repeat (first | exact (Kd.C_below HR0_1.out HB.out) | (with_reducible refine Kd.C_alloc ?_ _) | (with_reducible refine Kd.C_drewN ?_ _) | (with_reducible refine Kd.C_drew ?_))); (case side2 => exact HC0_1.out); rintro e w9 ⟨rfl, hb⟩; refine ⟨_, rfl, ?_⟩; have n0_ := Aside0.mk (blk_below (g := gb154) (o := .cells #[.int .i64 a0_0, .slice A0_1 l0_1.length c0_1] 24 (0, 0)) (by (with_reducible repeat (first | refine blk_drewN ?_ _ | refine blk_drew ?_ | refine blk_alloc ?_ _)); exact BK154.out) hb); have n1_ := Aside0.mk (below_step (by repeat (first | (with_reducible first | exact HB.out | apply below_alloc | apply pw_below_drewN | apply below_drew1 | refine below_set ?_ GE154.out) | exact HB.out)) hb); clear BK154; clear HB; have BK154 := n0_; have HB := n1_; clear n0_ n1_; (try clear hb); (try clear hb2); (try clear hk); (try clear hi)))
      go_ret
      exact ⟨by first | rfl | (simp [errW_none, errW_some] <;> rfl) | (simp [*, errW_none, errW_some] <;> rfl), by repeat (first | (with_reducible first | exact HB.out | apply below_alloc | apply pw_below_drewN | apply below_drew1 | refine below_set ?_ GE154.out) | exact HB.out)⟩
    · rw [if_neg c6] at H
      have c6b0 : decide (t155 < 0) = false := decide_eq_false c6
      clear c6
      replace H := Option.bind_eq_some_iff.mp H
      obtain ⟨⟨t156, t157⟩, A100, H⟩ := H
      replace H : ((spec_NextRight.f k t156 t157 a1).bind fun bt160 => ((laws_toScheme.f k a0_0 l0_1).bind fun bt162 => ((impl_NextRight.f k bt162.1 bt162.2 a1).bind fun bt167 => (if bt167.1.toList = bt160.1.toList then (if (bt167.2 != bt160.2) = true then (none) else ((laws_toScheme.f k a0_0 l0_1).bind fun bt169 => ((laws_eqScheme.f k bt162.1 bt162.2 bt169.1 bt169.2).bind fun t173 => (if t173 = true then (some true) else (none))))) else (none))))) = some r := H
      have A10 := Aside0.mk A100
      clear A100
      replace H := Option.bind_eq_some_iff.mp H
      obtain ⟨⟨t160, t161⟩, A110, H⟩ := H
      replace H : ((laws_toScheme.f k a0_0 l0_1).bind fun bt162 => ((impl_NextRight.f k bt162.1 bt162.2 a1).bind fun bt167 => (if bt167.1.toList = t160.toList then (if (bt167.2 != t161) = true then (none) else ((laws_toScheme.f k a0_0 l0_1).bind fun bt169 => ((laws_eqScheme.f k bt162.1 bt162.2 bt169.1 bt169.2).bind fun t173 => (if t173 = true then (some true) else (none))))) else (none)))) = some r := H
      have A11 := Aside0.mk A110
      clear A110
      replace H := Option.bind_eq_some_iff.mp H
      obtain ⟨⟨t162, t163⟩, A120, H⟩ := H
      replace H : ((impl_NextRight.f k t162 t163 a1).bind fun bt167 => (if bt167.1.toList = t160.toList then (if (bt167.2 != t161) = true then (none) else ((laws_toScheme.f k a0_0 l0_1).bind fun bt169 => ((laws_eqScheme.f k t162 t163 bt169.1 bt169.2).bind fun t173 => (if t173 = true then (some true) else (none))))) else (none))) = some r := H
      have A12 := Aside0.mk A120
      clear A120
      replace H := Option.bind_eq_some_iff.mp H
      obtain ⟨⟨t167, t168⟩, A130, H⟩ := H
      replace H : (if t167.toList = t160.toList then (if (t168 != t161) = true then (none) else ((laws_toScheme.f k a0_0 l0_1).bind fun bt169 => ((laws_eqScheme.f k t162 t163 bt169.1 bt169.2).bind fun t173 => (if t173 = true then (some true) else (none))))) else (none)) = some r := H
      have A13 := Aside0.mk A130
      clear A130
      by_cases c14 : t167.toList = t160.toList
      · rw [if_pos c14] at H
        have c14b0 : (t167.toList == t160.toList) = true := beq_iff_eq.mpr c14
        have c14b1 : (t167.toList != t160.toList) = false := bne_eq_false_iff_eq.mpr c14
        clear c14
        by_cases c15 : (t168 != t161) = true
        · rw [if_pos c15] at H
          exact absurd H (by simp)
        · rw [if_neg c15] at H
          have c15b0 : (t168 != t161) = false := by simpa using c15
          (try (have c15b1 : decide (t168 = t161) = true := by simpa using c15))
          (try (have c15b2 : (t168 == t161) = true := by simpa using c15))
          clear c15
          replace H := Option.bind_eq_some_iff.mp H
          obtain ⟨⟨t169, t170⟩, A160, H⟩ := H
          replace H : ((laws_eqScheme.f k t162 t163 t169 t170).bind fun t173 => (if t173 = true then (some true) else (none))) = some r := H
          have A16 := Aside0.mk A160
          clear A160
          replace H := Option.bind_eq_some_iff.mp H
          obtain ⟨t173, A170, H⟩ := H
          replace H : (if t173 = true then (some true) else (none)) = some r := H
          have A17 := Aside0.mk A170
          clear A170
          by_cases c18 : t173 = true
          · subst c18
            have H1 : (some true) = some r := by rw [if_pos rfl] at H; exact H
            clear H
            have H := H1
            clear H1
            obtain rfl := Option.some.inj H
            go_enter Tryd.func3, Tryd.ntmps3
            try go_wp2_with (first | ((with_reducible refine gate_dst (N := 2) rfl ?_); refine box_event ?hg (N := 2) ?hd (cs := #[.int .i64 a0_0, .slice A0_1 l0_1.length c0_1]) (t := 24) ?hr ?_; (case hd => rfl); (case hg => rfl); (case hr => first | (go_simp; done) | (go_simp; rfl)); intro gb154 hg w19 hbox hb; have n0_ := Aside0.mk (below_step (by repeat (first | (with_reducible first | exact HB.out | apply below_alloc | apply pw_below_drewN | apply below_drew1) | exact HB.out)) hb); have n1_ := Aside0.mk (hbox); have n2_ := Aside0.mk ((by rw [hg]; exact (below_size (by repeat (first | (with_reducible first | exact HB.out | apply below_alloc | apply pw_below_drewN | apply below_drew1) | exact HB.out))) : w.heap.size ≤ gb154)); have n3_ := Aside0.mk ((by rw [hg]; exact (below_size (by repeat (first | (with_reducible first | exact HB.out | apply below_alloc | apply pw_below_drewN | apply below_drew1) | exact HB.out))) : w.heap.size ≤ gb154)); clear HB; have HB := n0_; have BK154 := n1_; have GW154 := n2_; have GE154 := n3_; clear n0_ n1_ n2_ n3_; clear hb hbox hg; have hcz20_0 : w19.cell? ⟨gb154, 0, none⟩ = some (.int .i64 a0_0) := (blk_cell BK154.out 0).trans rfl; have hcz20_1 : w19.cell? ⟨gb154, 1, none⟩ = some (.slice A0_1 l0_1.length c0_1) := (blk_cell BK154.out 1).trans rfl; have hfz20_0 := blk_frozen BK154.out 0; have hfz20_1 := blk_frozen BK154.out 1) | ((with_reducible refine gate_callee (f := 8) rfl ?_); refine goesL_ (some 16) rfl rfl Tryd.func8 (by kernel_rfl) rfl #[.agg #[.int .i64 a0_0, .slice A0_1 l0_1.length c0_1], .int .i64 1048576] rfl (by (try simp only [List.map_toArray, List.map_cons, List.map_nil]); first | done | rfl | (simp only [List.length_drop, List.length_take]; rfl)) ?_; (with_reducible refine (laws_szScheme.calls a0_0 _ _ l0_1 1048576 t155 _ ?side1 ?side2 A5.out).mono ?_); (case side1 => repeat (first | exact (Kd.C_below HR0_1.out HB.out) | (with_reducible refine Kd.C_alloc ?_ _) | (with_reducible refine Kd.C_drewN ?_ _) | (with_reducible refine Kd.C_drew ?_))); (case side2 => exact HC0_1.out); rintro e w21 ⟨rfl, hb⟩; refine ⟨_, rfl, ?_⟩; have n0_ := Aside0.mk (blk_below (g := gb154) (o := .cells #[.int .i64 a0_0, .slice A0_1 l0_1.length c0_1] 24 (0, 0)) (by (with_reducible repeat (first | refine blk_drewN ?_ _ | refine blk_drew ?_ | refine blk_alloc ?_ _)); exact BK154.out) hb); have n1_ := Aside0.mk (below_step (by repeat (first | (with_reducible first | exact HB.out | apply below_alloc | apply pw_below_drewN | apply below_drew1 | refine below_set ?_ GE154.out) | exact HB.out)) hb); clear BK154; clear HB; have BK154 := n0_; have HB := n1_; clear n0_ n1_; (try clear hb); (try clear hb2); (try clear hk); (try clear hi); have hcz22_0 : w21.cell? ⟨gb154, 0, none⟩ = some (.int .i64 a0_0) := (blk_cell BK154.out 0).trans rfl; have hcz22_1 : w21.cell? ⟨gb154, 1, none⟩ = some (.slice A0_1 l0_1.length c0_1) := (blk_cell BK154.out 1).trans rfl; have hfz22_0 := blk_frozen BK154.out 0; have hfz22_1 := blk_frozen BK154.out 1) | ((with_reducible refine gate_callee (f := 10) rfl ?_); refine goesL_ (some 21) rfl rfl Tryd.func10 (by kernel_rfl) rfl #[.agg #[.int .i64 a0_0, .slice A0_1 l0_1.length c0_1]] rfl (by (try simp only [List.map_toArray, List.map_cons, List.map_nil]); first | done | rfl | (simp only [List.length_drop, List.length_take]; rfl)) ?_; (with_reducible refine (laws_toScheme.calls k a0_0 _ _ l0_1 t156 t157 _ ?side1 ?side2 A10.out).mono ?_); (case side1 => repeat (first | exact (Kd.C_below HR0_1.out HB.out) | (with_reducible refine Kd.C_alloc ?_ _) | (with_reducible refine Kd.C_drewN ?_ _) | (with_reducible refine Kd.C_drew ?_))); (case side2 => exact HC0_1.out); rintro e w23 ⟨v158, rfl, ho0, hb⟩; refine ⟨_, rfl, ?_⟩; have n0_ := Aside0.mk (Kd.R_lower ho0 (below_size (by repeat (first | (with_reducible first | exact HB.out | apply below_alloc | apply pw_below_drewN | apply below_drew1 | refine below_set ?_ GE154.out) | exact HB.out)))); have n1_ := Aside0.mk (blk_below (g := gb154) (o := .cells #[.int .i64 a0_0, .slice A0_1 l0_1.length c0_1] 24 (0, 0)) (by (with_reducible repeat (first | refine blk_drewN ?_ _ | refine blk_drew ?_ | refine blk_alloc ?_ _)); exact BK154.out) hb); have n2_ := Aside0.mk (below_step (by repeat (first | (with_reducible first | exact HB.out | apply below_alloc | apply pw_below_drewN | apply below_drew1 | refine below_set ?_ GE154.out) | exact HB.out)) hb); clear BK154; clear HB; have HO159 := n0_; have BK154 := n1_; have HB := n2_; clear n0_ n1_ n2_; (try clear hb); (try clear hb2); (try clear hk); (try clear hi); (try clear ho0); obtain ⟨Ao24, co24, eo24⟩ := Kd.R_slice HO159.out; subst eo24) | ((with_reducible refine gate_callee (f := 9) rfl ?_); refine goesL_ (some 23) rfl rfl Tryd.func9 (by kernel_rfl) rfl #[.agg #[.int .i64 t156, .slice Ao24 t157.length co24], .string a1] rfl (by (try simp only [List.map_toArray, List.map_cons, List.map_nil]); first | done | rfl | (simp only [List.length_drop, List.length_take]; rfl)) ?_; (with_reducible refine (spec_NextRight.calls k t156 _ _ t157 a1 t160 t161 _ ?side1 ?side2 A11.out).mono ?_); (case side1 => repeat (first | exact (Kd.R_reads' HO159.out).2.2 | (with_reducible refine Kd.C_alloc ?_ _) | (with_reducible refine Kd.C_drewN ?_ _) | (with_reducible refine Kd.C_drew ?_))); (case side2 => exact (Kd.R_reads' HO159.out).2.1); rintro e w25 ⟨rfl, hb⟩; refine ⟨_, rfl, ?_⟩; have n0_ := Aside0.mk (Kd.R_below (by (with_reducible repeat (first | apply Kd.R_alloc | apply Kd.R_drewN | apply Kd.R_drew)); exact HO159.out) hb); have n1_ := Aside0.mk (blk_below (g := gb154) (o := .cells #[.int .i64 a0_0, .slice A0_1 l0_1.length c0_1] 24 (0, 0)) (by (with_reducible repeat (first | refine blk_drewN ?_ _ | refine blk_drew ?_ | refine blk_alloc ?_ _)); exact BK154.out) hb); have n2_ := Aside0.mk (below_step (by repeat (first | (with_reducible first | exact HB.out | apply below_alloc | apply pw_below_drewN | apply below_drew1 | refine below_set ?_ GE154.out) | exact HB.out)) hb); clear HO159; clear BK154; clear HB; have HO159 := n0_; have BK154 := n1_; have HB := n2_; clear n0_ n1_ n2_; (try clear hb); (try clear hb2); (try clear hk); (try clear hi); have hcz26_0 : w25.cell? ⟨gb154, 0, none⟩ = some (.int .i64 a0_0) := (blk_cell BK154.out 0).trans rfl; have hcz26_1 : w25.cell? ⟨gb154, 1, none⟩ = some (.slice A0_1 l0_1.length c0_1) := (blk_cell BK154.out 1).trans rfl; have hfz26_0 := blk_frozen BK154.out 0; have hfz26_1 := blk_frozen BK154.out 1) | ((with_reducible refine gate_callee (f := 10) rfl ?_); refine goesL_ (some 27) rfl rfl Tryd.func10 (by kernel_rfl) rfl #[.agg #[.int .i64 a0_0, .slice A0_1 l0_1.length c0_1]] rfl (by (try simp only [List.map_toArray, List.map_cons, List.map_nil]); first | done | rfl | (simp only [List.length_drop, List.length_take]; rfl)) ?_; (with_reducible refine (laws_toScheme.calls k a0_0 _ _ l0_1 t162 t163 _ ?side1 ?side2 A12.out).mono ?_); (case side1 => repeat (first | exact (Kd.C_below HR0_1.out HB.out) | (with_reducible refine Kd.C_alloc ?_ _) | (with_reducible refine Kd.C_drewN ?_ _) | (with_reducible refine Kd.C_drew ?_))); (case side2 => exact HC0_1.out); rintro e w27 ⟨v164, rfl, ho0, hb⟩; refine ⟨_, rfl, ?_⟩; have n0_ := Aside0.mk (Kd.R_elder' (by (with_reducible repeat (first | apply Kd.R_alloc | apply Kd.R_drewN | apply Kd.R_drew)); exact HO159.out) (Kd.R_base ho0) hb); have n1_ := Aside0.mk (Kd.R_lower (Kd.R_new' ho0 (Kd.R_lt (by (with_reducible repeat (first | apply Kd.R_alloc | apply Kd.R_drewN | apply Kd.R_drew)); exact HO159.out))) (below_size (by repeat (first | (with_reducible first | exact HB.out | apply below_alloc | apply pw_below_drewN | apply below_drew1 | refine below_set ?_ GE154.out) | exact HB.out)))); have n2_ := Aside0.mk (blk_below (g := gb154) (o := .cells #[.int .i64 a0_0, .slice A0_1 l0_1.length c0_1] 24 (0, 0)) (by (with_reducible repeat (first | refine blk_drewN ?_ _ | refine blk_drew ?_ | refine blk_alloc ?_ _)); exact BK154.out) hb); have n3_ := Aside0.mk (below_step (by repeat (first | (with_reducible first | exact HB.out | apply below_alloc | apply pw_below_drewN | apply below_drew1 | refine below_set ?_ GE154.out) | exact HB.out)) hb); clear HO159; clear BK154; clear HB; have HO159 := n0_; have HO165 := n1_; have BK154 := n2_; have HB := n3_; clear n0_ n1_ n2_ n3_; (try clear hb); (try clear hb2); (try clear hk); (try clear hi); (try clear ho0)) | ((with_reducible refine gate_dst (N := 8) rfl ?_); refine box_event ?hg (N := 8) ?hd (cs := #[.int .i64 0, .slice none 0 0]) (t := 28) ?hr ?_; (case hd => rfl); (case hg => rfl); (case hr => first | (go_simp; done) | (go_simp; rfl)); intro gb166 hg w28 hbox hb; have n0_ := Aside0.mk (Kd.R_below (by (with_reducible repeat (first | apply Kd.R_alloc | apply Kd.R_drewN | apply Kd.R_drew)); exact HO159.out) hb); have n1_ := Aside0.mk (Kd.R_below (by (with_reducible repeat (first | apply Kd.R_alloc | apply Kd.R_drewN | apply Kd.R_drew)); exact HO165.out) hb); have n2_ := Aside0.mk (blk_below (g := gb154) (o := .cells #[.int .i64 a0_0, .slice A0_1 l0_1.length c0_1] 24 (0, 0)) (by (with_reducible repeat (first | refine blk_drewN ?_ _ | refine blk_drew ?_ | refine blk_alloc ?_ _)); exact BK154.out) hb); have n3_ := Aside0.mk (below_step (by repeat (first | (with_reducible first | exact HB.out | apply below_alloc | apply pw_below_drewN | apply below_drew1 | refine below_set ?_ GE154.out) | exact HB.out)) hb); have n4_ := Aside0.mk (hbox); have n5_ := Aside0.mk ((by rw [hg]; exact (below_size (by repeat (first | (with_reducible first | exact HB.out | apply below_alloc | apply pw_below_drewN | apply below_drew1 | refine below_set ?_ GE154.out) | exact HB.out))) : w.heap.size ≤ gb166)); have n6_ := Aside0.mk ((by rw [hg]; exact (below_size (by repeat (first | (with_reducible first | exact HB.out | apply below_alloc | apply pw_below_drewN | apply below_drew1 | refine below_set ?_ GE154.out) | exact HB.out))) : w.heap.size ≤ gb166)); have n7_ := Aside0.mk ((by rw [hg]; exact Nat.ne_of_lt (blk_lt (g := gb154) (o := .cells #[.int .i64 a0_0, .slice A0_1 l0_1.length c0_1] 24 (0, 0)) (by (with_reducible repeat (first | refine blk_drewN ?_ _ | refine blk_drew ?_ | refine blk_alloc ?_ _)); exact BK154.out)) : gb154 ≠ gb166)); have n8_ := Aside0.mk ((by rw [hg]; exact Nat.ne_of_gt (blk_lt (g := gb154) (o := .cells #[.int .i64 a0_0, .slice A0_1 l0_1.length c0_1] 24 (0, 0)) (by (with_reducible repeat (first | refine blk_drewN ?_ _ | refine blk_drew ?_ | refine blk_alloc ?_ _)); exact BK154.out)) : gb166 ≠ gb154)); clear HO159; clear HO165; clear BK154; clear HB; have HO159 := n0_; have HO165 := n1_; have BK154 := n2_; have HB := n3_; have BK166 := n4_; have GW166 := n5_; have GE166 := n6_; have NB154_166 := n7_; have NB166_154 := n8_; clear n0_ n1_ n2_ n3_ n4_ n5_ n6_ n7_ n8_; clear hb hbox hg; have hnb29 := NB166_154.out; have hnc29 := NB154_166.out; have hcz30_0 : w28.cell? ⟨gb166, 0, none⟩ = some (.int .i64 0) := (blk_cell BK166.out 0).trans rfl; have hcz30_1 : w28.cell? ⟨gb166, 1, none⟩ = some (.slice none 0 0) := (blk_cell BK166.out 1).trans rfl; have hfz30_0 := blk_frozen BK166.out 0; have hfz30_1 := blk_frozen BK166.out 1; obtain ⟨Ao31, co31, eo31⟩ := Kd.R_slice HO165.out; subst eo31) | ((with_reducible refine gate_callee (f := 11) rfl ?_); refine goesL_ (some 31) rfl rfl Tryd.func11 (by kernel_rfl) rfl #[.agg #[.int .i64 t162, .slice Ao31 t163.length co31], .string a1] rfl (by (try simp only [List.map_toArray, List.map_cons, List.map_nil]); first | done | rfl | (simp only [List.length_drop, List.length_take]; rfl)) ?_; (with_reducible refine (impl_NextRight.calls k t162 _ _ t163 a1 t167 t168 _ ?side1 ?side2 A13.out).mono ?_); (case side1 => refine (Kd.R_reads' (e := 3) (base := w.heap.size) (ok := fun k_ => (True ∧ some k_ ≠ (.slice Ao24 t157.length co24 : Value).ownBlock)) (n := t163.length) (c := co31) ?_).2.2; exact (by (with_reducible repeat (first | apply Kd.R_alloc | apply Kd.R_drewN | apply Kd.R_drew)); exact (Kd.R_mono (Kd.R_far (p := ⟨gb166, 1, none⟩) (Kd.R_far (p := ⟨gb166, 0, none⟩) (Kd.R_types HO165.out BK166.out (by decide)) (fun _ hk => hk.2) (.int .i64 t162)) (fun _ hk => hk.2) (.slice Ao31 t163.length co31)) (fun _ h_ => h_.1)))); (case side2 => exact (Kd.R_reads' HO165.out).2.1); rintro e w32 ⟨rfl, hb⟩; refine ⟨_, rfl, ?_⟩; have n0_ := Aside0.mk (Kd.R_below (by (with_reducible repeat (first | apply Kd.R_alloc | apply Kd.R_drewN | apply Kd.R_drew)); exact (Kd.R_mono (Kd.R_far (p := ⟨gb166, 1, none⟩) (Kd.R_far (p := ⟨gb166, 0, none⟩) (Kd.R_types HO159.out BK166.out (by decide)) (fun _ hk => hk.2) (.int .i64 t162)) (fun _ hk => hk.2) (.slice Ao31 t163.length co31)) (fun _ h_ => h_.1))) hb); have n1_ := Aside0.mk (Kd.R_below (by (with_reducible repeat (first | apply Kd.R_alloc | apply Kd.R_drewN | apply Kd.R_drew)); exact (Kd.R_mono (Kd.R_far (p := ⟨gb166, 1, none⟩) (Kd.R_far (p := ⟨gb166, 0, none⟩) (Kd.R_types HO165.out BK166.out (by decide)) (fun _ hk => hk.2) (.int .i64 t162)) (fun _ hk => hk.2) (.slice Ao31 t163.length co31)) (fun _ h_ => h_.1))) hb); have n2_ := Aside0.mk (blk_below (g := gb154) (o := .cells #[.int .i64 a0_0, .slice A0_1 l0_1.length c0_1] 24 (0, 0)) (by (with_reducible repeat (first | refine blk_drewN ?_ _ | refine blk_drew ?_ | refine blk_alloc ?_ _)); refine blk_far ?_ NB154_166.out _; (with_reducible repeat (first | refine blk_drewN ?_ _ | refine blk_drew ?_ | refine blk_alloc ?_ _)); refine blk_far ?_ NB154_166.out _; (with_reducible repeat (first | refine blk_drewN ?_ _ | refine blk_drew ?_ | refine blk_alloc ?_ _)); exact BK154.out) hb); have n3_ := Aside0.mk (blk_below (g := gb166) (o := .cells #[.int .i64 t162, .slice Ao31 t163.length co31] 28 (0, 0)) (by (with_reducible repeat (first | refine blk_drewN ?_ _ | refine blk_drew ?_ | refine blk_alloc ?_ _)); refine blk_put (cs := #[.int .i64 t162, .slice none 0 0]) ?_ 1 _ rfl; (with_reducible repeat (first | refine blk_drewN ?_ _ | refine blk_drew ?_ | refine blk_alloc ?_ _)); refine blk_put (cs := #[.int .i64 0, .slice none 0 0]) ?_ 0 _ rfl; (with_reducible repeat (first | refine blk_drewN ?_ _ | refine blk_drew ?_ | refine blk_alloc ?_ _)); exact BK166.out) hb); have n4_ := Aside0.mk (below_step (by repeat (first | (with_reducible first | exact HB.out | apply below_alloc | apply pw_below_drewN | apply below_drew1 | refine below_set ?_ GE154.out | refine below_set ?_ GE166.out) | exact HB.out)) hb); clear HO159; clear HO165; clear BK154; clear BK166; clear HB; have HO159 := n0_; have HO165 := n1_; have BK154 := n2_; have BK166 := n3_; have HB := n4_; clear n0_ n1_ n2_ n3_ n4_; (try clear hb); (try clear hb2); (try clear hk); (try clear hi)))
            have n0_ := Aside0.mk (Kd.R_drew HO159.out)
            have n1_ := Aside0.mk (Kd.R_drew HO165.out)
            have n2_ := Aside0.mk (blk_drew BK154.out)
            have n3_ := Aside0.mk (blk_drew BK166.out)
            have n4_ := Aside0.mk (below_drew1 HB.out)
            clear HO159
            clear HO165
            clear BK154
            clear BK166
            clear HB
            have HO159 := n0_
            have HO165 := n1_
            have BK154 := n2_
            have BK166 := n3_
            have HB := n4_
            clear n0_ n1_ n2_ n3_ n4_
            refine start_ (n := 5) (S := fun w' => w'.cell? ⟨gb166, 0, none⟩ = some (.int .i64 t162) ∧ w'.cell? ⟨gb166, 1, none⟩ = some (.slice Ao31 t163.length co31) ∧ w'.cell? ⟨gb154, 0, none⟩ = some (.int .i64 a0_0) ∧ w'.cell? ⟨gb154, 1, none⟩ = some (.slice A0_1 l0_1.length c0_1)) (ds := []) #[false, false, false, false, false] (by kernel_rfl) rfl rfl ⟨(blk_cell BK166.out 0).trans rfl, (blk_cell BK166.out 1).trans rfl, (blk_cell BK154.out 0).trans rfl, (blk_cell BK154.out 1).trans rfl⟩ (fun hHeld => ?_)
            generalize w32.drew = w33 at HO159 HO165 BK154 BK166 HB hHeld ⊢
            refine take_ (i := 0) (N := some 42) (v := ?_) (a' := ?_) #[true, false, false, false, false] rfl rfl (by kernel_rfl) (fun _ _ _ h => h) (Or.inl ⟨by rfl, ?_⟩) hHeld ?_ ?_
            rotate_left
            · rintro w' ⟨s0, s1, s2, s3⟩
              go_simp
              with_reducible rfl
            rotate_left
            · simp only [Act.put, List.setIfInBounds_toArray, List.set_cons_zero, List.set_cons_succ, i64_w, i32_w]
              rfl
            refine take_ (i := 1) (N := some 43) (v := ?_) (a' := ?_) #[true, true, false, false, false] rfl rfl (by kernel_rfl) (fun _ _ _ h => h) (Or.inl ⟨by rfl, ?_⟩) hHeld ?_ ?_
            rotate_left
            · rintro w' ⟨s0, s1, s2, s3⟩
              go_simp
              with_reducible rfl
            rotate_left
            · simp only [Act.put, List.setIfInBounds_toArray, List.set_cons_zero, List.set_cons_succ, i64_w, i32_w]
              rfl
            refine one_ (i := 2) (N := some 44) #[true, true, true, false, false] rfl rfl (by kernel_rfl) (by decide) (fun K hK => ?_)
            refine goes_ Tryd.func10 (by kernel_rfl) rfl #[.agg #[.int .i64 a0_0, .slice A0_1 l0_1.length c0_1]] (by rfl) rfl rfl (by (try simp only [List.map_toArray, List.map_cons, List.map_nil]); first | done | rfl | (simp only [List.length_drop, List.length_take]; rfl)) ?_
            with_reducible refine (laws_toScheme.calls k a0_0 _ _ l0_1 t169 t170 _ ?side1 ?side2 A16.out).mono ?_
            (case side1 => repeat (first | exact (Kd.C_below HR0_1.out HB.out) | (with_reducible refine Kd.C_alloc ?_ _) | (with_reducible refine Kd.C_drewN ?_ _) | (with_reducible refine Kd.C_drew ?_)))
            (case side2 => exact HC0_1.out)
            rintro e w34 ⟨v171, rfl, ho0, hb⟩
            refine ⟨_, rfl, ?_⟩
            have n0_ := Aside0.mk (Kd.R_elder' (by (with_reducible repeat (first | apply Kd.R_alloc | apply Kd.R_drewN | apply Kd.R_drew)); exact HO159.out) (Kd.R_base ho0) hb)
            have n1_ := Aside0.mk (Kd.R_elder' (by (with_reducible repeat (first | apply Kd.R_alloc | apply Kd.R_drewN | apply Kd.R_drew)); exact HO165.out) (Kd.R_base ho0) hb)
            have n2_ := Aside0.mk (Kd.R_lower (Kd.R_new' (Kd.R_new' ho0 (Kd.R_lt (by (with_reducible repeat (first | apply Kd.R_alloc | apply Kd.R_drewN | apply Kd.R_drew)); exact HO159.out))) (Kd.R_lt (by (with_reducible repeat (first | apply Kd.R_alloc | apply Kd.R_drewN | apply Kd.R_drew)); exact HO165.out))) (below_size (by repeat (first | (with_reducible first | exact HB.out | apply below_alloc | apply pw_below_drewN | apply below_drew1 | refine below_set ?_ GE154.out | refine below_set ?_ GE166.out) | exact HB.out))))
            have n3_ := Aside0.mk (blk_below (g := gb154) (o := .cells #[.int .i64 a0_0, .slice A0_1 l0_1.length c0_1] 24 (0, 0)) (by (with_reducible repeat (first | refine blk_drewN ?_ _ | refine blk_drew ?_ | refine blk_alloc ?_ _)); exact BK154.out) hb)
            have n4_ := Aside0.mk (blk_below (g := gb166) (o := .cells #[.int .i64 t162, .slice Ao31 t163.length co31] 28 (0, 0)) (by (with_reducible repeat (first | refine blk_drewN ?_ _ | refine blk_drew ?_ | refine blk_alloc ?_ _)); exact BK166.out) hb)
            have n5_ := Aside0.mk (below_step (by repeat (first | (with_reducible first | exact HB.out | apply below_alloc | apply pw_below_drewN | apply below_drew1 | refine below_set ?_ GE154.out | refine below_set ?_ GE166.out) | exact HB.out)) hb)
            clear HO159
            clear HO165
            clear BK154
            clear BK166
            clear HB
            have HO159 := n0_
            have HO165 := n1_
            have HO172 := n2_
            have BK154 := n3_
            have BK166 := n4_
            have HB := n5_
            clear n0_ n1_ n2_ n3_ n4_ n5_
            (try clear hb)
            (try clear hb2)
            (try clear hk)
            (try clear hi)
            (try clear ho0)
            obtain ⟨Ao35, co35, eo35⟩ := Kd.R_slice HO172.out
            (first | subst eo35 | (injection eo35 with f1_ f2_ f3_; have f4_ := f1_.symm; have f5_ := f3_.symm; clear f1_ f2_ f3_; subst f4_; subst f5_))
            refine hK.out _ _ ⟨(blk_cell BK166.out 0).trans rfl, (blk_cell BK166.out 1).trans rfl, (blk_cell BK154.out 0).trans rfl, (blk_cell BK154.out 1).trans rfl⟩ (fun hHeld => ?_)
            clear hK K
            refine norm_ (a' := ?_) ?_ ?_
            rotate_left
            · show Act.put _ (some 44) _ = _
              simp only [Act.put, List.setIfInBounds_toArray, List.set_cons_zero, List.set_cons_succ, i64_w, i32_w]
              rfl
            refine one_ (i := 3) (N := some 45) #[true, true, true, true, false] rfl rfl (by kernel_rfl) (by decide) (fun K hK => ?_)
            refine goes_ Tryd.func12 (by kernel_rfl) rfl #[.agg #[.int .i64 t162, .slice Ao31 t163.length co31], .agg #[.int .i64 t169, .slice Ao35 t170.length co35]] (by rfl) rfl rfl (by (try simp only [List.map_toArray, List.map_cons, List.map_nil]); first | done | rfl | (simp only [List.length_drop, List.length_take]; rfl)) ?_
            with_reducible refine (laws_eqScheme.calls k t162 _ _ t163 t169 _ _ t170 true _ ?side1 ?side2 ?side3 ?side4 A17.out).mono ?_
            (case side1 => repeat (first | exact (Kd.R_reads' HO165.out).2.2 | (with_reducible refine Kd.C_alloc ?_ _) | (with_reducible refine Kd.C_drewN ?_ _) | (with_reducible refine Kd.C_drew ?_)))
            (case side2 => exact (Kd.R_reads' HO165.out).2.1)
            (case side3 => repeat (first | exact (Kd.R_reads' HO172.out).2.2 | (with_reducible refine Kd.C_alloc ?_ _) | (with_reducible refine Kd.C_drewN ?_ _) | (with_reducible refine Kd.C_drew ?_)))
            (case side4 => exact (Kd.R_reads' HO172.out).2.1)
            rintro e w36 ⟨rfl, hb⟩
            refine ⟨_, rfl, ?_⟩
            have n0_ := Aside0.mk (Kd.R_below (by (with_reducible repeat (first | apply Kd.R_alloc | apply Kd.R_drewN | apply Kd.R_drew)); exact HO159.out) hb)
            have n1_ := Aside0.mk (Kd.R_below (by (with_reducible repeat (first | apply Kd.R_alloc | apply Kd.R_drewN | apply Kd.R_drew)); exact HO165.out) hb)
            have n2_ := Aside0.mk (Kd.R_below (by (with_reducible repeat (first | apply Kd.R_alloc | apply Kd.R_drewN | apply Kd.R_drew)); exact HO172.out) hb)
            have n3_ := Aside0.mk (blk_below (g := gb154) (o := .cells #[.int .i64 a0_0, .slice A0_1 l0_1.length c0_1] 24 (0, 0)) (by (with_reducible repeat (first | refine blk_drewN ?_ _ | refine blk_drew ?_ | refine blk_alloc ?_ _)); exact BK154.out) hb)
            have n4_ := Aside0.mk (blk_below (g := gb166) (o := .cells #[.int .i64 t162, .slice Ao31 t163.length co31] 28 (0, 0)) (by (with_reducible repeat (first | refine blk_drewN ?_ _ | refine blk_drew ?_ | refine blk_alloc ?_ _)); exact BK166.out) hb)
            have n5_ := Aside0.mk (below_step (by repeat (first | (with_reducible first | exact HB.out | apply below_alloc | apply pw_below_drewN | apply below_drew1 | refine below_set ?_ GE154.out | refine below_set ?_ GE166.out) | exact HB.out)) hb)
            clear HO159
            clear HO165
            clear HO172
            clear BK154
            clear BK166
            clear HB
            have HO159 := n0_
            have HO165 := n1_
            have HO172 := n2_
            have BK154 := n3_
            have BK166 := n4_
            have HB := n5_
            clear n0_ n1_ n2_ n3_ n4_ n5_
            (try clear hb)
            (try clear hb2)
            (try clear hk)
            (try clear hi)
            refine hK.out _ _ ⟨(blk_cell BK166.out 0).trans rfl, (blk_cell BK166.out 1).trans rfl, (blk_cell BK154.out 0).trans rfl, (blk_cell BK154.out 1).trans rfl⟩ (fun hHeld => ?_)
            clear hK K
            refine norm_ (a' := ?_) ?_ ?_
            rotate_left
            · show Act.put _ (some 45) _ = _
              simp only [Act.put, List.setIfInBounds_toArray, List.set_cons_zero, List.set_cons_succ, i64_w, i32_w]
              rfl
            refine pure_ (i := 4) (N := some 46) (v := ?_) (a' := ?_) #[true, true, true, true, true] rfl rfl (by kernel_rfl) (fun _ _ _ h => h) (Or.inl ⟨by rfl, ?_⟩) ?_ ?_
            rotate_left
            · intro w'
              go_simp
              with_reducible rfl
            rotate_left
            · simp only [Act.put, List.setIfInBounds_toArray, List.set_cons_zero, List.set_cons_succ, i64_w, i32_w]
              rfl
            refine done_ (by kernel_rfl) ?_
            try go_wp2
            go_ret
            exact ⟨by first | rfl | (simp [errW_none, errW_some] <;> rfl) | (simp [*, errW_none, errW_some] <;> rfl), by repeat (first | (with_reducible first | exact HB.out | apply below_alloc | apply pw_below_drewN | apply below_drew1 | refine below_set ?_ GE154.out | refine below_set ?_ GE166.out) | exact HB.out)⟩
          · replace c18 := Bool.eq_false_iff.mpr c18
            subst c18
            have H1 : (none) = some r := by rw [if_neg (show ¬ (false = true) by decide)] at H; exact H
            clear H
            have H := H1
            clear H1
            exact absurd H (by simp)
      · rw [if_neg c14] at H
        exact absurd H (by simp)

end Go.Proofs.YtepkhpnoibillaaDoor.PA
