-- printed by xprint.py: the kit's print.py with given contracts
import Derived.Test.YtbgkaabbpdhhlaaGreatDoorPAx0
import Derived.Test.YtbgkaabbpdhhlaaGreatDoorPAx3
import Derived.Test.YtbgkaabbpdhhlaaGreatDoorPAx4
import Derived.Test.YtbgkaabbpdhhlaaGreatDoorPAx5
namespace Go.Proofs.YtbgkaabbpdhhlaaGreatDoor.PA
open Go.RowKit Go.Proofs.YtbgkaabbpdhhlaaGreatDoorW.PrintWords Go.Proofs.YtbgkaabbpdhhlaaGreatDoorW.PrintLast Go.Proofs.YtbgkaabbpdhhlaaGreatDoorW.PrintMore
attribute [local go_sem] max2_int min2_int max_two min_two max_three min_three max_four min_four   -- for this text's walks alone
set_option linter.unusedVariables false
set_option linter.unusedSimpArgs false

/-! ### impl_isWalk: function 89 -/
def impl_isWalk.l0 : Nat → ByteArray → List (List Int) → Int → Option (Bool)
 | 0, _, _, _ => none
 | k + 1, x1, x5, x6 => if x6 < (x1.size : Int) then (if 0 ≤ (wrap64 (x6 - 1)) then (if (wrap64 (x6 - 1)) < (x1.size : Int) then ((impl_digit.f (bt x1 (wrap64 (x6 - 1)))).bind fun t277 => (if 0 ≤ t277 then (if t277 < (x5.length : Int) then (if 0 ≤ x6 then ((impl_digit.f (bt x1 x6)).bind fun t279 => ((slices_Contains_int_int.f k (rd_L8 x5 t277) t279).bind fun t280 => (if t280 = true then (impl_isWalk.l0 k x1 x5 (wrap64 (x6 + 1))) else (some false)))) else (none)) else (none)) else (none))) else (none)) else (none)) else (some true)
def impl_isWalk.f (k : Nat) (a0 : ByteArray) (a1 : ByteArray) : Option (Bool) := (impl_isDigits.f a1 1 40).bind fun t273 => (if t273 = true then ((impl_moves.f k a0).bind fun t274 => (impl_isWalk.l0 k a1 t274 1)) else (some false))
theorem impl_isWalk.mono_l : ∀ k, (∀ y0 y1 y2, LeO (impl_isWalk.l0 k y0 y1 y2) (impl_isWalk.l0 (k + 1) y0 y1 y2))
 | 0 => fun _ _ _ r h => by simp [impl_isWalk.l0] at h
 | k + 1 => by
  have ih0 := impl_isWalk.mono_l k
  ·
   intro y0 y1 y2
   unfold impl_isWalk.l0
   repeat' first
   | (with_reducible exact ih0 _ _ _)
   | (with_reducible exact impl_moves.mono _ _)
   | (with_reducible exact slices_Contains_int_int.mono _ _ _)
   | (with_reducible exact LeO.refl _)
   | (with_reducible exact LeO.none _)
   | (with_reducible refine LeO.ite ?_ ?_)
   | (with_reducible refine LeO.bind ?_ (fun _ => ?_))
   | exact ih0 _ _ _
   | exact impl_moves.mono _ _
   | exact slices_Contains_int_int.mono _ _ _
   | exact LeO.none _
   | refine LeO.ite ?_ ?_
   | refine LeO.bind ?_ (fun _ => ?_)
theorem impl_isWalk.mono : ∀ a0 a1 k, LeO (impl_isWalk.f k a0 a1) (impl_isWalk.f (k + 1) a0 a1) := by
 intro a0 a1 k
 have ih0 := impl_isWalk.mono_l k
 unfold impl_isWalk.f
 repeat' first
   | (with_reducible exact ih0 _ _ _)
   | (with_reducible exact impl_moves.mono _ _)
   | (with_reducible exact slices_Contains_int_int.mono _ _ _)
   | (with_reducible exact LeO.refl _)
   | (with_reducible exact LeO.none _)
   | (with_reducible refine LeO.ite ?_ ?_)
   | (with_reducible refine LeO.bind ?_ (fun _ => ?_))
   | exact ih0 _ _ _
   | exact impl_moves.mono _ _
   | exact slices_Contains_int_int.mono _ _ _
   | exact LeO.none _
   | refine LeO.ite ?_ ?_
   | refine LeO.bind ?_ (fun _ => ?_)
set_option maxHeartbeats 8000000 in
set_option maxRecDepth 100000 in
theorem impl_isWalk.calls (k : Nat) (a0 : ByteArray) (a1 : ByteArray) (r : Bool) (w : World) (h : impl_isWalk.f k a0 a1 = some r) :
  Calls Tryz.prog 89 #[.string a0, .string a1] w fun e w' => e = .returned (.bool r) ∧ Below w.heap.size w w' := by
 have HB := Aside0.mk (Below.refl w.heap.size w)
 have H : ((impl_isDigits.f a1 1 40).bind fun t273 => (if t273 = true then ((impl_moves.f k a0).bind fun t274 => (impl_isWalk.l0 k a1 t274 1)) else (some false))) = some r := h
 clear h
 replace H := Option.bind_eq_some_iff.mp H
 obtain ⟨t273, A30, H⟩ := H
 replace H : (if t273 = true then ((impl_moves.f k a0).bind fun t274 => (impl_isWalk.l0 k a1 t274 1)) else (some false)) = some r := H
 have A3 := Aside0.mk A30
 clear A30
 by_cases c4 : t273 = true
 ·
  subst c4
  have H1 : ((impl_moves.f k a0).bind fun t274 => (impl_isWalk.l0 k a1 t274 1)) = some r := by rw [if_pos rfl] at H; exact H
  clear H
  have H := H1
  clear H1
  replace H := Option.bind_eq_some_iff.mp H
  obtain ⟨t274, A50, H⟩ := H
  replace H : (impl_isWalk.l0 k a1 t274 1) = some r := H
  have A5 := Aside0.mk A50
  clear A50
  have H' := Aside0.mk H
  clear H
  go_enter Tryz.func89, Tryz.ntmps89
  go_wp2_with (first | (go_at_call 102; (with_reducible refine (impl_isDigits.calls a1 1 40 true _ A3.out).mono ?_); rintro e w6 ⟨rfl, hb⟩; have n0_ := Aside0.mk (below_step (qw HB) hb); clear HB; have HB := n0_; clear n0_; (try clear hb); (try clear hb2); (try clear hk); (try clear hi)) | (go_at_call 103; (with_reducible refine (impl_moves.calls k a0 t274 _ A5.out).mono ?_); rintro e w7 ⟨v275, rfl, ho0, hb⟩; have n0_ := Aside0.mk (Kd.S_lower ho0 (below_size (qw HB))); have n1_ := Aside0.mk (below_step (qw HB) hb); clear HB; have HO276 := n0_; have HB := n1_; clear n0_ n1_; (try clear hb); (try clear hb2); (try clear hk); (try clear hi); (try clear ho0)))
  repeat (go_quiet (first | (go_at_call 102; (with_reducible refine (impl_isDigits.calls a1 1 40 true _ A3.out).mono ?_); rintro e w6 ⟨rfl, hb⟩; have n0_ := Aside0.mk (below_step (qw HB) hb); clear HB; have HB := n0_; clear n0_; (try clear hb); (try clear hb2); (try clear hk); (try clear hi)) | (go_at_call 103; (with_reducible refine (impl_moves.calls k a0 t274 _ A5.out).mono ?_); rintro e w7 ⟨v275, rfl, ho0, hb⟩; have n0_ := Aside0.mk (Kd.S_lower ho0 (below_size (qw HB))); have n1_ := Aside0.mk (below_step (qw HB) hb); clear HB; have HO276 := n0_; have HB := n1_; clear n0_ n1_; (try clear hb); (try clear hb2); (try clear hk); (try clear hi); (try clear ho0))); try go_wp2_with (first | (go_at_call 102; (with_reducible refine (impl_isDigits.calls a1 1 40 true _ A3.out).mono ?_); rintro e w6 ⟨rfl, hb⟩; have n0_ := Aside0.mk (below_step (qw HB) hb); clear HB; have HB := n0_; clear n0_; (try clear hb); (try clear hb2); (try clear hk); (try clear hi)) | (go_at_call 103; (with_reducible refine (impl_moves.calls k a0 t274 _ A5.out).mono ?_); rintro e w7 ⟨v275, rfl, ho0, hb⟩; have n0_ := Aside0.mk (Kd.S_lower ho0 (below_size (qw HB))); have n1_ := Aside0.mk (below_step (qw HB) hb); clear HB; have HO276 := n0_; have HB := n1_; clear n0_ n1_; (try clear hb); (try clear hb2); (try clear hk); (try clear hi); (try clear ho0))))
  go_loopg [6] k (fun kq v6 w' => ∃ (x6_1 : Int), v6 = .int .i64 x6_1 ∧ Aside0 (impl_isWalk.l0 kq a1 t274 x6_1 = some r) ∧ Aside0 (kq ≤ k) ∧ Aside0 (Kd.S (Kd.slice 3 (Kd.int .i64)) 38 w' w.heap.size (fun _ => True) v275 t274) ∧ Aside0 (Below w.heap.size w w'))
  case atStart => exact ⟨(1), (by first | rfl | (simp; done) | (simp [*]; done) | (simp [isEmpty_bne]; done) | (simp [i64_w]; done) | (simp only [i64_w]; done)), H', ⟨Nat.le_refl _⟩, ⟨by (with_reducible repeat (first | apply Kd.S_alloc | apply Kd.S_drewN | apply Kd.S_drew)); exact HO276.out⟩, ⟨by repeat (first | (with_reducible first | exact HB.out | apply below_alloc | apply pw_below_drewN | apply below_drew1) | exact HB.out)⟩⟩
  case round =>
   clear H'
   try clear p2
   try clear c4
   obtain ⟨x6_1, rfl, HA, HK1, HO_5, HB⟩ := hrel
   cases gk with
   | zero => exact absurd HA.out (by simp [impl_isWalk.l0])
   | succ k1 =>
    have H := HA.out
    clear HA
    simp only [impl_isWalk.l0] at H
    by_cases c8 : x6_1 < (a1.size : Int)
    ·
     rw [if_pos c8] at H
     have c8b0 : decide (x6_1 < (a1.size : Int)) = true := decide_eq_true c8
     clear c8
     obtain ⟨ji9, hji9⟩ : ∃ j_ : Int, (wrap64 (x6_1 - 1)) = j_ := ⟨_, rfl⟩
     replace H : (if 0 ≤ (ji9) then (if (ji9) < (a1.size : Int) then ((impl_digit.f (bt a1 (ji9))).bind fun t277 => (if 0 ≤ t277 then (if t277 < (t274.length : Int) then (if 0 ≤ x6_1 then ((impl_digit.f (bt a1 x6_1)).bind fun t279 => ((slices_Contains_int_int.f k1 (rd_L8 t274 t277) t279).bind fun t280 => (if t280 = true then (impl_isWalk.l0 k1 a1 t274 (wrap64 (x6_1 + 1))) else (some false)))) else (none)) else (none)) else (none))) else (none)) else (none)) = some r := by first | (rw [hji9] at H; exact H) | (simp only [hji9] at H ⊢; exact H)
     have hji9w : (IntKind.i64.wrap (x6_1 - 1)) = ji9 := (i64_w _).trans hji9
     by_cases c10 : 0 ≤ (ji9)
     ·
      rw [if_pos c10] at H
      have c10b0 : decide (0 ≤ (ji9)) = true := decide_eq_true c10
      clear c10
      by_cases c11 : (ji9) < (a1.size : Int)
      ·
       rw [if_pos c11] at H
       have c11b0 : decide ((ji9) < (a1.size : Int)) = true := decide_eq_true c11
       clear c11
       replace H := Option.bind_eq_some_iff.mp H
       obtain ⟨t277, A130, H⟩ := H
       replace H : (if 0 ≤ t277 then (if t277 < (t274.length : Int) then (if 0 ≤ x6_1 then ((impl_digit.f (bt a1 x6_1)).bind fun t279 => ((slices_Contains_int_int.f k1 (rd_L8 t274 t277) t279).bind fun t280 => (if t280 = true then (impl_isWalk.l0 k1 a1 t274 (wrap64 (x6_1 + 1))) else (some false)))) else (none)) else (none)) else (none)) = some r := H
       have A13 := Aside0.mk A130
       clear A130
       by_cases c14 : 0 ≤ t277
       ·
        rw [if_pos c14] at H
        have c14b0 : decide (0 ≤ t277) = true := decide_eq_true c14
        clear c14
        by_cases c15 : t277 < (t274.length : Int)
        ·
         rw [if_pos c15] at H
         have c15b0 : decide (t277 < (t274.length : Int)) = true := decide_eq_true c15
         clear c15
         by_cases c16 : 0 ≤ x6_1
         ·
          rw [if_pos c16] at H
          have c16b0 : decide (0 ≤ x6_1) = true := decide_eq_true c16
          clear c16
          replace H := Option.bind_eq_some_iff.mp H
          obtain ⟨t279, A180, H⟩ := H
          replace H : ((slices_Contains_int_int.f k1 (rd_L8 t274 t277) t279).bind fun t280 => (if t280 = true then (impl_isWalk.l0 k1 a1 t274 (wrap64 (x6_1 + 1))) else (some false))) = some r := H
          have A18 := Aside0.mk A180
          clear A180
          replace H := Option.bind_eq_some_iff.mp H
          obtain ⟨t280, A190, H⟩ := H
          replace H : (if t280 = true then (impl_isWalk.l0 k1 a1 t274 (wrap64 (x6_1 + 1))) else (some false)) = some r := H
          have A19 := Aside0.mk A190
          clear A190
          by_cases c20 : t280 = true
          ·
           subst c20
           have H1 : (impl_isWalk.l0 k1 a1 t274 (wrap64 (x6_1 + 1))) = some r := by rw [if_pos rfl] at H; exact H
           clear H
           have H := H1
           clear H1
           have H' := Aside0.mk H
           clear H
           have p12 : 0 ≤ ((ji9) : Int) := of_decide_eq_true (by first | (with_reducible assumption) | assumption)
           have q12 : (ji9) < (a1.size : Int) := of_decide_eq_true (by first | (with_reducible assumption) | assumption)
           have hx12 := bt_at a1 (ji9)
           replace p12 := eq_true p12
           replace q12 := eq_true q12
           go_wp2_with (first | (go_at_call 86; (with_reducible refine (impl_digit.calls (bt a1 (ji9)) t277 _ A13.out).mono ?_); rintro e w' ⟨rfl, ⟨nd, rfl⟩⟩; (try first | exact ⟨rfl, _, World.drewN_drewN _ _ _⟩ | exact ⟨rfl, _, Eq.trans (World.drewN_drewN _ _ _) (congrArg (World.drewN _) (Nat.add_assoc _ _ _))⟩); obtain ⟨Ao21, co21, eo21⟩ := Kd.S_slice HO_5.out; subst eo21; have p278 : 0 ≤ (t277 : Int) := of_decide_eq_true (by first | (with_reducible assumption) | assumption); have q278 : t277 < (t274.length : Int) := of_decide_eq_true (by first | (with_reducible assumption) | assumption); obtain ⟨ad278, A278_0, c278_0, e278, hx278_0, hl278_0, hi278_0⟩ := at_L8 (Kd.S_reads' HO_5.out).2.2 t277 p278 q278; cases e278; obtain ⟨ce278, hce278, hMe278, hcc278⟩ := Kd.S_get HO_5.out [] t277 p278 (by first | exact q278 | exact of_decide_eq_true (by first | (with_reducible assumption) | assumption) | (have e_ := (Kd.S_reads' HO_5.out).1; omega)); obtain ⟨ve278_0, rfl, ge278_0⟩ := hMe278; have hv278_0 := hcc278 0 _ rfl; rw [Nat.add_zero, show ((Kd.slice 3 (Kd.int .i64))).sz = 1 from rfl, Nat.mul_one] at hv278_0; replace hv278_0 := Option.some.inj (hv278_0.symm.trans hx278_0); rw [hv278_0] at ge278_0; have HL278_0 := Aside0.mk (show Kd.R (Kd.int .i64) 3 _ _ _ _ (rd_L8 t274 t277) from ge278_0); clear hv278_0 ge278_0; clear hcc278 hce278; have HR278_0 := Aside0.mk hi278_0; have HC278_0 := Aside0.mk hl278_0; clear hi278_0 hl278_0; replace p278 := eq_true p278; replace q278 := eq_true q278; have p17 : 0 ≤ (x6_1 : Int) := of_decide_eq_true (by first | (with_reducible assumption) | assumption); have q17 : x6_1 < (a1.size : Int) := of_decide_eq_true (by first | (with_reducible assumption) | assumption); have hx17 := bt_at a1 x6_1; replace p17 := eq_true p17; replace q17 := eq_true q17) | (go_at_call 86; (with_reducible refine (impl_digit.calls (bt a1 x6_1) t279 _ A18.out).mono ?_); rintro e w' ⟨rfl, ⟨nd, rfl⟩⟩; (try first | exact ⟨rfl, _, World.drewN_drewN _ _ _⟩ | exact ⟨rfl, _, Eq.trans (World.drewN_drewN _ _ _) (congrArg (World.drewN _) (Nat.add_assoc _ _ _))⟩)) | (go_at_call 104; (with_reducible refine (slices_Contains_int_int.calls k1 _ _ (rd_L8 t274 t277) t279 true _ ?side1 ?side2 A19.out).mono ?_); (case side1 => repeat (first | exact (by repeat (first | (with_reducible exact HR278_0.out) | (with_reducible refine Kd.C_alloc ?_ _) | (with_reducible refine Kd.C_drewN ?_ _) | (with_reducible refine Kd.C_drew ?_) | exact HR278_0.out)) | (with_reducible refine Kd.C_alloc ?_ _) | (with_reducible refine Kd.C_drewN ?_ _) | (with_reducible refine Kd.C_drew ?_))); (case side2 => exact HC278_0.out); rintro e w' ⟨rfl, ⟨nd, rfl⟩⟩; (try first | exact ⟨rfl, _, World.drewN_drewN _ _ _⟩ | exact ⟨rfl, _, Eq.trans (World.drewN_drewN _ _ _) (congrArg (World.drewN _) (Nat.add_assoc _ _ _))⟩)))
           repeat (go_quiet (first | (go_at_call 86; (with_reducible refine (impl_digit.calls (bt a1 (ji9)) t277 _ A13.out).mono ?_); rintro e w' ⟨rfl, ⟨nd, rfl⟩⟩; (try first | exact ⟨rfl, _, World.drewN_drewN _ _ _⟩ | exact ⟨rfl, _, Eq.trans (World.drewN_drewN _ _ _) (congrArg (World.drewN _) (Nat.add_assoc _ _ _))⟩); obtain ⟨Ao21, co21, eo21⟩ := Kd.S_slice HO_5.out; subst eo21; have p278 : 0 ≤ (t277 : Int) := of_decide_eq_true (by first | (with_reducible assumption) | assumption); have q278 : t277 < (t274.length : Int) := of_decide_eq_true (by first | (with_reducible assumption) | assumption); obtain ⟨ad278, A278_0, c278_0, e278, hx278_0, hl278_0, hi278_0⟩ := at_L8 (Kd.S_reads' HO_5.out).2.2 t277 p278 q278; cases e278; obtain ⟨ce278, hce278, hMe278, hcc278⟩ := Kd.S_get HO_5.out [] t277 p278 (by first | exact q278 | exact of_decide_eq_true (by first | (with_reducible assumption) | assumption) | (have e_ := (Kd.S_reads' HO_5.out).1; omega)); obtain ⟨ve278_0, rfl, ge278_0⟩ := hMe278; have hv278_0 := hcc278 0 _ rfl; rw [Nat.add_zero, show ((Kd.slice 3 (Kd.int .i64))).sz = 1 from rfl, Nat.mul_one] at hv278_0; replace hv278_0 := Option.some.inj (hv278_0.symm.trans hx278_0); rw [hv278_0] at ge278_0; have HL278_0 := Aside0.mk (show Kd.R (Kd.int .i64) 3 _ _ _ _ (rd_L8 t274 t277) from ge278_0); clear hv278_0 ge278_0; clear hcc278 hce278; have HR278_0 := Aside0.mk hi278_0; have HC278_0 := Aside0.mk hl278_0; clear hi278_0 hl278_0; replace p278 := eq_true p278; replace q278 := eq_true q278; have p17 : 0 ≤ (x6_1 : Int) := of_decide_eq_true (by first | (with_reducible assumption) | assumption); have q17 : x6_1 < (a1.size : Int) := of_decide_eq_true (by first | (with_reducible assumption) | assumption); have hx17 := bt_at a1 x6_1; replace p17 := eq_true p17; replace q17 := eq_true q17) | (go_at_call 86; (with_reducible refine (impl_digit.calls (bt a1 x6_1) t279 _ A18.out).mono ?_); rintro e w' ⟨rfl, ⟨nd, rfl⟩⟩; (try first | exact ⟨rfl, _, World.drewN_drewN _ _ _⟩ | exact ⟨rfl, _, Eq.trans (World.drewN_drewN _ _ _) (congrArg (World.drewN _) (Nat.add_assoc _ _ _))⟩)) | (go_at_call 104; (with_reducible refine (slices_Contains_int_int.calls k1 _ _ (rd_L8 t274 t277) t279 true _ ?side1 ?side2 A19.out).mono ?_); (case side1 => repeat (first | exact (by repeat (first | (with_reducible exact HR278_0.out) | (with_reducible refine Kd.C_alloc ?_ _) | (with_reducible refine Kd.C_drewN ?_ _) | (with_reducible refine Kd.C_drew ?_) | exact HR278_0.out)) | (with_reducible refine Kd.C_alloc ?_ _) | (with_reducible refine Kd.C_drewN ?_ _) | (with_reducible refine Kd.C_drew ?_))); (case side2 => exact HC278_0.out); rintro e w' ⟨rfl, ⟨nd, rfl⟩⟩; (try first | exact ⟨rfl, _, World.drewN_drewN _ _ _⟩ | exact ⟨rfl, _, Eq.trans (World.drewN_drewN _ _ _) (congrArg (World.drewN _) (Nat.add_assoc _ _ _))⟩))); try go_wp2_with (first | (go_at_call 86; (with_reducible refine (impl_digit.calls (bt a1 (ji9)) t277 _ A13.out).mono ?_); rintro e w' ⟨rfl, ⟨nd, rfl⟩⟩; (try first | exact ⟨rfl, _, World.drewN_drewN _ _ _⟩ | exact ⟨rfl, _, Eq.trans (World.drewN_drewN _ _ _) (congrArg (World.drewN _) (Nat.add_assoc _ _ _))⟩); obtain ⟨Ao21, co21, eo21⟩ := Kd.S_slice HO_5.out; subst eo21; have p278 : 0 ≤ (t277 : Int) := of_decide_eq_true (by first | (with_reducible assumption) | assumption); have q278 : t277 < (t274.length : Int) := of_decide_eq_true (by first | (with_reducible assumption) | assumption); obtain ⟨ad278, A278_0, c278_0, e278, hx278_0, hl278_0, hi278_0⟩ := at_L8 (Kd.S_reads' HO_5.out).2.2 t277 p278 q278; cases e278; obtain ⟨ce278, hce278, hMe278, hcc278⟩ := Kd.S_get HO_5.out [] t277 p278 (by first | exact q278 | exact of_decide_eq_true (by first | (with_reducible assumption) | assumption) | (have e_ := (Kd.S_reads' HO_5.out).1; omega)); obtain ⟨ve278_0, rfl, ge278_0⟩ := hMe278; have hv278_0 := hcc278 0 _ rfl; rw [Nat.add_zero, show ((Kd.slice 3 (Kd.int .i64))).sz = 1 from rfl, Nat.mul_one] at hv278_0; replace hv278_0 := Option.some.inj (hv278_0.symm.trans hx278_0); rw [hv278_0] at ge278_0; have HL278_0 := Aside0.mk (show Kd.R (Kd.int .i64) 3 _ _ _ _ (rd_L8 t274 t277) from ge278_0); clear hv278_0 ge278_0; clear hcc278 hce278; have HR278_0 := Aside0.mk hi278_0; have HC278_0 := Aside0.mk hl278_0; clear hi278_0 hl278_0; replace p278 := eq_true p278; replace q278 := eq_true q278; have p17 : 0 ≤ (x6_1 : Int) := of_decide_eq_true (by first | (with_reducible assumption) | assumption); have q17 : x6_1 < (a1.size : Int) := of_decide_eq_true (by first | (with_reducible assumption) | assumption); have hx17 := bt_at a1 x6_1; replace p17 := eq_true p17; replace q17 := eq_true q17) | (go_at_call 86; (with_reducible refine (impl_digit.calls (bt a1 x6_1) t279 _ A18.out).mono ?_); rintro e w' ⟨rfl, ⟨nd, rfl⟩⟩; (try first | exact ⟨rfl, _, World.drewN_drewN _ _ _⟩ | exact ⟨rfl, _, Eq.trans (World.drewN_drewN _ _ _) (congrArg (World.drewN _) (Nat.add_assoc _ _ _))⟩)) | (go_at_call 104; (with_reducible refine (slices_Contains_int_int.calls k1 _ _ (rd_L8 t274 t277) t279 true _ ?side1 ?side2 A19.out).mono ?_); (case side1 => repeat (first | exact (by repeat (first | (with_reducible exact HR278_0.out) | (with_reducible refine Kd.C_alloc ?_ _) | (with_reducible refine Kd.C_drewN ?_ _) | (with_reducible refine Kd.C_drew ?_) | exact HR278_0.out)) | (with_reducible refine Kd.C_alloc ?_ _) | (with_reducible refine Kd.C_drewN ?_ _) | (with_reducible refine Kd.C_drew ?_))); (case side2 => exact HC278_0.out); rintro e w' ⟨rfl, ⟨nd, rfl⟩⟩; (try first | exact ⟨rfl, _, World.drewN_drewN _ _ _⟩ | exact ⟨rfl, _, Eq.trans (World.drewN_drewN _ _ _) (congrArg (World.drewN _) (Nat.add_assoc _ _ _))⟩))))
           go_roundg k1
           case measure => have := HK1.out; omega
           case rel => exact ⟨(wrap64 (x6_1 + 1)), (by first | rfl | (simp; done) | (simp [*]; done) | (simp [isEmpty_bne]; done) | (simp [i64_w]; done) | (simp only [i64_w]; done)), H', ⟨by have := HK1.out; omega⟩, ⟨by (with_reducible repeat (first | apply Kd.S_alloc | apply Kd.S_drewN | apply Kd.S_drew)); exact HO_5.out⟩, ⟨by repeat (first | (with_reducible first | exact HB.out | apply below_alloc | apply pw_below_drewN | apply below_drew1) | exact HB.out)⟩⟩
          ·
           replace c20 := Bool.eq_false_iff.mpr c20
           subst c20
           have H1 : (some false) = some r := by rw [if_neg (show ¬ (false = true) by decide)] at H; exact H
           clear H
           have H := H1
           clear H1
           obtain rfl := Option.some.inj H
           have p12 : 0 ≤ ((ji9) : Int) := of_decide_eq_true (by first | (with_reducible assumption) | assumption)
           have q12 : (ji9) < (a1.size : Int) := of_decide_eq_true (by first | (with_reducible assumption) | assumption)
           have hx12 := bt_at a1 (ji9)
           replace p12 := eq_true p12
           replace q12 := eq_true q12
           go_wp2_with (first | (go_at_call 86; (with_reducible refine (impl_digit.calls (bt a1 (ji9)) t277 _ A13.out).mono ?_); rintro e w' ⟨rfl, ⟨nd, rfl⟩⟩; (try first | exact ⟨rfl, _, World.drewN_drewN _ _ _⟩ | exact ⟨rfl, _, Eq.trans (World.drewN_drewN _ _ _) (congrArg (World.drewN _) (Nat.add_assoc _ _ _))⟩); obtain ⟨Ao22, co22, eo22⟩ := Kd.S_slice HO_5.out; subst eo22; have p278 : 0 ≤ (t277 : Int) := of_decide_eq_true (by first | (with_reducible assumption) | assumption); have q278 : t277 < (t274.length : Int) := of_decide_eq_true (by first | (with_reducible assumption) | assumption); obtain ⟨ad278, A278_0, c278_0, e278, hx278_0, hl278_0, hi278_0⟩ := at_L8 (Kd.S_reads' HO_5.out).2.2 t277 p278 q278; cases e278; obtain ⟨ce278, hce278, hMe278, hcc278⟩ := Kd.S_get HO_5.out [] t277 p278 (by first | exact q278 | exact of_decide_eq_true (by first | (with_reducible assumption) | assumption) | (have e_ := (Kd.S_reads' HO_5.out).1; omega)); obtain ⟨ve278_0, rfl, ge278_0⟩ := hMe278; have hv278_0 := hcc278 0 _ rfl; rw [Nat.add_zero, show ((Kd.slice 3 (Kd.int .i64))).sz = 1 from rfl, Nat.mul_one] at hv278_0; replace hv278_0 := Option.some.inj (hv278_0.symm.trans hx278_0); rw [hv278_0] at ge278_0; have HL278_0 := Aside0.mk (show Kd.R (Kd.int .i64) 3 _ _ _ _ (rd_L8 t274 t277) from ge278_0); clear hv278_0 ge278_0; clear hcc278 hce278; have HR278_0 := Aside0.mk hi278_0; have HC278_0 := Aside0.mk hl278_0; clear hi278_0 hl278_0; replace p278 := eq_true p278; replace q278 := eq_true q278; have p17 : 0 ≤ (x6_1 : Int) := of_decide_eq_true (by first | (with_reducible assumption) | assumption); have q17 : x6_1 < (a1.size : Int) := of_decide_eq_true (by first | (with_reducible assumption) | assumption); have hx17 := bt_at a1 x6_1; replace p17 := eq_true p17; replace q17 := eq_true q17) | (go_at_call 86; (with_reducible refine (impl_digit.calls (bt a1 x6_1) t279 _ A18.out).mono ?_); rintro e w' ⟨rfl, ⟨nd, rfl⟩⟩; (try first | exact ⟨rfl, _, World.drewN_drewN _ _ _⟩ | exact ⟨rfl, _, Eq.trans (World.drewN_drewN _ _ _) (congrArg (World.drewN _) (Nat.add_assoc _ _ _))⟩)) | (go_at_call 104; (with_reducible refine (slices_Contains_int_int.calls k1 _ _ (rd_L8 t274 t277) t279 false _ ?side1 ?side2 A19.out).mono ?_); (case side1 => repeat (first | exact (by repeat (first | (with_reducible exact HR278_0.out) | (with_reducible refine Kd.C_alloc ?_ _) | (with_reducible refine Kd.C_drewN ?_ _) | (with_reducible refine Kd.C_drew ?_) | exact HR278_0.out)) | (with_reducible refine Kd.C_alloc ?_ _) | (with_reducible refine Kd.C_drewN ?_ _) | (with_reducible refine Kd.C_drew ?_))); (case side2 => exact HC278_0.out); rintro e w' ⟨rfl, ⟨nd, rfl⟩⟩; (try first | exact ⟨rfl, _, World.drewN_drewN _ _ _⟩ | exact ⟨rfl, _, Eq.trans (World.drewN_drewN _ _ _) (congrArg (World.drewN _) (Nat.add_assoc _ _ _))⟩)))
           repeat (go_quiet (first | (go_at_call 86; (with_reducible refine (impl_digit.calls (bt a1 (ji9)) t277 _ A13.out).mono ?_); rintro e w' ⟨rfl, ⟨nd, rfl⟩⟩; (try first | exact ⟨rfl, _, World.drewN_drewN _ _ _⟩ | exact ⟨rfl, _, Eq.trans (World.drewN_drewN _ _ _) (congrArg (World.drewN _) (Nat.add_assoc _ _ _))⟩); obtain ⟨Ao22, co22, eo22⟩ := Kd.S_slice HO_5.out; subst eo22; have p278 : 0 ≤ (t277 : Int) := of_decide_eq_true (by first | (with_reducible assumption) | assumption); have q278 : t277 < (t274.length : Int) := of_decide_eq_true (by first | (with_reducible assumption) | assumption); obtain ⟨ad278, A278_0, c278_0, e278, hx278_0, hl278_0, hi278_0⟩ := at_L8 (Kd.S_reads' HO_5.out).2.2 t277 p278 q278; cases e278; obtain ⟨ce278, hce278, hMe278, hcc278⟩ := Kd.S_get HO_5.out [] t277 p278 (by first | exact q278 | exact of_decide_eq_true (by first | (with_reducible assumption) | assumption) | (have e_ := (Kd.S_reads' HO_5.out).1; omega)); obtain ⟨ve278_0, rfl, ge278_0⟩ := hMe278; have hv278_0 := hcc278 0 _ rfl; rw [Nat.add_zero, show ((Kd.slice 3 (Kd.int .i64))).sz = 1 from rfl, Nat.mul_one] at hv278_0; replace hv278_0 := Option.some.inj (hv278_0.symm.trans hx278_0); rw [hv278_0] at ge278_0; have HL278_0 := Aside0.mk (show Kd.R (Kd.int .i64) 3 _ _ _ _ (rd_L8 t274 t277) from ge278_0); clear hv278_0 ge278_0; clear hcc278 hce278; have HR278_0 := Aside0.mk hi278_0; have HC278_0 := Aside0.mk hl278_0; clear hi278_0 hl278_0; replace p278 := eq_true p278; replace q278 := eq_true q278; have p17 : 0 ≤ (x6_1 : Int) := of_decide_eq_true (by first | (with_reducible assumption) | assumption); have q17 : x6_1 < (a1.size : Int) := of_decide_eq_true (by first | (with_reducible assumption) | assumption); have hx17 := bt_at a1 x6_1; replace p17 := eq_true p17; replace q17 := eq_true q17) | (go_at_call 86; (with_reducible refine (impl_digit.calls (bt a1 x6_1) t279 _ A18.out).mono ?_); rintro e w' ⟨rfl, ⟨nd, rfl⟩⟩; (try first | exact ⟨rfl, _, World.drewN_drewN _ _ _⟩ | exact ⟨rfl, _, Eq.trans (World.drewN_drewN _ _ _) (congrArg (World.drewN _) (Nat.add_assoc _ _ _))⟩)) | (go_at_call 104; (with_reducible refine (slices_Contains_int_int.calls k1 _ _ (rd_L8 t274 t277) t279 false _ ?side1 ?side2 A19.out).mono ?_); (case side1 => repeat (first | exact (by repeat (first | (with_reducible exact HR278_0.out) | (with_reducible refine Kd.C_alloc ?_ _) | (with_reducible refine Kd.C_drewN ?_ _) | (with_reducible refine Kd.C_drew ?_) | exact HR278_0.out)) | (with_reducible refine Kd.C_alloc ?_ _) | (with_reducible refine Kd.C_drewN ?_ _) | (with_reducible refine Kd.C_drew ?_))); (case side2 => exact HC278_0.out); rintro e w' ⟨rfl, ⟨nd, rfl⟩⟩; (try first | exact ⟨rfl, _, World.drewN_drewN _ _ _⟩ | exact ⟨rfl, _, Eq.trans (World.drewN_drewN _ _ _) (congrArg (World.drewN _) (Nat.add_assoc _ _ _))⟩))); try go_wp2_with (first | (go_at_call 86; (with_reducible refine (impl_digit.calls (bt a1 (ji9)) t277 _ A13.out).mono ?_); rintro e w' ⟨rfl, ⟨nd, rfl⟩⟩; (try first | exact ⟨rfl, _, World.drewN_drewN _ _ _⟩ | exact ⟨rfl, _, Eq.trans (World.drewN_drewN _ _ _) (congrArg (World.drewN _) (Nat.add_assoc _ _ _))⟩); obtain ⟨Ao22, co22, eo22⟩ := Kd.S_slice HO_5.out; subst eo22; have p278 : 0 ≤ (t277 : Int) := of_decide_eq_true (by first | (with_reducible assumption) | assumption); have q278 : t277 < (t274.length : Int) := of_decide_eq_true (by first | (with_reducible assumption) | assumption); obtain ⟨ad278, A278_0, c278_0, e278, hx278_0, hl278_0, hi278_0⟩ := at_L8 (Kd.S_reads' HO_5.out).2.2 t277 p278 q278; cases e278; obtain ⟨ce278, hce278, hMe278, hcc278⟩ := Kd.S_get HO_5.out [] t277 p278 (by first | exact q278 | exact of_decide_eq_true (by first | (with_reducible assumption) | assumption) | (have e_ := (Kd.S_reads' HO_5.out).1; omega)); obtain ⟨ve278_0, rfl, ge278_0⟩ := hMe278; have hv278_0 := hcc278 0 _ rfl; rw [Nat.add_zero, show ((Kd.slice 3 (Kd.int .i64))).sz = 1 from rfl, Nat.mul_one] at hv278_0; replace hv278_0 := Option.some.inj (hv278_0.symm.trans hx278_0); rw [hv278_0] at ge278_0; have HL278_0 := Aside0.mk (show Kd.R (Kd.int .i64) 3 _ _ _ _ (rd_L8 t274 t277) from ge278_0); clear hv278_0 ge278_0; clear hcc278 hce278; have HR278_0 := Aside0.mk hi278_0; have HC278_0 := Aside0.mk hl278_0; clear hi278_0 hl278_0; replace p278 := eq_true p278; replace q278 := eq_true q278; have p17 : 0 ≤ (x6_1 : Int) := of_decide_eq_true (by first | (with_reducible assumption) | assumption); have q17 : x6_1 < (a1.size : Int) := of_decide_eq_true (by first | (with_reducible assumption) | assumption); have hx17 := bt_at a1 x6_1; replace p17 := eq_true p17; replace q17 := eq_true q17) | (go_at_call 86; (with_reducible refine (impl_digit.calls (bt a1 x6_1) t279 _ A18.out).mono ?_); rintro e w' ⟨rfl, ⟨nd, rfl⟩⟩; (try first | exact ⟨rfl, _, World.drewN_drewN _ _ _⟩ | exact ⟨rfl, _, Eq.trans (World.drewN_drewN _ _ _) (congrArg (World.drewN _) (Nat.add_assoc _ _ _))⟩)) | (go_at_call 104; (with_reducible refine (slices_Contains_int_int.calls k1 _ _ (rd_L8 t274 t277) t279 false _ ?side1 ?side2 A19.out).mono ?_); (case side1 => repeat (first | exact (by repeat (first | (with_reducible exact HR278_0.out) | (with_reducible refine Kd.C_alloc ?_ _) | (with_reducible refine Kd.C_drewN ?_ _) | (with_reducible refine Kd.C_drew ?_) | exact HR278_0.out)) | (with_reducible refine Kd.C_alloc ?_ _) | (with_reducible refine Kd.C_drewN ?_ _) | (with_reducible refine Kd.C_drew ?_))); (case side2 => exact HC278_0.out); rintro e w' ⟨rfl, ⟨nd, rfl⟩⟩; (try first | exact ⟨rfl, _, World.drewN_drewN _ _ _⟩ | exact ⟨rfl, _, Eq.trans (World.drewN_drewN _ _ _) (congrArg (World.drewN _) (Nat.add_assoc _ _ _))⟩))))
           go_ret
           exact ⟨by first | rfl | (simp [errW_none, errW_some] <;> rfl) | (simp only [← hji9]; first | rfl | (simp [errW_none, errW_some] <;> rfl)) | (simp [*, errW_none, errW_some] <;> rfl), qw HB⟩
         ·
          rw [if_neg c16] at H
          exact absurd H (by simp)
        ·
         rw [if_neg c15] at H
         exact absurd H (by simp)
       ·
        rw [if_neg c14] at H
        exact absurd H (by simp)
      ·
       rw [if_neg c11] at H
       exact absurd H (by simp)
     ·
      rw [if_neg c10] at H
      exact absurd H (by simp)
    ·
     rw [if_neg c8] at H
     have c8b0 : decide (x6_1 < (a1.size : Int)) = false := decide_eq_false c8
     clear c8
     obtain rfl := Option.some.inj H
     go_wp2
     repeat (go_quiet (fail); try go_wp2)
     go_ret
     exact ⟨by first | rfl | (simp [errW_none, errW_some] <;> rfl) | (simp [*, errW_none, errW_some] <;> rfl), qw HB⟩
 ·
  replace c4 := Bool.eq_false_iff.mpr c4
  subst c4
  have H1 : (some false) = some r := by rw [if_neg (show ¬ (false = true) by decide)] at H; exact H
  clear H
  have H := H1
  clear H1
  obtain rfl := Option.some.inj H
  go_enter Tryz.func89, Tryz.ntmps89
  go_wp2_with (first | (go_at_call 102; (with_reducible refine (impl_isDigits.calls a1 1 40 false _ A3.out).mono ?_); rintro e w23 ⟨rfl, hb⟩; have n0_ := Aside0.mk (below_step (qw HB) hb); clear HB; have HB := n0_; clear n0_; (try clear hb); (try clear hb2); (try clear hk); (try clear hi)))
  repeat (go_quiet (first | (go_at_call 102; (with_reducible refine (impl_isDigits.calls a1 1 40 false _ A3.out).mono ?_); rintro e w23 ⟨rfl, hb⟩; have n0_ := Aside0.mk (below_step (qw HB) hb); clear HB; have HB := n0_; clear n0_; (try clear hb); (try clear hb2); (try clear hk); (try clear hi))); try go_wp2_with (first | (go_at_call 102; (with_reducible refine (impl_isDigits.calls a1 1 40 false _ A3.out).mono ?_); rintro e w23 ⟨rfl, hb⟩; have n0_ := Aside0.mk (below_step (qw HB) hb); clear HB; have HB := n0_; clear n0_; (try clear hb); (try clear hb2); (try clear hk); (try clear hi))))
  go_ret
  exact ⟨by first | rfl | (simp [errW_none, errW_some] <;> rfl) | (simp [*, errW_none, errW_some] <;> rfl), qw HB⟩


/-! ### strconv_Atoi: function 90 -/
/-- the library's two sentinels stand in their variables -/
def Glob (w : World) : Prop := (∃ tp p, w.cell? ⟨0, 0, none⟩ = some (.iface tp p)) ∧ (∃ tp p, w.cell? ⟨1, 0, none⟩ = some (.iface tp p))
theorem Glob.below {w w' : World} (h : Glob w) (hb : Below w.heap.size w w') : Glob w' := by
  obtain ⟨⟨tp, p, h1⟩, tq, q, h2⟩ := h
  exact ⟨⟨tp, p, (hb.cell (World.block_lt_of_cell? w _ h1)).trans h1⟩, tq, q, (hb.cell (World.block_lt_of_cell? w _ h2)).trans h2⟩
/-- the number that strconv.Atoi tells: 0 where there's none, the greatest or the least where none holds it -/
def atoiV (s : ByteArray) : Int := match Lib.atoiAll s.data.toList with
  | .ok v => v
  | .«syntax» => 0
  | .range => Lib.atoiSat s.data.toList
def strconv_Atoi.f (a0 : ByteArray) : Option (Int × Bool) := if a0.size ≤ 1073741824 then some (atoiV a0, false) else none
theorem strconv_Atoi.calls (a0 : ByteArray) (r1 : Int) (r2 : Bool) (w : World) (h : strconv_Atoi.f a0 = some (r1, r2)) (hglob : Glob w := by first | exact Glob.below HG.out (by repeat (first | (with_reducible first | exact HB.out | apply below_alloc | apply pw_below_drewN | apply below_drew1 | refine below_set ?_ (Aside0.out (by assumption))) | exact HB.out)) | assumption) :
    Calls Tryz.prog 90 #[.string a0] w fun e w' => ∃ ev : Value, e = .returned (.tuple #[.int .i64 r1, ev]) ∧ Below w.heap.size w w' := by
  unfold strconv_Atoi.f at h
  split at h
  · rename_i hs
    have e := (Prod.mk.inj (Option.some.inj h)).1
    subst e
    unfold atoiV
    obtain ⟨⟨tp, p, h1⟩, tq, q, h2⟩ := hglob
    cases ha : Lib.atoiAll a0.data.toList with
    | ok v =>
      refine (Tryz.strconv_Atoi_ok a0 (by omega) v ha w).mono ?_
      rintro e w' ⟨rfl, rfl | ⟨t, rfl⟩⟩
      · exact ⟨_, rfl, Below.refl _ _⟩
      · exact ⟨_, rfl, Lib.bytesWorld_below _ _ _⟩
    | «syntax» =>
      refine (Tryz.strconv_Atoi_syntax a0 (by omega) ha _ w h1 (.inr ⟨tp, p, rfl⟩)).mono ?_
      rintro e w' ⟨N, rfl, _, _, hb⟩
      exact ⟨_, rfl, hb⟩
    | range =>
      refine (Tryz.strconv_Atoi_range a0 (by omega) ha _ w h2 (.inr ⟨tq, q, rfl⟩)).mono ?_
      rintro e w' ⟨N, rfl, _, _, hb⟩
      exact ⟨_, rfl, hb⟩
  · exact absurd h (by simp)


/-! ### slices_insertionSortOrdered_byte: function 142 -/
open Go.Sort in
theorem isNaN_byte (x : Int) (w : World) : Calls Tryz.prog 171 #[.int .u8 x] w fun e w' => e = .returned (.bool false) ∧ w' = w := by
  go_enter Tryz.func171, Tryz.ntmps171
  go_wp2
  go_ret
  exact ⟨by simp, rfl⟩
open Go.Sort in
theorem Less_byte (x y : Int) (w : World) : Calls Tryz.prog 148 #[.int .u8 x, .int .u8 y] w fun e w' => e = .returned (.bool (Sort.ltInt x y)) ∧ w' = w := by
  go_enter Tryz.func148, Tryz.ntmps148
  go_wp2_with (go_at_call 171; refine (isNaN_byte _ _).mono ?_; rintro e w' ⟨rfl, rfl⟩)
  go_ret
  exact ⟨rfl, rfl⟩
open Go.Sort in
set_option maxHeartbeats 4000000 in
/-- insertionSortOrdered at bytes -/
theorem slices_insertionSortOrdered_byte.calls (blk off cap a b : Nat) (d : Array Int) (w : World) (hH : Holds (Value.int .u8) w blk off d) (hab : a ≤ b) (hb : b ≤ d.size) (hsz : d.size < 4611686018427387904) :
    Calls Tryz.prog 142 #[.slice (some ⟨blk, off, none⟩) d.size cap, .int .i64 a, .int .i64 b] w fun e w' =>
      e = .returned (.tuple #[]) ∧ ∃ n, w' = putRow (Value.int .u8) (Sort.ahead w n) blk off (Sort.insertionSort ltInt d a b) := by
  go_enter Tryz.func142, Tryz.ntmps142
  go_wp2
  go_loopw [6] (fun vi wr => ∃ (i n : Nat) (dk : Array Int), vi = .int .i64 i ∧ a < i ∧ i ≤ b + 1 ∧ dk.size = d.size ∧ wr = putRow (Value.int .u8) (Sort.ahead w n) blk off dk ∧
      insOuter ltInt a b i dk = insOuter ltInt a b (a + 1) d) (fun vi _ => b + 1 - (intOf vi).toNat)
  case atStart => exact ⟨a + 1, 0, d, by go_num, by omega, by omega, rfl, (putRow_self _ _ _ _ _ hH).symm, rfl⟩
  case round =>
    obtain ⟨i, n, dk, rfl, hai, hib, hsk, hwr, hO⟩ := hrel
    have HO : Hid (insOuter ltInt a b i dk = insOuter ltInt a b (a + 1) d) := hO
    clear hO
    go_wp2
    · go_loopw [7] (fun vj wr2 => ∃ (j m : Nat) (dj : Array Int), vj = .int .i64 j ∧ a ≤ j ∧ j ≤ i ∧ dj.size = d.size ∧ wr2 = putRow (Value.int .u8) (Sort.ahead w m) blk off dj ∧
          insInner ltInt a j dj = insInner ltInt a i dk) (fun vj _ => (intOf vj).toNat)
      case atStart => exact ⟨i, n, dk, rfl, by omega, Nat.le_refl _, hsk, rfl, rfl⟩
      case round =>
        obtain ⟨j, m, dj, rfl, haj, hji, hsj, hw2, hI⟩ := hrel
        have hlt : i < b := by assumption
        obtain ⟨G, hG⟩ : ∃ G : Nat → Int, ∀ t, G t = dj[t]! := ⟨fun t => dj[t]!, fun _ => rfl⟩
        have hcw : ∀ t, t < d.size → wr.cell? ⟨blk, off + t, none⟩ = some (.int .u8 (G t)) := fun t ht => by
          rw [hw2, hG]; exact cell?_putRow _ _ _ _ d dj (holds_ahead _ _ _ _ _ _ hH) hsj t (by omega)
        have hfw : ∀ t, t < d.size → wr.frozen? ⟨blk, off + t, none⟩ = false := fun t ht => by
          rw [hw2, frozen?_putRow]; exact ((holds_ahead _ _ m _ _ _ hH) t ht).2
        have HW : Hid (wr = putRow (Value.int .u8) (Sort.ahead w m) blk off dj) := hw2
        have HG : Hid (∀ t, G t = dj[t]!) := hG
        have HI : Hid (insInner ltInt a j dj = insInner ltInt a i dk) := hI
        clear hw2 hG hI hH
        have out : (j ≤ a ∨ ltInt dj[j]! dj[j - 1]! = false) → ∀ q, ∃ i' n' dk', Value.int .i64 ((i : Int) + 1) = .int .i64 (i' : Nat) ∧ a < i' ∧ i' ≤ b + 1 ∧ dk'.size = d.size ∧
            wr.drewN q = putRow (Value.int .u8) (Sort.ahead w n') blk off dk' ∧ insOuter ltInt a b i' dk' = insOuter ltInt a b (a + 1) d := fun hs q =>
          ⟨i + 1, m + q, dj, by go_num, by omega, by omega, hsj, by rw [HW.out]; exact putRow_drewN _ _ _ _ _ _ _,
            by rw [← HO.out, insOuter_go _ _ _ _ _ hlt, ← HI.out, insInner_stop _ _ _ _ hs]⟩
        have OUT : Hid _ := out
        clear out
        go_wp2
        by_cases hja : a < j
        · go_quiet (first | (go_at_call 148; refine Calls.quiet_of_same (Less_byte _ _ _)))
          go_wp2
          · have hl : ltInt (G j) (G (j - 1)) = true := by assumption
            go_region
            all_goals go_wp2
            go_roundw
            case rel =>
              refine ⟨j - 1, m + (nq + 1), swp dj j (j - 1), by congr 1; omega, by omega, by omega, by rw [size_swp]; exact hsj, ?_, ?_⟩
              · rw [HW.out, HG.out, HG.out]
                exact swap_worldA _ w m (nq + 1) blk off dj j (j - 1) (by omega) (by omega)
              · rw [← HI.out, insInner_go ltInt a j dj hja (by rw [← HG.out, ← HG.out]; exact hl)]
            case measure => simp [intOf]; omega
          · have hl : ltInt (G j) (G (j - 1)) = false := by assumption
            go_roundw
            case rel => exact OUT.out (Or.inr (by rw [← HG.out, ← HG.out]; exact hl)) nq
            case measure => simp [intOf]; omega
        · go_quiet (first | (go_at_call 148; refine Calls.quiet_of_same (Less_byte _ _ _)))
          go_wp2
          go_roundw
          case rel => exact OUT.out (Or.inl (by omega)) nq
          case measure => simp [intOf]; omega
    · have hge : ¬ i < b := by assumption
      go_end0
      exact ⟨rfl, n, by unfold Sort.insertionSort; rw [← HO.out, insOuter_stop _ _ _ _ _ hge]⟩


/-! ### slices_pdqsortOrdered_byte: function 123 -/
open Go.Sort in
set_option maxHeartbeats 1000000 in
set_option maxRecDepth 100000 in
theorem slices_pdqsortOrdered_byte.calls (blk cap : Nat) (v : Int) (d : Array Int) (w : World) (hH : Holds (Value.int .u8) w blk 0 d) (hsz : d.size ≤ 3) :
    Calls Tryz.prog 123 #[.slice (some ⟨blk, 0, none⟩) d.size cap, .int .i64 0, .int .i64 d.size, .int .i64 v] w fun e w' =>
      e = .returned (.tuple #[]) ∧ ∃ n, w' = putRow (Value.int .u8) (Sort.ahead w n) blk 0 (Sort.insertionSort ltInt d 0 d.size) := by
  have h1 : Calls Tryz.prog 142 #[.slice (some ⟨blk, 0, none⟩) d.size cap, .int .i64 0, .int .i64 d.size] w _ := slices_insertionSortOrdered_byte.calls blk 0 cap 0 d.size d w hH (Nat.zero_le _) (Nat.le_refl _) (by omega)
  have h12 : (d.size : Int) ≤ 12 := by omega
  generalize Sort.insertionSort ltInt d 0 d.size = r at h1 ⊢
  clear hH
  go_enter Tryz.func123, Tryz.ntmps123
  go_wp2_with fail
  go_loopg [1, 2] 0 (fun _ s1 s2 wr => s1 = .int .i64 0 ∧ s2 = .int .i64 d.size ∧ wr = w)
  case atStart => exact ⟨rfl, rfl, rfl⟩
  case round =>
    obtain ⟨rfl, rfl, rfl⟩ := hrel
    go_wp2_with fail
    refine h1.mono ?_
    rintro e w' ⟨rfl, q, rfl⟩
    go_wp2
    (try simp only [Exit.inBlock, Exit.then])
    refine bodyPost_ret (results_none rfl _ _ _) rfl ?_
    exact ⟨rfl, q, rfl⟩


/-! ### bits_Len64: function 152 -/
/-- the length in bits of a number up to three: some number -/
theorem bits_Len64.calls (n : Nat) (h : n ≤ 3) (w : World) : Calls Tryz.prog 152 #[.int .u64 n] w fun e w' => (∃ v : Int, e = .returned (.int .i64 v)) ∧ w' = w := by
  have : n = 0 ∨ n = 1 ∨ n = 2 ∨ n = 3 := by omega
  rcases this with rfl | rfl | rfl | rfl
  all_goals
    go_enter Tryz.func152, Tryz.ntmps152
    go_wp2
    go_ret
    exact ⟨⟨_, rfl⟩, rfl⟩


/-! ### bits_Len: function 124 -/
theorem bits_Len.calls (n : Nat) (h : n ≤ 3) (w : World) : Calls Tryz.prog 124 #[.int .u64 n] w fun e w' => (∃ v : Int, e = .returned (.int .i64 v)) ∧ w' = w := by
  have h1 := bits_Len64.calls n h
  go_enter Tryz.func124, Tryz.ntmps124
  go_wp2_with fail
  refine (h1 _).mono ?_
  rintro e w' ⟨⟨v, rfl⟩, rfl⟩
  go_wp2
  go_ret
  exact ⟨⟨_, rfl⟩, rfl⟩


/-! ### slices_Sort_byte_byte: function 107 -/
open Go.Sort in
set_option maxHeartbeats 1000000 in
set_option maxRecDepth 100000 in
theorem slices_Sort_byte_byte.calls (blk cap : Nat) (d : Array Int) (w : World) (hH : Holds (Value.int .u8) w blk 0 d) (hsz : d.size ≤ 3) :
    Calls Tryz.prog 107 #[.slice (some ⟨blk, 0, none⟩) d.size cap] w fun e w' =>
      e = .returned (.tuple #[]) ∧ ∃ n, w' = putRow (Value.int .u8) (Sort.ahead w n) blk 0 (Sort.insertionSort ltInt d 0 d.size) := by
  have h1 := fun v => slices_pdqsortOrdered_byte.calls blk cap v d w hH hsz
  have h2 := bits_Len.calls d.size hsz w
  generalize Sort.insertionSort ltInt d 0 d.size = r at h1 ⊢
  clear hH
  go_enter Tryz.func107, Tryz.ntmps107
  go_wp2_with fail
  refine h2.mono ?_
  rintro e w' ⟨⟨v, rfl⟩, rfl⟩
  go_wp2_with fail
  refine (h1 v).mono ?_
  rintro e w' ⟨rfl, q, rfl⟩
  go_wp2
  go_end0
  exact ⟨rfl, q, rfl⟩


/-! ### impl_lettersOf: function 91 -/
/-- a short text's bytes as numbers -/
def bytesI (s : ByteArray) : Array Int := s.data.map fun b => (b.toNat : Int)
/-- a short text's bytes, sorted, each once -/
def lettersV (s : ByteArray) : ByteArray := strOfNums (Lib.compactUpTo (Sort.insertionSort Sort.ltInt (bytesI s) 0 (bytesI s).size) (Sort.insertionSort Sort.ltInt (bytesI s) 0 (bytesI s).size).size)
def impl_lettersOf.f (a0 : ByteArray) : Option ByteArray := if a0.size ≤ 3 then some (lettersV a0) else none
theorem insInner_size {α : Type} [Inhabited α] (lt : α → α → Bool) (a : Nat) : ∀ (j : Nat) (d : Array α), (Sort.insInner lt a j d).size = d.size
  | 0, d => rfl
  | j + 1, d => by
    rw [Sort.insInner]
    split
    · rw [insInner_size lt a j, Sort.size_swp]
    · rfl
theorem insOuter_size {α : Type} [Inhabited α] (lt : α → α → Bool) (a b : Nat) (n : Nat) : ∀ (i : Nat) (d : Array α), b - i = n → (Sort.insOuter lt a b i d).size = d.size := by
  induction n with
  | zero => intro i d h; rw [Sort.insOuter, if_neg (by omega)]
  | succ n ih =>
    intro i d h
    rw [Sort.insOuter, if_pos (by omega), ih (i + 1) _ (by omega), insInner_size]
open Go.Sort in
theorem bytesRow_holds (w : World) (e : TypeId) (s : ByteArray) (cap : Nat) (hcap : s.size ≤ cap) : Holds (Value.int .u8) (w.drew.alloc (.cells (bytesRow s cap) e ((bytesRow s cap).size, (bytesRow s cap).size + 1))) w.heap.size 0 (bytesI s) := by
  have hb : (w.drew.alloc (.cells (bytesRow s cap) e ((bytesRow s cap).size, (bytesRow s cap).size + 1))).heap[w.heap.size]? = some (.cells (bytesRow s cap) e ((bytesRow s cap).size, (bytesRow s cap).size + 1)) := by
    show (w.heap.push _)[w.heap.size]? = _
    simp
  have hz : (bytesI s).size = s.size := by unfold bytesI; rw [Array.size_map]; rfl
  have hbz : (bytesRow s cap).size = cap := by unfold bytesRow; rw [Array.size_append, Array.size_map, Array.size_replicate]; show s.size + _ = _; omega
  intro j hj
  rw [hz] at hj
  have hd : j < s.data.size := hj
  rw [Nat.zero_add]
  constructor
  · simp only [World.cell?, hb]
    unfold bytesRow bytesI
    rw [getElem!_pos _ j (by rw [Array.size_map]; exact hd)]
    simp [Array.getElem?_append, hd]
    rw [if_pos hj, Array.getElem?_eq_getElem hd]
    rfl
  · have hjc : ¬ cap ≤ j := by omega
    unfold World.frozen?
    rw [hb]
    simp [hbz, hjc]
open Go.Sort in
set_option maxHeartbeats 4000000 in
set_option maxRecDepth 100000 in
theorem impl_lettersOf.calls (a0 : ByteArray) (r : ByteArray) (w : World) (h : impl_lettersOf.f a0 = some r) :
    Calls Tryz.prog 91 #[.string a0] w fun e w' => e = .returned (.string r) ∧ Below w.heap.size w w' := by
  unfold impl_lettersOf.f at h
  split at h
  · rename_i hs
    have e := Option.some.inj h
    subst e
    have hcap := grownCap_ge w a0.size 0 5
    have hconv := run_bytes_of_string (P := Tryz.prog) w 9 57 5 a0 (by kernel_rfl) (by kernel_rfl) (by kernel_rfl)
    generalize hc : grownCap w a0.size 0 5 = cap at hcap hconv
    have hH := bytesRow_holds w 5 a0 cap hcap
    generalize hw : w.drew.alloc (.cells (bytesRow a0 cap) 5 ((bytesRow a0 cap).size, (bytesRow a0 cap).size + 1)) = w1 at hH hconv
    have hdz : (bytesI a0).size = a0.size := by unfold bytesI; rw [Array.size_map]; rfl
    have hsort := slices_Sort_byte_byte.calls w.heap.size cap (bytesI a0) w1 hH (by omega)
    have hdz2 : (Sort.insertionSort ltInt (bytesI a0) 0 (bytesI a0).size).size = (bytesI a0).size := insOuter_size _ _ _ _ _ _ rfl
    unfold lettersV
    generalize Sort.insertionSort ltInt (bytesI a0) 0 (bytesI a0).size = d at hsort hdz2 ⊢
    rw [hdz] at hsort hdz2
    have hB : Below w.heap.size w w1 := by rw [← hw]; exact (Below.refl _ w).drew.alloc (Nat.le_refl _) _
    have hcmp := fun q => AnyE.slices_Compact Tryz.cmpB (Value.int .u8) (fun _ => rfl) (EqlAt.intD _ _ .u8) (NeqAt.intD _ _ .u8) 0 (fun w => by kernel_rfl) w.heap.size 0 cap d (putRow (Value.int .u8) (Sort.ahead w1 q) w.heap.size 0 d)
      (holds_putRow _ _ _ _ (bytesI a0) d (holds_ahead _ _ q _ _ _ hH) (by omega)) (by omega) (by omega)
    rw [hdz2] at hcmp
    have hlen : (Lib.compactUpTo d a0.size).length ≤ a0.size := by
      unfold Lib.compactUpTo
      rw [List.length_map]
      exact Nat.le_trans (List.length_filter_le _ _) (by rw [List.length_range]; exact Nat.le_refl _)
    rw [hdz2]
    generalize Lib.compactUpTo d a0.size = out at hcmp hlen ⊢
    have hput : ∀ (W : World) (d1 d2 : Array Int), Below w.heap.size w W → Below w.heap.size w (putRow (Value.int .u8) W w.heap.size 0 d1) := fun W d1 d2 h => by
      refine h.trans ⟨rfl, rfl, rfl, by simp [putRow, mapBlock], fun k hk => ?_⟩
      simp [putRow, mapBlock, Array.getElem?_modify, show w.heap.size ≠ k by omega]
    have hHold : ∀ q q2, ∀ i, i < out.length → (putRow (Value.int .u8) (Sort.ahead (putRow (Value.int .u8) (Sort.ahead w1 q) w.heap.size 0 d) q2) w.heap.size 0 (out ++ List.replicate (a0.size - out.length) 0).toArray).cell? ⟨w.heap.size, 0 + i, none⟩ = some (.int .u8 (out.getD i 0)) := by
      intro q q2 i hi
      refine (cell?_putRow _ _ _ _ d _ (holds_ahead _ _ q2 _ _ _ (holds_putRow _ _ _ _ (bytesI a0) d (holds_ahead _ _ q _ _ _ hH) (by omega))) (by simp; omega) i (by simp; omega)).trans ?_
      rw [getElem!_pos _ i (by simp; omega)]
      simp [hi]
    have hbk : ∀ (W : World), (∀ i, i < out.length → W.cell? ⟨w.heap.size, 0 + i, none⟩ = some (.int .u8 (out.getD i 0))) → (convert 57 9 (.slice (some ⟨w.heap.size, 0, none⟩) out.length cap)).run Tryz.prog W = .ok (.string (strOfNums out)) W :=
      fun W hW => run_convert_bytes_arg (P := Tryz.prog) W 57 5 (by kernel_rfl) (by kernel_rfl) w.heap.size 0 out.length cap out rfl hW 9 (by kernel_rfl)
    have hback := fun q q2 => hbk _ (hHold q q2)
    clear hbk
    have hbel : ∀ q q2, Below w.heap.size w (putRow (Value.int .u8) (Sort.ahead (putRow (Value.int .u8) (Sort.ahead w1 q) w.heap.size 0 d) q2) w.heap.size 0 (out ++ List.replicate (a0.size - out.length) 0).toArray) := fun q q2 =>
      hput _ _ d (pw_below_drewN (hput _ _ d (pw_below_drewN hB q)) q2)
    generalize (out ++ List.replicate (a0.size - out.length) 0).toArray = d3 at hcmp hback hbel
    clear hHold hput hH hcap hc hw hdz hdz2 hlen h
    go_enter Tryz.func91, Tryz.ntmps91
    go_wp2_with fail
    refine hsort.mono ?_
    rintro e w' ⟨rfl, q, rfl⟩
    clear hsort
    go_wp2_with fail
    refine (hcmp q).mono ?_
    rintro e w' ⟨rfl, q2, rfl⟩
    clear hcmp
    have hback := hback q q2
    have hbel := hbel q q2
    generalize putRow (Value.int .u8) (Sort.ahead (putRow (Value.int .u8) (Sort.ahead w1 q) w.heap.size 0 d) q2) w.heap.size 0 d3 = w3 at hback hbel ⊢
    go_wp2
    go_ret
    exact ⟨rfl, hbel⟩
  · exact absurd h (by simp)

/-! ### impl_truth: function 80 -/
def impl_truth.l0 : Nat → ByteArray → Int → Int → Int → Option (Int)
 | 0, _, _, _, _ => none
 | k + 1, x2, x7, x17, x18 => if x18 < x17 then (if 0 ≤ x18 then (if x18 < (x2.size : Int) then ((impl_digit.f (bt x2 x18)).bind fun t281 => (impl_truth.l0 k x2 (wrap64 (x7 + t281)) x17 (wrap64 (x18 + 1)))) else (none)) else (none)) else (some x7)
def impl_truth.f (k : Nat) (a0 : Int) (a1 : Int) (a2 : ByteArray) : Option (Int) := if a0 = 0 then (impl_truth.l0 k a2 0 (a2.size : Int) 0) else (if a0 = 1 then (if 0 ≤ a1 then (if a1 < (a2.size : Int) then ((impl_digit.f (bt a2 a1)).bind fun t282 => (some t282)) else (none)) else (none)) else (if a0 = 2 then ((impl_OneThumb.f k a2 (⟨#[53]⟩ : ByteArray) false).bind fun bt283 => (some bt283.1)) else (if a0 = 3 then ((impl_isWalk.f k (⟨#[110]⟩ : ByteArray) a2).bind fun t285 => ((impl_flag.f t285).bind fun t286 => (some t286))) else (if a0 = 4 then ((strconv_Atoi.f a2).bind fun bt287 => (if a1 = 0 then (none) else ((impl_flag.f ((Int.tmod bt287.1 a1) == 0)).bind fun t289 => (some t289)))) else ((impl_lettersOf.f a2).bind fun t290 => (some (t290.size : Int)))))))
theorem impl_truth.mono_l : ∀ k, (∀ y0 y1 y2 y3, LeO (impl_truth.l0 k y0 y1 y2 y3) (impl_truth.l0 (k + 1) y0 y1 y2 y3))
 | 0 => fun _ _ _ _ r h => by simp [impl_truth.l0] at h
 | k + 1 => by
  have ih0 := impl_truth.mono_l k
  ·
   intro y0 y1 y2 y3
   unfold impl_truth.l0
   repeat' first
   | (with_reducible exact ih0 _ _ _ _)
   | (with_reducible exact impl_OneThumb.mono _ _ _ _)
   | (with_reducible exact impl_isWalk.mono _ _ _)
   | (with_reducible exact LeO.refl _)
   | (with_reducible exact LeO.none _)
   | (with_reducible refine LeO.ite ?_ ?_)
   | (with_reducible refine LeO.bind ?_ (fun _ => ?_))
   | exact ih0 _ _ _ _
   | exact impl_OneThumb.mono _ _ _ _
   | exact impl_isWalk.mono _ _ _
   | exact LeO.none _
   | refine LeO.ite ?_ ?_
   | refine LeO.bind ?_ (fun _ => ?_)
theorem impl_truth.mono : ∀ a0 a1 a2 k, LeO (impl_truth.f k a0 a1 a2) (impl_truth.f (k + 1) a0 a1 a2) := by
 intro a0 a1 a2 k
 have ih0 := impl_truth.mono_l k
 unfold impl_truth.f
 repeat' first
   | (with_reducible exact ih0 _ _ _ _)
   | (with_reducible exact impl_OneThumb.mono _ _ _ _)
   | (with_reducible exact impl_isWalk.mono _ _ _)
   | (with_reducible exact LeO.refl _)
   | (with_reducible exact LeO.none _)
   | (with_reducible refine LeO.ite ?_ ?_)
   | (with_reducible refine LeO.bind ?_ (fun _ => ?_))
   | exact ih0 _ _ _ _
   | exact impl_OneThumb.mono _ _ _ _
   | exact impl_isWalk.mono _ _ _
   | exact LeO.none _
   | refine LeO.ite ?_ ?_
   | refine LeO.bind ?_ (fun _ => ?_)
set_option maxHeartbeats 8000000 in
set_option maxRecDepth 100000 in
theorem impl_truth.calls (k : Nat) (a0 : Int) (a1 : Int) (a2 : ByteArray) (r : Int) (w : World) (h : impl_truth.f k a0 a1 a2 = some r) (hglob : Glob w := by first | exact Glob.below HG.out (by repeat (first | (with_reducible first | exact HB.out | apply below_alloc | apply pw_below_drewN | apply below_drew1 | refine below_set ?_ (Aside0.out (by assumption))) | exact HB.out)) | assumption) :
  Calls Tryz.prog 80 #[.int .i64 a0, .int .i64 a1, .string a2] w fun e w' => e = .returned (.int .i64 r) ∧ Below w.heap.size w w' := by
 have HG := Aside0.mk hglob
 clear hglob
 have HB := Aside0.mk (Below.refl w.heap.size w)
 have H : (if a0 = 0 then (impl_truth.l0 k a2 0 (a2.size : Int) 0) else (if a0 = 1 then (if 0 ≤ a1 then (if a1 < (a2.size : Int) then ((impl_digit.f (bt a2 a1)).bind fun t282 => (some t282)) else (none)) else (none)) else (if a0 = 2 then ((impl_OneThumb.f k a2 (⟨#[53]⟩ : ByteArray) false).bind fun bt283 => (some bt283.1)) else (if a0 = 3 then ((impl_isWalk.f k (⟨#[110]⟩ : ByteArray) a2).bind fun t285 => ((impl_flag.f t285).bind fun t286 => (some t286))) else (if a0 = 4 then ((strconv_Atoi.f a2).bind fun bt287 => (if a1 = 0 then (none) else ((impl_flag.f ((Int.tmod bt287.1 a1) == 0)).bind fun t289 => (some t289)))) else ((impl_lettersOf.f a2).bind fun t290 => (some (t290.size : Int)))))))) = some r := h
 clear h
 by_cases c4 : a0 = 0
 ·
  rw [if_pos c4] at H
  have c4b0 : (a0 == 0) = true := beq_iff_eq.mpr c4
  have c4b1 : (a0 != 0) = false := bne_eq_false_iff_eq.mpr c4
  clear c4
  have H' := Aside0.mk H
  clear H
  go_enter Tryz.func80, Tryz.ntmps80
  go_wp2
  go_loopg [7, 18] k (fun kq v7 v18 w' => ∃ (x7_1 : Int) (x18_1 : Int), v7 = .int .i64 x7_1 ∧ v18 = .int .i64 x18_1 ∧ Aside0 (impl_truth.l0 kq a2 x7_1 (a2.size : Int) x18_1 = some r) ∧ Aside0 (kq ≤ k) ∧ Aside0 (Below w.heap.size w w'))
  case atStart => exact ⟨(0), (0), (by first | rfl | (simp; done) | (simp [*]; done) | (simp [isEmpty_bne]; done) | (simp [i64_w]; done) | (simp only [i64_w]; done)), (by first | rfl | (simp; done) | (simp [*]; done) | (simp [isEmpty_bne]; done) | (simp [i64_w]; done) | (simp only [i64_w]; done)), H', ⟨Nat.le_refl _⟩, ⟨by repeat (first | (with_reducible first | exact HB.out | apply below_alloc | apply pw_below_drewN | apply below_drew1) | exact HB.out)⟩⟩
  case round =>
   clear H'
   try clear p2
   try clear c4
   try clear c4b0
   try clear c4b1
   obtain ⟨x7_1, x18_1, rfl, rfl, HA, HK1, HB⟩ := hrel
   cases gk with
   | zero => exact absurd HA.out (by simp [impl_truth.l0])
   | succ k1 =>
    have H := HA.out
    clear HA
    simp only [impl_truth.l0] at H
    by_cases c5 : x18_1 < (a2.size : Int)
    ·
     rw [if_pos c5] at H
     have c5b0 : decide (x18_1 < (a2.size : Int)) = true := decide_eq_true c5
     clear c5
     by_cases c6 : 0 ≤ x18_1
     ·
      rw [if_pos c6] at H
      have c6b0 : decide (0 ≤ x18_1) = true := decide_eq_true c6
      clear c6
      by_cases c7 : x18_1 < (a2.size : Int)
      ·
       rw [if_pos c7] at H
       have c7b0 : decide (x18_1 < (a2.size : Int)) = true := decide_eq_true c7
       clear c7
       replace H := Option.bind_eq_some_iff.mp H
       obtain ⟨t281, A90, H⟩ := H
       replace H : (impl_truth.l0 k1 a2 (wrap64 (x7_1 + t281)) (a2.size : Int) (wrap64 (x18_1 + 1))) = some r := H
       have A9 := Aside0.mk A90
       clear A90
       have H' := Aside0.mk H
       clear H
       have p8 : 0 ≤ (x18_1 : Int) := of_decide_eq_true (by first | (with_reducible assumption) | assumption)
       have q8 : x18_1 < (a2.size : Int) := of_decide_eq_true (by first | (with_reducible assumption) | assumption)
       have hx8 := bt_at a2 x18_1
       replace p8 := eq_true p8
       replace q8 := eq_true q8
       go_wp2_with (first | ((with_reducible refine gate_callee (f := 86) rfl ?_); refine goesL_ (some 25) rfl rfl Tryz.func86 (by kernel_rfl) rfl #[.int .u8 (bt a2 x18_1)] rfl (by (try simp only [List.map_toArray, List.map_cons, List.map_nil]); first | done | rfl | (simp only [List.length_drop, List.length_take]; rfl)) ?_; (with_reducible refine (impl_digit.calls (bt a2 x18_1) t281 _ A9.out).mono ?_); rintro e w' ⟨rfl, ⟨nd, rfl⟩⟩; refine ⟨_, rfl, ?_⟩))
       go_roundg k1
       case measure => have := HK1.out; omega
       case rel => exact ⟨(wrap64 (x7_1 + t281)), (wrap64 (x18_1 + 1)), (by first | rfl | (simp; done) | (simp [*]; done) | (simp [isEmpty_bne]; done) | (simp [i64_w]; done) | (simp only [i64_w]; done)), (by first | rfl | (simp; done) | (simp [*]; done) | (simp [isEmpty_bne]; done) | (simp [i64_w]; done) | (simp only [i64_w]; done)), H', ⟨by have := HK1.out; omega⟩, ⟨by repeat (first | (with_reducible first | exact HB.out | apply below_alloc | apply pw_below_drewN | apply below_drew1) | exact HB.out)⟩⟩
      ·
       rw [if_neg c7] at H
       exact absurd H (by simp)
     ·
      rw [if_neg c6] at H
      exact absurd H (by simp)
    ·
     rw [if_neg c5] at H
     have c5b0 : decide (x18_1 < (a2.size : Int)) = false := decide_eq_false c5
     clear c5
     obtain rfl := Option.some.inj H
     go_wp2
     go_ret
     exact ⟨by first | rfl | (simp [errW_none, errW_some] <;> rfl) | (simp [*, errW_none, errW_some] <;> rfl), qw HB⟩
 ·
  rw [if_neg c4] at H
  have c4b0 : (a0 == 0) = false := beq_eq_false_iff_ne.mpr c4
  have c4b1 : (a0 != 0) = true := bne_iff_ne.mpr c4
  by_cases c10 : a0 = 1
  ·
   rw [if_pos c10] at H
   have c10b0 : (a0 == 1) = true := beq_iff_eq.mpr c10
   have c10b1 : (a0 != 1) = false := bne_eq_false_iff_eq.mpr c10
   clear c10
   by_cases c11 : 0 ≤ a1
   ·
    rw [if_pos c11] at H
    have c11b0 : decide (0 ≤ a1) = true := decide_eq_true c11
    clear c11
    by_cases c12 : a1 < (a2.size : Int)
    ·
     rw [if_pos c12] at H
     have c12b0 : decide (a1 < (a2.size : Int)) = true := decide_eq_true c12
     clear c12
     replace H := Option.bind_eq_some_iff.mp H
     obtain ⟨t282, A140, H⟩ := H
     replace H : (some t282) = some r := H
     have A14 := Aside0.mk A140
     clear A140
     obtain rfl := Option.some.inj H
     have p13 : 0 ≤ (a1 : Int) := of_decide_eq_true (by first | (with_reducible assumption) | assumption)
     have q13 : a1 < (a2.size : Int) := of_decide_eq_true (by first | (with_reducible assumption) | assumption)
     have hx13 := bt_at a2 a1
     replace p13 := eq_true p13
     replace q13 := eq_true q13
     go_enter Tryz.func80, Tryz.ntmps80
     go_wp2_with (first | ((with_reducible refine gate_callee (f := 86) rfl ?_); refine goesL_ (some 34) rfl rfl Tryz.func86 (by kernel_rfl) rfl #[.int .u8 (bt a2 a1)] rfl (by (try simp only [List.map_toArray, List.map_cons, List.map_nil]); first | done | rfl | (simp only [List.length_drop, List.length_take]; rfl)) ?_; (with_reducible refine (impl_digit.calls (bt a2 a1) t282 _ A14.out).mono ?_); rintro e w' ⟨rfl, ⟨nd, rfl⟩⟩; refine ⟨_, rfl, ?_⟩))
     go_ret
     exact ⟨by first | rfl | (simp [errW_none, errW_some] <;> rfl) | (simp [*, errW_none, errW_some] <;> rfl), qw HB⟩
    ·
     rw [if_neg c12] at H
     exact absurd H (by simp)
   ·
    rw [if_neg c11] at H
    exact absurd H (by simp)
  ·
   rw [if_neg c10] at H
   have c10b0 : (a0 == 1) = false := beq_eq_false_iff_ne.mpr c10
   have c10b1 : (a0 != 1) = true := bne_iff_ne.mpr c10
   by_cases c15 : a0 = 2
   ·
    rw [if_pos c15] at H
    have c15b0 : (a0 == 2) = true := beq_iff_eq.mpr c15
    have c15b1 : (a0 != 2) = false := bne_eq_false_iff_eq.mpr c15
    clear c15
    replace H := Option.bind_eq_some_iff.mp H
    obtain ⟨⟨t283, t284⟩, A160, H⟩ := H
    replace H : (some t283) = some r := H
    have A16 := Aside0.mk A160
    clear A160
    obtain rfl := Option.some.inj H
    go_enter Tryz.func80, Tryz.ntmps80
    go_wp2_with (first | ((with_reducible refine gate_callee (f := 87) rfl ?_); refine goesL_ (some 39) rfl rfl Tryz.func87 (by kernel_rfl) rfl #[.string a2, .string (⟨#[53]⟩ : ByteArray), .bool false] rfl (by (try simp only [List.map_toArray, List.map_cons, List.map_nil]); first | done | rfl | (simp only [List.length_drop, List.length_take]; rfl)) ?_; (with_reducible refine (impl_OneThumb.calls k a2 (⟨#[53]⟩ : ByteArray) false t283 t284 _ A16.out).mono ?_); rintro e w17 ⟨rfl, hb⟩; refine ⟨_, rfl, ?_⟩; have n0_ := Aside0.mk (below_step (qw HB) hb); clear HB; have HB := n0_; clear n0_; (try clear hb); (try clear hb2); (try clear hk); (try clear hi)))
    go_ret
    exact ⟨by first | rfl | (simp [errW_none, errW_some] <;> rfl) | (simp [*, errW_none, errW_some] <;> rfl), qw HB⟩
   ·
    rw [if_neg c15] at H
    have c15b0 : (a0 == 2) = false := beq_eq_false_iff_ne.mpr c15
    have c15b1 : (a0 != 2) = true := bne_iff_ne.mpr c15
    by_cases c18 : a0 = 3
    ·
     rw [if_pos c18] at H
     have c18b0 : (a0 == 3) = true := beq_iff_eq.mpr c18
     have c18b1 : (a0 != 3) = false := bne_eq_false_iff_eq.mpr c18
     clear c18
     replace H := Option.bind_eq_some_iff.mp H
     obtain ⟨t285, A190, H⟩ := H
     replace H : ((impl_flag.f t285).bind fun t286 => (some t286)) = some r := H
     have A19 := Aside0.mk A190
     clear A190
     replace H := Option.bind_eq_some_iff.mp H
     obtain ⟨t286, A200, H⟩ := H
     replace H : (some t286) = some r := H
     have A20 := Aside0.mk A200
     clear A200
     obtain rfl := Option.some.inj H
     go_enter Tryz.func80, Tryz.ntmps80
     go_wp2_with (first | ((with_reducible refine gate_callee (f := 89) rfl ?_); refine goesL_ (some 46) rfl rfl Tryz.func89 (by kernel_rfl) rfl #[.string (⟨#[110]⟩ : ByteArray), .string a2] rfl (by (try simp only [List.map_toArray, List.map_cons, List.map_nil]); first | done | rfl | (simp only [List.length_drop, List.length_take]; rfl)) ?_; (with_reducible refine (impl_isWalk.calls k (⟨#[110]⟩ : ByteArray) a2 t285 _ A19.out).mono ?_); rintro e w21 ⟨rfl, hb⟩; refine ⟨_, rfl, ?_⟩; have n0_ := Aside0.mk (below_step (qw HB) hb); clear HB; have HB := n0_; clear n0_; (try clear hb); (try clear hb2); (try clear hk); (try clear hi)) | ((with_reducible refine gate_callee (f := 88) rfl ?_); refine goesL_ (some 47) rfl rfl Tryz.func88 (by kernel_rfl) rfl #[.bool t285] rfl (by (try simp only [List.map_toArray, List.map_cons, List.map_nil]); first | done | rfl | (simp only [List.length_drop, List.length_take]; rfl)) ?_; (with_reducible refine (impl_flag.calls t285 t286 _ A20.out).mono ?_); rintro e w' ⟨rfl, ⟨nd, rfl⟩⟩; refine ⟨_, rfl, ?_⟩))
     go_ret
     exact ⟨by first | rfl | (simp [errW_none, errW_some] <;> rfl) | (simp [*, errW_none, errW_some] <;> rfl), qw HB⟩
    ·
     rw [if_neg c18] at H
     have c18b0 : (a0 == 3) = false := beq_eq_false_iff_ne.mpr c18
     have c18b1 : (a0 != 3) = true := bne_iff_ne.mpr c18
     by_cases c22 : a0 = 4
     ·
      rw [if_pos c22] at H
      have c22b0 : (a0 == 4) = true := beq_iff_eq.mpr c22
      have c22b1 : (a0 != 4) = false := bne_eq_false_iff_eq.mpr c22
      clear c22
      replace H := Option.bind_eq_some_iff.mp H
      obtain ⟨⟨t287, t288⟩, A230, H⟩ := H
      replace H : (if a1 = 0 then (none) else ((impl_flag.f ((Int.tmod t287 a1) == 0)).bind fun t289 => (some t289))) = some r := H
      have A23 := Aside0.mk A230
      clear A230
      by_cases c24 : a1 = 0
      ·
       rw [if_pos c24] at H
       exact absurd H (by simp)
      ·
       rw [if_neg c24] at H
       have c24b0 : (a1 == 0) = false := beq_eq_false_iff_ne.mpr c24
       have c24b1 : (a1 != 0) = true := bne_iff_ne.mpr c24
       replace H := Option.bind_eq_some_iff.mp H
       obtain ⟨t289, A250, H⟩ := H
       replace H : (some t289) = some r := H
       have A25 := Aside0.mk A250
       clear A250
       obtain rfl := Option.some.inj H
       go_enter Tryz.func80, Tryz.ntmps80
       go_wp2_with (first | ((with_reducible refine gate_callee (f := 90) rfl ?_); refine goesL_ (some 52) rfl rfl Tryz.func90 (by kernel_rfl) rfl #[.string a2] rfl (by (try simp only [List.map_toArray, List.map_cons, List.map_nil]); first | done | rfl | (simp only [List.length_drop, List.length_take]; rfl)) ?_; (with_reducible refine (strconv_Atoi.calls a2 t287 t288 _ A23.out).mono ?_); rintro e w26 ⟨ev_, rfl, hb⟩; refine ⟨_, rfl, ?_⟩; have n0_ := Aside0.mk (below_step (qw HB) hb); clear HB; have HB := n0_; clear n0_; (try clear hb); (try clear hb2); (try clear hk); (try clear hi)) | ((with_reducible refine gate_callee (f := 88) rfl ?_); refine goesL_ (some 59) rfl rfl Tryz.func88 (by kernel_rfl) rfl #[.bool ((Int.tmod t287 a1) == 0)] rfl (by (try simp only [List.map_toArray, List.map_cons, List.map_nil]); first | done | rfl | (simp only [List.length_drop, List.length_take]; rfl)) ?_; (with_reducible refine (impl_flag.calls ((Int.tmod t287 a1) == 0) t289 _ A25.out).mono ?_); rintro e w' ⟨rfl, ⟨nd, rfl⟩⟩; refine ⟨_, rfl, ?_⟩))
       go_ret
       exact ⟨by first | rfl | (simp [errW_none, errW_some] <;> rfl) | (simp [*, errW_none, errW_some] <;> rfl), qw HB⟩
     ·
      rw [if_neg c22] at H
      have c22b0 : (a0 == 4) = false := beq_eq_false_iff_ne.mpr c22
      have c22b1 : (a0 != 4) = true := bne_iff_ne.mpr c22
      replace H := Option.bind_eq_some_iff.mp H
      obtain ⟨t290, A270, H⟩ := H
      replace H : (some (t290.size : Int)) = some r := H
      have A27 := Aside0.mk A270
      clear A270
      obtain rfl := Option.some.inj H
      go_enter Tryz.func80, Tryz.ntmps80
      go_wp2_with (first | ((with_reducible refine gate_callee (f := 91) rfl ?_); refine goesL_ (some 61) rfl rfl Tryz.func91 (by kernel_rfl) rfl #[.string a2] rfl (by (try simp only [List.map_toArray, List.map_cons, List.map_nil]); first | done | rfl | (simp only [List.length_drop, List.length_take]; rfl)) ?_; (with_reducible refine (impl_lettersOf.calls a2 t290 _ A27.out).mono ?_); rintro e w28 ⟨rfl, hb⟩; refine ⟨_, rfl, ?_⟩; have n0_ := Aside0.mk (below_step (qw HB) hb); clear HB; have HB := n0_; clear n0_; (try clear hb); (try clear hb2); (try clear hk); (try clear hi)))
      go_ret
      exact ⟨by first | rfl | (simp [errW_none, errW_some] <;> rfl) | (simp [*, errW_none, errW_some] <;> rfl), qw HB⟩

/-! ### impl_Clue_fits: function 71 -/
def impl_Clue_fits.f (k : Nat) (a0_0 : Int) (a0_1 : Int) (a0_2 : Int) (a1 : ByteArray) : Option (Bool) := (impl_truth.f k a0_0 a0_1 a1).bind fun t292 => (some (t292 == a0_2))
theorem impl_Clue_fits.mono : ∀ a0 a1 a2 a3 k, LeO (impl_Clue_fits.f k a0 a1 a2 a3) (impl_Clue_fits.f (k + 1) a0 a1 a2 a3) := by
 intro a0 a1 a2 a3 k
 unfold impl_Clue_fits.f
 repeat' first
   | (with_reducible exact impl_truth.mono _ _ _ _)
   | (with_reducible exact LeO.refl _)
   | (with_reducible exact LeO.none _)
   | (with_reducible refine LeO.ite ?_ ?_)
   | (with_reducible refine LeO.bind ?_ (fun _ => ?_))
   | exact impl_truth.mono _ _ _ _
   | exact LeO.none _
   | refine LeO.ite ?_ ?_
   | refine LeO.bind ?_ (fun _ => ?_)
def impl_Clue_fits.T1 : Bool × List (List Nat × List Nat) := (true, [([], []), ([0], [0]), ([], []), ([2], [2]), ([], []), ([1, 3, 4], [1, 3, 4]), ([], []), ([6], [6]), ([5, 7], [5, 7]), ([8, 5, 0, 1, 2, 3, 4, 5, 6, 7, 8], [8])])
def impl_Clue_fits.B1 : List Nat := [0, 1, 0, 4, 0, 31, 0, 64, 255, 511]
theorem impl_Clue_fits.tab1 : rtab .any (opsOf Tryz.f71 1) = impl_Clue_fits.T1 := by kernel_rfl
theorem impl_Clue_fits.bits1 : waitsOk impl_Clue_fits.T1.2 impl_Clue_fits.B1 = true := by kernel_rfl
set_option maxHeartbeats 8000000 in
set_option maxRecDepth 100000 in
theorem impl_Clue_fits.calls (k : Nat) (a0_0 : Int) (a0_1 : Int) (a0_2 : Int) (a1 : ByteArray) (r : Bool) (w : World) (h : impl_Clue_fits.f k a0_0 a0_1 a0_2 a1 = some r) (hglob : Glob w := by first | exact Glob.below HG.out (by repeat (first | (with_reducible first | exact HB.out | apply below_alloc | apply pw_below_drewN | apply below_drew1 | refine below_set ?_ (Aside0.out (by assumption))) | exact HB.out)) | assumption) :
  Calls Tryz.prog 71 #[.agg #[.int .i64 a0_0, .int .i64 a0_1, .int .i64 a0_2], .string a1] w fun e w' => e = .returned (.bool r) ∧ Below w.heap.size w w' := by
 have HG := Aside0.mk hglob
 clear hglob
 have hu65 := Tryz.underlying65
 have HB := Aside0.mk (Below.refl w.heap.size w)
 have H : ((impl_truth.f k a0_0 a0_1 a1).bind fun t292 => (some (t292 == a0_2))) = some r := h
 clear h
 replace H := Option.bind_eq_some_iff.mp H
 obtain ⟨t292, A30, H⟩ := H
 replace H : (some (t292 == a0_2)) = some r := H
 have A3 := Aside0.mk A30
 clear A30
 obtain rfl := Option.some.inj H
 go_enter Tryz.func71, Tryz.ntmps71
 try go_wp2_with (first | ((with_reducible refine gate_dst (N := 2) rfl ?_); refine box_event ?hg (N := 2) ?hd (cs := #[.int .i64 a0_0, .int .i64 a0_1, .int .i64 a0_2]) (t := 65) ?hr ?_; (case hd => rfl); (case hg => rfl); (case hr => first | (go_simp; done) | (go_simp; rfl)); intro gb291 hg w4 hbox hb; have n0_ := Aside0.mk (below_step (qw HB) hb); have n1_ := Aside0.mk (hbox); have n2_ := Aside0.mk ((by rw [hg]; exact (below_size (qw HB)) : w.heap.size ≤ gb291)); have n3_ := Aside0.mk ((by rw [hg]; exact (below_size (qw HB)) : w.heap.size ≤ gb291)); clear HB; have HB := n0_; have BK291 := n1_; have GW291 := n2_; have GE291 := n3_; clear n0_ n1_ n2_ n3_; clear hb hbox hg))
 have n0_ := Aside0.mk (blk_drew BK291.out)
 have n1_ := Aside0.mk (below_drew1 HB.out)
 clear BK291
 clear HB
 have BK291 := n0_
 have HB := n1_
 clear n0_ n1_
 refine start_ (n := 10) (S := fun w' => w'.cell? ⟨gb291, 0, none⟩ = some (.int .i64 a0_0) ∧ w'.cell? ⟨gb291, 1, none⟩ = some (.int .i64 a0_1) ∧ w'.cell? ⟨gb291, 2, none⟩ = some (.int .i64 a0_2)) (ds := []) #[false, false, false, false, false, false, false, false, false, false] (by kernel_rfl) rfl rfl ⟨bc BK291 0, bc BK291 1, bc BK291 2⟩ (fun hHeld => ?_); refine with_tabW impl_Clue_fits.tab1 impl_Clue_fits.bits1 (fun HT_ HW_ => ?_)
 generalize w4.drew = w5 at BK291 HB hHeld ⊢
 refine pure_ (i := 0) (N := some 5) (v := ?_) (a' := ?_) #[true, false, false, false, false, false, false, false, false, false] rfl rfl (any_of HT_.out (by kernel_rfl)) (fun _ _ _ h => h) (Or.inl ⟨by rfl, ?_⟩) ?_ ?_
 rotate_left
 ·
  intro w'
  go_simp
  with_reducible rfl
 rotate_left
 ·
  simp only [Act.put, List.setIfInBounds_toArray, List.set_cons_zero, List.set_cons_succ, i64_w, i32_w]
  rfl
 refine pure_ (i := 2) (N := some 7) (v := ?_) (a' := ?_) #[true, false, true, false, false, false, false, false, false, false] rfl rfl (any_of HT_.out (by kernel_rfl)) (fun _ _ _ h => h) (Or.inl ⟨by rfl, ?_⟩) ?_ ?_
 rotate_left
 ·
  intro w'
  go_simp
  with_reducible rfl
 rotate_left
 ·
  simp only [Act.put, List.setIfInBounds_toArray, List.set_cons_zero, List.set_cons_succ, i64_w, i32_w]
  rfl
 refine pure_ (i := 4) (N := some 9) (v := ?_) (a' := ?_) #[true, false, true, false, true, false, false, false, false, false] rfl rfl (any_of HT_.out (by kernel_rfl)) (fun _ _ _ h => h) (Or.inl ⟨by rfl, ?_⟩) ?_ ?_
 rotate_left
 ·
  intro w'
  go_simp
  with_reducible rfl
 rotate_left
 ·
  simp only [Act.put, List.setIfInBounds_toArray, List.set_cons_zero, List.set_cons_succ, i64_w, i32_w]
  rfl
 refine pure_ (i := 6) (N := some 11) (v := ?_) (a' := ?_) #[true, false, true, false, true, false, true, false, false, false] rfl rfl (any_of HT_.out (by kernel_rfl)) (fun _ _ _ h => h) (Or.inl ⟨by rfl, ?_⟩) ?_ ?_
 rotate_left
 ·
  intro w'
  go_simp
  with_reducible rfl
 rotate_left
 ·
  simp only [Act.put, List.setIfInBounds_toArray, List.set_cons_zero, List.set_cons_succ, i64_w, i32_w]
  rfl
 refine take_ (i := 1) (N := some 6) (v := ?_) (a' := ?_) #[true, true, true, false, true, false, true, false, false, false] rfl rfl (take_ofW HT_.out HW_.out (by kernel_rfl)) (fun _ _ _ h => h) (Or.inl ⟨by rfl, ?_⟩) hHeld ?_ ?_
 rotate_left
 ·
  rintro w' ⟨s0, s1, s2⟩
  go_simp
  with_reducible rfl
 rotate_left
 ·
  simp only [Act.put, List.setIfInBounds_toArray, List.set_cons_zero, List.set_cons_succ, i64_w, i32_w]
  rfl
 refine take_ (i := 3) (N := some 8) (v := ?_) (a' := ?_) #[true, true, true, true, true, false, true, false, false, false] rfl rfl (take_ofW HT_.out HW_.out (by kernel_rfl)) (fun _ _ _ h => h) (Or.inl ⟨by rfl, ?_⟩) hHeld ?_ ?_
 rotate_left
 ·
  rintro w' ⟨s0, s1, s2⟩
  go_simp
  with_reducible rfl
 rotate_left
 ·
  simp only [Act.put, List.setIfInBounds_toArray, List.set_cons_zero, List.set_cons_succ, i64_w, i32_w]
  rfl
 refine take_ (i := 7) (N := some 12) (v := ?_) (a' := ?_) #[true, true, true, true, true, false, true, true, false, false] rfl rfl (take_ofW HT_.out HW_.out (by kernel_rfl)) (fun _ _ _ h => h) (Or.inl ⟨by rfl, ?_⟩) hHeld ?_ ?_
 rotate_left
 ·
  rintro w' ⟨s0, s1, s2⟩
  go_simp
  with_reducible rfl
 rotate_left
 ·
  simp only [Act.put, List.setIfInBounds_toArray, List.set_cons_zero, List.set_cons_succ, i64_w, i32_w]
  rfl
 refine one_ (i := 5) (N := some 10) #[true, true, true, true, true, true, true, true, false, false] rfl rfl (one_of HT_.out (by kernel_rfl)) (by decide) (fun K hK => ?_)
 refine goes_ Tryz.func80 (by kernel_rfl) rfl #[.int .i64 a0_0, .int .i64 a0_1, .string a1] (by rfl) rfl rfl (by (try simp only [List.map_toArray, List.map_cons, List.map_nil]); first | done | rfl | (simp only [List.length_drop, List.length_take]; rfl)) ?_
 with_reducible refine (impl_truth.calls k a0_0 a0_1 a1 t292 _ A3.out).mono ?_
 rintro e w6 ⟨rfl, hb⟩
 refine ⟨_, rfl, ?_⟩
 have n0_ := qbb BK291 hb
 have n1_ := Aside0.mk (below_step (qw HB) hb)
 clear BK291
 clear HB
 have BK291 := n0_
 have HB := n1_
 clear n0_ n1_
 (try clear hb)
 (try clear hb2)
 (try clear hk)
 (try clear hi)
 refine hK.out _ _ ⟨bc BK291 0, bc BK291 1, bc BK291 2⟩ (fun hHeld => ?_)
 clear hK K
 refine norm_ (a' := ?_) ?_ ?_
 rotate_left
 ·
  show Act.put _ (some 10) _ = _
  simp only [Act.put, List.setIfInBounds_toArray, List.set_cons_zero, List.set_cons_succ, i64_w, i32_w]
  rfl
 refine pure_ (i := 8) (N := some 13) (v := ?_) (a' := ?_) #[true, true, true, true, true, true, true, true, true, false] rfl rfl (any_of HT_.out (by kernel_rfl)) (fun _ _ _ h => h) (Or.inl ⟨by rfl, ?_⟩) ?_ ?_
 rotate_left
 ·
  intro w'
  go_simp
  with_reducible rfl
 rotate_left
 ·
  simp only [Act.put, List.setIfInBounds_toArray, List.set_cons_zero, List.set_cons_succ, i64_w, i32_w]
  rfl
 refine pure_ (i := 9) (N := some 4) (v := ?_) (a' := ?_) #[true, true, true, true, true, true, true, true, true, true] rfl rfl (any_of HT_.out (by kernel_rfl)) (fun _ _ _ h => h) (Or.inl ⟨by rfl, ?_⟩) ?_ ?_
 rotate_left
 ·
  intro w'
  go_simp
  with_reducible rfl
 rotate_left
 ·
  simp only [Act.put, List.setIfInBounds_toArray, List.set_cons_zero, List.set_cons_succ, i64_w, i32_w]
  rfl
 refine done_ (done_of HT_.out (by kernel_rfl)) ?_
 try go_wp2
 go_ret
 exact ⟨by first | rfl | (simp [errW_none, errW_some] <;> rfl) | (simp [*, errW_none, errW_some] <;> rfl), qw HB⟩


/-! ### impl_fitting_1_1: function 70 -/
set_option maxHeartbeats 2000000 in
/-- the inner closure of fitting: the number lies in block B -/
theorem impl_fitting_1_1.calls (k : Nat) (B : Nat) (x : S65) (num : ByteArray) (b : Bool) (W : World) (hB : B < W.heap.size) (h0 : W.cell? ⟨B, 0, none⟩ = some (.string num)) (hg : Glob W)
    (h : impl_Clue_fits.f k x.f0 x.f1 x.f2 num = some (!b)) :
    Calls Tryz.prog 70 #[.agg #[.int .i64 x.f0, .int .i64 x.f1, .int .i64 x.f2], .pointer (some ⟨B, 0, none⟩)] W fun e w' => e = .returned (.bool b) ∧ Below W.heap.size W w' := by
  have hcall := fun w hw => impl_Clue_fits.calls k x.f0 x.f1 x.f2 num (!b) w h hw
  clear h
  have HG := Aside0.mk hg
  clear hg
  obtain ⟨x0, x1, x2⟩ := x
  go_enter Tryz.func70, Tryz.ntmps70
  go_wp2_with fail
  refine (hcall _ (Glob.below HG.out ((Below.refl _ W).alloc (Nat.le_refl _) _))).mono ?_
  rintro e w' ⟨rfl, hb⟩
  go_wp2
  go_ret
  exact ⟨by simp, ((Below.refl _ W).alloc (Nat.le_refl _) _).trans (hb.mono (by simp))⟩


/-! ### impl_fitting_1: function 69 -/
set_option maxHeartbeats 2000000 in
/-- the closure of fitting: the clues' slice lies in block B -/
theorem impl_fitting_1.calls (k : Nat) (B : Nat) (A : Option Addr) (c : Nat) (l : List S65) (num : ByteArray) (b : Bool) (W : World) (h0 : W.cell? ⟨B, 0, none⟩ = some (.slice A l.length c))
    (hr : Kd.C k65 W A l.length l) (hc : l.length ≤ c) (hbig : l.length ≤ 1048576) (hg : Glob W)
    (h : anyO (fun x => (impl_Clue_fits.f k x.f0 x.f1 x.f2 num).map (!·)) l = some (!b)) :
    Calls Tryz.prog 69 (#[.string num] ++ #[.pointer (some ⟨B, 0, none⟩)]) W fun e w' => e = .returned (.bool b) ∧ Below W.heap.size W w' := by
  have hb0 : Below W.heap.size W (W.alloc (.cells #[.string num] 9)) := (Below.refl _ W).alloc (Nat.le_refl _) _
  have hany := any_clue A c l 70 #[.pointer (some ⟨W.heap.size, 0, none⟩)] _ (W.alloc (.cells #[.string num] 9)) (!b)
    (Kd.C_below hr hb0) hc (by omega) (enters_of Tryz.func70 (by kernel_rfl) rfl)
    (fun V x b' hV hx => impl_fitting_1_1.calls k W.heap.size x num b' V (by have := hV.size; simp at this; omega) ((hV.cell (p := ⟨W.heap.size, 0, none⟩) (by simp)).trans (by simp)) ((hg.below hb0).below hV) (by obtain ⟨y, hy, hz⟩ := Option.map_eq_some_iff.mp hx; rw [hy, ← hz]; simp)) h
  have h1 : (W.alloc (.cells #[.string num] 9)).cell? ⟨B, 0, none⟩ = some (.slice A l.length c) := (hb0.cell (World.block_lt_of_cell? W _ h0)).trans h0
  clear h hr hg h0
  go_enter Tryz.func69, Tryz.ntmps69
  go_wp2_with fail
  refine hany.mono ?_
  rintro e w' ⟨rfl, hb⟩
  clear hany
  go_wp2
  go_ret
  exact ⟨by simp, hb0.trans (hb.mono hb0.size)⟩


/-! ### impl_fitting: function 48 -/
/-- those of which a function says yes -/
def filterO (pf : ByteArray → Option Bool) : List ByteArray → Option (List ByteArray)
  | [] => some []
  | x :: xs => (pf x).bind fun b => (filterO pf xs).bind fun r => some (if b = true then x :: r else r)
theorem filterO_spec (pf : ByteArray → Option Bool) : ∀ (l r : List ByteArray), filterO pf l = some r → (∀ x ∈ l, pf x = some ((pf x).getD false)) ∧ r = l.filter fun x => (pf x).getD false
  | [], r, h => by simp [filterO] at h; subst h; simp
  | x :: xs, r, h => by
    simp only [filterO] at h
    obtain ⟨b, hb, h⟩ := Option.bind_eq_some_iff.mp h
    obtain ⟨s, hs, h⟩ := Option.bind_eq_some_iff.mp h
    obtain ⟨h1, h2⟩ := filterO_spec pf xs s hs
    have e := Option.some.inj h
    refine ⟨?_, ?_⟩
    · intro y hy
      rcases List.mem_cons.mp hy with rfl | hy
      · rw [hb]; rfl
      · exact h1 y hy
    · rw [List.filter_cons, hb, ← h2, ← e]; rfl
theorem filterO_mono (pf pg : ByteArray → Option Bool) (h : ∀ x, LeO (pf x) (pg x)) : ∀ l, LeO (filterO pf l) (filterO pg l)
  | [] => LeO.refl _
  | x :: xs => by
    simp only [filterO]
    exact LeO.bind (h x) (fun b => LeO.bind (filterO_mono pf pg h xs) (fun r => LeO.refl _))
theorem anyO_mono {α : Type} (pf pg : α → Option Bool) (h : ∀ x, LeO (pf x) (pg x)) : ∀ l, LeO (anyO pf l) (anyO pg l)
  | [] => LeO.refl _
  | x :: xs => by
    simp only [anyO]
    exact LeO.bind (h x) (fun b => LeO.ite (LeO.refl _) (anyO_mono pf pg h xs))
theorem map_mono {α β : Type} {f : α → β} {o p : Option α} (h : LeO o p) : LeO (o.map f) (p.map f) := fun r hr => by
  obtain ⟨a, ha, e⟩ := Option.map_eq_some_iff.mp hr
  rw [h a ha, ← e]; rfl
/-- do all clues fit a number -/
def fitsAllO (k : Nat) (l : List S65) (num : ByteArray) : Option Bool := (anyO (fun x => (impl_Clue_fits.f k x.f0 x.f1 x.f2 num).map (!·)) l).map (!·)
def impl_fitting.f (k : Nat) (a0 : Int) (l1 : List S65) : Option (List ByteArray) :=
  if l1.length ≤ 1048576 then (impl_allTexts.f k 10 a0).bind fun t => if t ≠ [] ∧ t.length ≤ 1048576 then filterO (fitsAllO k l1) t else none else none
theorem impl_fitting.mono : ∀ a0 l1 k, LeO (impl_fitting.f k a0 l1) (impl_fitting.f (k + 1) a0 l1) := by
  intro a0 l1 k
  unfold impl_fitting.f
  exact LeO.ite (LeO.bind (impl_allTexts.mono _ _ _) (fun t => LeO.ite (filterO_mono _ _ (fun x => map_mono (anyO_mono _ _ (fun c => map_mono (impl_Clue_fits.mono _ _ _ _ _)) _)) _) (LeO.refl _))) (LeO.refl _)
set_option maxHeartbeats 4000000 in
theorem impl_fitting.calls (k : Nat) (a0 : Int) (A1 : Option Addr) (c1 : Nat) (l1 : List S65) (r : List ByteArray) (w : World) (hr1 : Kd.C k65 w A1 l1.length l1) (hc1 : l1.length ≤ c1) (h : impl_fitting.f k a0 l1 = some r) (hglob : Glob w := by first | exact Glob.below HG.out (by repeat (first | (with_reducible first | exact HB.out | apply below_alloc | apply pw_below_drewN | apply below_drew1 | refine below_set ?_ (Aside0.out (by assumption))) | exact HB.out)) | assumption) :
    Calls Tryz.prog 48 #[.int .i64 a0, .slice A1 l1.length c1] w fun e w' => ∃ v0_ : Value, e = .returned (v0_) ∧ Kd.R Kd.string 9 w' w.heap.size (fun _ => True) v0_ r ∧ Below w.heap.size w w' := by
  unfold impl_fitting.f at h
  split at h
  · rename_i hbig
    replace h := Option.bind_eq_some_iff.mp h
    obtain ⟨t, ht, h⟩ := h
    split at h
    · rename_i hcond
      obtain ⟨hdef, e⟩ := filterO_spec _ _ _ h
      subst e
      have hb0 : Below w.heap.size w (w.alloc (.cells #[.slice A1 l1.length c1] 28)) := (Below.refl _ w).alloc (Nat.le_refl _) _
      have hcell0 : (w.alloc (.cells #[.slice A1 l1.length c1] 28)).cell? ⟨w.heap.size, 0, none⟩ = some (.slice A1 l1.length c1) := by simp
      have hl0 : w.heap.size < (w.alloc (.cells #[.slice A1 l1.length c1] 28)).heap.size := by simp
      have hall := impl_allTexts.calls k 10 a0 t (w.alloc (.cells #[.slice A1 l1.length c1] 28)) ht
      have hpick : ∀ (w2 : World) (A2 : Option Addr) (c2 : Nat), Below (w.alloc (.cells #[.slice A1 l1.length c1] 28)).heap.size (w.alloc (.cells #[.slice A1 l1.length c1] 28)) w2 → Kd.C Kd.string w2 A2 t.length t → t.length ≤ c2 → _ := fun w2 A2 c2 hb2 hC2 hc2 =>
        picked_any A2 c2 t 69 #[.pointer (some ⟨w.heap.size, 0, none⟩)] (fitsAllO k l1) (fun x => (fitsAllO k l1 x).getD false) w2 hC2 hc2 hcond.1 hcond.2 (enters_of Tryz.func69 (by kernel_rfl) rfl) hdef
          (fun W x b hW hx => by
            obtain ⟨y, hy, hz⟩ := Option.map_eq_some_iff.mp hx
            have hbW : Below w.heap.size w W := hb0.trans ((hb2.trans (hW.mono hb2.size)).mono hb0.size)
            exact impl_fitting_1.calls k w.heap.size A1 c1 l1 x b W ((hW.cell (p := ⟨w.heap.size, 0, none⟩) (Nat.lt_of_lt_of_le hl0 hb2.size)).trans ((hb2.cell (p := ⟨w.heap.size, 0, none⟩) hl0).trans hcell0)) (Kd.C_below hr1 hbW) hc1 hbig (hglob.below hbW) (by rw [hy, ← hz]; simp))
      have HP := Aside0.mk hpick
      clear hr1 hglob h hdef ht hcell0 hpick
      go_enter Tryz.func48, Tryz.ntmps48
      go_wp2_with fail
      refine hall.mono ?_
      rintro e w2 ⟨v, rfl, hR, hb2⟩
      clear hall
      obtain ⟨A2, c2, hv, hc2, hC2⟩ := Kd.R_reads hR
      subst hv
      have hp2 := HP.out w2 A2 c2 hb2 hC2 hc2
      clear hR hC2 HP
      go_wp2_with fail
      refine hp2.mono ?_
      rintro e w3 ⟨v, rfl, hR, hb3⟩
      clear hp2
      go_wp2
      go_ret
      have hb4 := hb0.trans (hb2.mono hb0.size)
      exact ⟨_, rfl, Kd.R_lower hR hb4.size, hb4.trans (hb3.mono hb4.size)⟩
    · exact absurd h (by simp)
  · exact absurd h (by simp)

end Go.Proofs.YtbgkaabbpdhhlaaGreatDoor.PA
