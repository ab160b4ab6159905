-- printed by xprint.py: the kit's print.py with given contracts
import Derived.Test.YtepkhpnoibillaaDoorPAx0
import Derived.Test.YtepkhpnoibillaaDoorPAx2
import Derived.Test.YtepkhpnoibillaaDoorPAx3
import Derived.Test.YtepkhpnoibillaaDoorPAx4
namespace Go.Proofs.YtepkhpnoibillaaDoor.PA
open Go.RowKit Go.Proofs.YtepkhpnoibillaaDoorW.PrintWords Go.Proofs.YtepkhpnoibillaaDoorW.PrintLast Go.Proofs.YtepkhpnoibillaaDoorW.PrintMore
attribute [local go_sem] max2_int min2_int max_two min_two max_three min_three max_four min_four   -- for this text's walks alone
set_option linter.unusedVariables false
set_option linter.unusedSimpArgs false

/-! ### spec_SwapRepairs: function 19 -/
def spec_SwapRepairs.l0 : Nat → ByteArray → List ByteArray → Int → Int → List Int → Option (List ByteArray × Bool)
  | 0, _, _, _, _, _ => none
  | k + 1, x1, x6, x7, x278000, x278001 => if x7 < (x278001.length : Int) then (if 0 ≤ (wrap64 (x7 - 1)) then (if (wrap64 (x7 - 1)) < (x1.size : Int) then (if 0 ≤ x7 then (if x7 < (x1.size : Int) then (if (bt x1 (wrap64 (x7 - 1))) = (bt x1 x7) then (spec_SwapRepairs.l0 k x1 x6 (wrap64 (x7 + 1)) x278000 x278001) else (if (wrap64 (x7 - 1)) ≤ (x1.size : Int) then (if x7 ≤ (wrap64 (x7 + 1)) then (if (wrap64 (x7 + 1)) ≤ (x1.size : Int) then (if (x1.extract 0 ((wrap64 (x7 - 1)) : Int).toNat).size + (x1.extract (x7 : Int).toNat ((wrap64 (x7 + 1)) : Int).toNat).size ≤ 9223372036854775807 then (if (wrap64 (x7 - 1)) ≤ x7 then (if x7 ≤ (x1.size : Int) then (if ((x1.extract 0 ((wrap64 (x7 - 1)) : Int).toNat) ++ (x1.extract (x7 : Int).toNat ((wrap64 (x7 + 1)) : Int).toNat)).size + (x1.extract ((wrap64 (x7 - 1)) : Int).toNat (x7 : Int).toNat).size ≤ 9223372036854775807 then (if 0 ≤ (wrap64 (x7 + 1)) then (if (((x1.extract 0 ((wrap64 (x7 - 1)) : Int).toNat) ++ (x1.extract (x7 : Int).toNat ((wrap64 (x7 + 1)) : Int).toNat)) ++ (x1.extract ((wrap64 (x7 - 1)) : Int).toNat (x7 : Int).toNat)).size + (x1.extract ((wrap64 (x7 + 1)) : Int).toNat x1.size).size ≤ 9223372036854775807 then ((spec_ckRight.f k x278000 x278001 ((((x1.extract 0 ((wrap64 (x7 - 1)) : Int).toNat) ++ (x1.extract (x7 : Int).toNat ((wrap64 (x7 + 1)) : Int).toNat)) ++ (x1.extract ((wrap64 (x7 - 1)) : Int).toNat (x7 : Int).toNat)) ++ (x1.extract ((wrap64 (x7 + 1)) : Int).toNat x1.size))).bind fun t279 => (if t279 = true then ((spec_ckPut.f k x6 ((((x1.extract 0 ((wrap64 (x7 - 1)) : Int).toNat) ++ (x1.extract (x7 : Int).toNat ((wrap64 (x7 + 1)) : Int).toNat)) ++ (x1.extract ((wrap64 (x7 - 1)) : Int).toNat (x7 : Int).toNat)) ++ (x1.extract ((wrap64 (x7 + 1)) : Int).toNat x1.size))).bind fun t280 => (spec_SwapRepairs.l0 k x1 t280 (wrap64 (x7 + 1)) x278000 x278001)) else (spec_SwapRepairs.l0 k x1 x6 (wrap64 (x7 + 1)) x278000 x278001))) else (none)) else (none)) else (none)) else (none)) else (none)) else (none)) else (none)) else (none)) else (none))) else (none)) else (none)) else (none)) else (none)) else (some (x6, true))
def spec_SwapRepairs.f (k : Nat) (a0_0 : Int) (l0_1 : List Int) (a1 : ByteArray) : Option (List ByteArray × Bool) := (spec_ckNumber.f k a0_0 l0_1 a1).bind fun t278 => (if t278 = true then (spec_SwapRepairs.l0 k a1 ([] : List ByteArray) 1 a0_0 l0_1) else (some (([] : List ByteArray), false)))
theorem spec_SwapRepairs.mono_l : ∀ k, (∀ y0 y1 y2 y3 y4, LeO (spec_SwapRepairs.l0 k y0 y1 y2 y3 y4) (spec_SwapRepairs.l0 (k + 1) y0 y1 y2 y3 y4))
  | 0 => fun _ _ _ _ _ r h => by simp [spec_SwapRepairs.l0] at h
  | k + 1 => by
    have ih0 := spec_SwapRepairs.mono_l k
    · intro y0 y1 y2 y3 y4
      unfold spec_SwapRepairs.l0
      repeat' first
      | (with_reducible exact ih0 _ _ _ _ _)
      | (with_reducible exact spec_ckNumber.mono _ _ _ _)
      | (with_reducible exact spec_ckPut.mono _ _ _)
      | (with_reducible exact spec_ckRight.mono _ _ _ _)
      | (with_reducible exact LeO.refl _)
      | (with_reducible exact LeO.none _)
      | (with_reducible refine LeO.ite ?_ ?_)
      | (with_reducible refine LeO.bind ?_ (fun _ => ?_))
      | exact ih0 _ _ _ _ _
      | exact spec_ckNumber.mono _ _ _ _
      | exact spec_ckPut.mono _ _ _
      | exact spec_ckRight.mono _ _ _ _
      | exact LeO.none _
      | refine LeO.ite ?_ ?_
      | refine LeO.bind ?_ (fun _ => ?_)
theorem spec_SwapRepairs.mono : ∀ a0 a1 a2 k, LeO (spec_SwapRepairs.f k a0 a1 a2) (spec_SwapRepairs.f (k + 1) a0 a1 a2) := by
  intro a0 a1 a2 k
  have ih0 := spec_SwapRepairs.mono_l k
  unfold spec_SwapRepairs.f
  repeat' first
      | (with_reducible exact ih0 _ _ _ _ _)
      | (with_reducible exact spec_ckNumber.mono _ _ _ _)
      | (with_reducible exact spec_ckPut.mono _ _ _)
      | (with_reducible exact spec_ckRight.mono _ _ _ _)
      | (with_reducible exact LeO.refl _)
      | (with_reducible exact LeO.none _)
      | (with_reducible refine LeO.ite ?_ ?_)
      | (with_reducible refine LeO.bind ?_ (fun _ => ?_))
      | exact ih0 _ _ _ _ _
      | exact spec_ckNumber.mono _ _ _ _
      | exact spec_ckPut.mono _ _ _
      | exact spec_ckRight.mono _ _ _ _
      | exact LeO.none _
      | refine LeO.ite ?_ ?_
      | refine LeO.bind ?_ (fun _ => ?_)
set_option maxHeartbeats 8000000 in
set_option maxRecDepth 100000 in
theorem spec_SwapRepairs.calls (k : Nat) (a0_0 : Int) (A0_1 : Option Addr) (c0_1 : Nat) (l0_1 : List Int) (a1 : ByteArray) (r1 : List ByteArray) (r2 : Bool) (w : World) (hr0_1 : Kd.C (Kd.int .i64) w A0_1 l0_1.length l0_1) (hc0_1 : l0_1.length ≤ c0_1) (h : spec_SwapRepairs.f k a0_0 l0_1 a1 = some (r1, r2)) :
    Calls Tryd.prog 19 #[.agg #[.int .i64 a0_0, .slice A0_1 l0_1.length c0_1], .string a1] w fun e w' => ∃ v0_ : Value, e = .returned (.tuple #[v0_, .bool r2]) ∧ Kd.R Kd.string 9 w' w.heap.size (fun _ => True) v0_ r1 ∧ Below w.heap.size w w' := by
  have hu28 := Tryd.underlying28
  have HR0_1 := Aside0.mk hr0_1
  have HC0_1 := Aside0.mk hc0_1
  clear hr0_1 hc0_1
  have HB := Aside0.mk (Below.refl w.heap.size w)
  have H : ((spec_ckNumber.f k a0_0 l0_1 a1).bind fun t278 => (if t278 = true then (spec_SwapRepairs.l0 k a1 ([] : List ByteArray) 1 a0_0 l0_1) else (some (([] : List ByteArray), false)))) = some (r1, r2) := h
  clear h
  replace H := Option.bind_eq_some_iff.mp H
  obtain ⟨t278, A30, H⟩ := H
  replace H : (if t278 = true then (spec_SwapRepairs.l0 k a1 ([] : List ByteArray) 1 a0_0 l0_1) else (some (([] : List ByteArray), false))) = some (r1, r2) := H
  have A3 := Aside0.mk A30
  clear A30
  by_cases c4 : t278 = true
  · subst c4
    have H1 : (spec_SwapRepairs.l0 k a1 ([] : List ByteArray) 1 a0_0 l0_1) = some (r1, r2) := by rw [if_pos rfl] at H; exact H
    clear H
    have H := H1
    clear H1
    have H' := Aside0.mk H
    clear H
    go_enter Tryd.func19, Tryd.ntmps19
    go_wp2_with (first | ((with_reducible refine gate_dst (N := 2) rfl ?_); refine box_event ?hg (N := 2) ?hd (cs := #[.int .i64 a0_0, .slice A0_1 l0_1.length c0_1]) (t := 28) ?hr ?_; (case hd => rfl); (case hg => rfl); (case hr => first | (go_simp; done) | (go_simp; rfl)); intro gb277 hg w5 hbox hb; have n0_ := Aside0.mk (below_step (by repeat (first | (with_reducible first | exact HB.out | apply below_alloc | apply pw_below_drewN | apply below_drew1) | exact HB.out)) hb); have n1_ := Aside0.mk (hbox); have n2_ := Aside0.mk ((by rw [hg]; exact (below_size (by repeat (first | (with_reducible first | exact HB.out | apply below_alloc | apply pw_below_drewN | apply below_drew1) | exact HB.out))) : w.heap.size ≤ gb277)); have n3_ := Aside0.mk ((by rw [hg]; exact (below_size (by repeat (first | (with_reducible first | exact HB.out | apply below_alloc | apply pw_below_drewN | apply below_drew1) | exact HB.out))) : w.heap.size ≤ gb277)); clear HB; have HB := n0_; have BK277 := n1_; have GW277 := n2_; have GE277 := n3_; clear n0_ n1_ n2_ n3_; clear hb hbox hg; have hcz6_0 : w5.cell? ⟨gb277, 0, none⟩ = some (.int .i64 a0_0) := (blk_cell BK277.out 0).trans rfl; have hcz6_1 : w5.cell? ⟨gb277, 1, none⟩ = some (.slice A0_1 l0_1.length c0_1) := (blk_cell BK277.out 1).trans rfl; have hfz6_0 := blk_frozen BK277.out 0; have hfz6_1 := blk_frozen BK277.out 1) | (go_at_call 27; (with_reducible refine (spec_ckNumber.calls k a0_0 _ _ l0_1 a1 true _ ?side1 ?side2 A3.out).mono ?_); (case side1 => repeat (first | exact (Kd.C_below HR0_1.out HB.out) | (with_reducible refine Kd.C_alloc ?_ _) | (with_reducible refine Kd.C_drewN ?_ _) | (with_reducible refine Kd.C_drew ?_))); (case side2 => exact HC0_1.out); rintro e w7 ⟨rfl, hb⟩; have n0_ := Aside0.mk (blk_below (g := gb277) (o := .cells #[.int .i64 a0_0, .slice A0_1 l0_1.length c0_1] 28 (0, 0)) (by (with_reducible repeat (first | refine blk_drewN ?_ _ | refine blk_drew ?_ | refine blk_alloc ?_ _)); exact BK277.out) hb); have n1_ := Aside0.mk (below_step (by repeat (first | (with_reducible first | exact HB.out | apply below_alloc | apply pw_below_drewN | apply below_drew1 | refine below_set ?_ GE277.out) | exact HB.out)) hb); clear BK277; clear HB; have BK277 := n0_; have HB := n1_; clear n0_ n1_; (try clear hb); (try clear hb2); (try clear hk); (try clear hi)))
    repeat (go_quiet (first | ((with_reducible refine gate_dst (N := 2) rfl ?_); refine box_event ?hg (N := 2) ?hd (cs := #[.int .i64 a0_0, .slice A0_1 l0_1.length c0_1]) (t := 28) ?hr ?_; (case hd => rfl); (case hg => rfl); (case hr => first | (go_simp; done) | (go_simp; rfl)); intro gb277 hg w5 hbox hb; have n0_ := Aside0.mk (below_step (by repeat (first | (with_reducible first | exact HB.out | apply below_alloc | apply pw_below_drewN | apply below_drew1) | exact HB.out)) hb); have n1_ := Aside0.mk (hbox); have n2_ := Aside0.mk ((by rw [hg]; exact (below_size (by repeat (first | (with_reducible first | exact HB.out | apply below_alloc | apply pw_below_drewN | apply below_drew1) | exact HB.out))) : w.heap.size ≤ gb277)); have n3_ := Aside0.mk ((by rw [hg]; exact (below_size (by repeat (first | (with_reducible first | exact HB.out | apply below_alloc | apply pw_below_drewN | apply below_drew1) | exact HB.out))) : w.heap.size ≤ gb277)); clear HB; have HB := n0_; have BK277 := n1_; have GW277 := n2_; have GE277 := n3_; clear n0_ n1_ n2_ n3_; clear hb hbox hg; have hcz6_0 : w5.cell? ⟨gb277, 0, none⟩ = some (.int .i64 a0_0) := (blk_cell BK277.out 0).trans rfl; have hcz6_1 : w5.cell? ⟨gb277, 1, none⟩ = some (.slice A0_1 l0_1.length c0_1) := (blk_cell BK277.out 1).trans rfl; have hfz6_0 := blk_frozen BK277.out 0; have hfz6_1 := blk_frozen BK277.out 1) | (go_at_call 27; (with_reducible refine (spec_ckNumber.calls k a0_0 _ _ l0_1 a1 true _ ?side1 ?side2 A3.out).mono ?_); (case side1 => repeat (first | exact (Kd.C_below HR0_1.out HB.out) | (with_reducible refine Kd.C_alloc ?_ _) | (with_reducible refine Kd.C_drewN ?_ _) | (with_reducible refine Kd.C_drew ?_))); (case side2 => exact HC0_1.out); rintro e w7 ⟨rfl, hb⟩; have n0_ := Aside0.mk (blk_below (g := gb277) (o := .cells #[.int .i64 a0_0, .slice A0_1 l0_1.length c0_1] 28 (0, 0)) (by (with_reducible repeat (first | refine blk_drewN ?_ _ | refine blk_drew ?_ | refine blk_alloc ?_ _)); exact BK277.out) hb); have n1_ := Aside0.mk (below_step (by repeat (first | (with_reducible first | exact HB.out | apply below_alloc | apply pw_below_drewN | apply below_drew1 | refine below_set ?_ GE277.out) | exact HB.out)) hb); clear BK277; clear HB; have BK277 := n0_; have HB := n1_; clear n0_ n1_; (try clear hb); (try clear hb2); (try clear hk); (try clear hi))); try go_wp2_with (first | ((with_reducible refine gate_dst (N := 2) rfl ?_); refine box_event ?hg (N := 2) ?hd (cs := #[.int .i64 a0_0, .slice A0_1 l0_1.length c0_1]) (t := 28) ?hr ?_; (case hd => rfl); (case hg => rfl); (case hr => first | (go_simp; done) | (go_simp; rfl)); intro gb277 hg w5 hbox hb; have n0_ := Aside0.mk (below_step (by repeat (first | (with_reducible first | exact HB.out | apply below_alloc | apply pw_below_drewN | apply below_drew1) | exact HB.out)) hb); have n1_ := Aside0.mk (hbox); have n2_ := Aside0.mk ((by rw [hg]; exact (below_size (by repeat (first | (with_reducible first | exact HB.out | apply below_alloc | apply pw_below_drewN | apply below_drew1) | exact HB.out))) : w.heap.size ≤ gb277)); have n3_ := Aside0.mk ((by rw [hg]; exact (below_size (by repeat (first | (with_reducible first | exact HB.out | apply below_alloc | apply pw_below_drewN | apply below_drew1) | exact HB.out))) : w.heap.size ≤ gb277)); clear HB; have HB := n0_; have BK277 := n1_; have GW277 := n2_; have GE277 := n3_; clear n0_ n1_ n2_ n3_; clear hb hbox hg; have hcz6_0 : w5.cell? ⟨gb277, 0, none⟩ = some (.int .i64 a0_0) := (blk_cell BK277.out 0).trans rfl; have hcz6_1 : w5.cell? ⟨gb277, 1, none⟩ = some (.slice A0_1 l0_1.length c0_1) := (blk_cell BK277.out 1).trans rfl; have hfz6_0 := blk_frozen BK277.out 0; have hfz6_1 := blk_frozen BK277.out 1) | (go_at_call 27; (with_reducible refine (spec_ckNumber.calls k a0_0 _ _ l0_1 a1 true _ ?side1 ?side2 A3.out).mono ?_); (case side1 => repeat (first | exact (Kd.C_below HR0_1.out HB.out) | (with_reducible refine Kd.C_alloc ?_ _) | (with_reducible refine Kd.C_drewN ?_ _) | (with_reducible refine Kd.C_drew ?_))); (case side2 => exact HC0_1.out); rintro e w7 ⟨rfl, hb⟩; have n0_ := Aside0.mk (blk_below (g := gb277) (o := .cells #[.int .i64 a0_0, .slice A0_1 l0_1.length c0_1] 28 (0, 0)) (by (with_reducible repeat (first | refine blk_drewN ?_ _ | refine blk_drew ?_ | refine blk_alloc ?_ _)); exact BK277.out) hb); have n1_ := Aside0.mk (below_step (by repeat (first | (with_reducible first | exact HB.out | apply below_alloc | apply pw_below_drewN | apply below_drew1 | refine below_set ?_ GE277.out) | exact HB.out)) hb); clear BK277; clear HB; have BK277 := n0_; have HB := n1_; clear n0_ n1_; (try clear hb); (try clear hb2); (try clear hk); (try clear hi))))
    go_loopg [6, 7] k (fun kq v6 v7 w' => ∃ (x6_1 : List ByteArray) (x7_1 : Int), v7 = .int .i64 x7_1 ∧ Aside0 (spec_SwapRepairs.l0 kq a1 x6_1 x7_1 a0_0 l0_1 = some (r1, r2)) ∧ Aside0 (kq ≤ k) ∧ Aside0 (Kd.R Kd.string 9 w' w.heap.size (fun _ => True) v6 x6_1) ∧ Aside0 (w'.heap[gb277]? = some (.cells #[.int .i64 a0_0, (.slice A0_1 l0_1.length c0_1)] 28 (0, 0))) ∧ Aside0 (Below w.heap.size w w'))
    case atStart => exact ⟨(([] : List ByteArray)), (1), (by first | rfl | (simp; done) | (simp [*]; done) | (simp [isEmpty_bne]; done) | (simp [i64_w]; done) | (simp only [i64_w]; done)), H', ⟨Nat.le_refl _⟩, ⟨by first | exact Kd.R_nil _ _ _ _ _ | exact Kd.N_nil _ _ _ _ _ | exact Kd.V_nil _ _ _ _ _ | exact Kd.Q_nil _ _ _ _ _ | exact Kd.S_nil _ _ _ _ _⟩, ⟨by (with_reducible repeat (first | refine blk_drewN ?_ _ | refine blk_drew ?_ | refine blk_alloc ?_ _)); exact BK277.out⟩, ⟨by repeat (first | (with_reducible first | exact HB.out | apply below_alloc | apply pw_below_drewN | apply below_drew1 | refine below_set ?_ GE277.out) | exact HB.out)⟩⟩
    case round =>
      clear H'
      try clear c1
      try clear p2
      try clear c4
      try clear hcz6_0
      try clear hcz6_1
      try clear hfz6_0
      try clear hfz6_1
      obtain ⟨x6_1, x7_1, rfl, HA, HK1, HO_6, BK277, HB⟩ := hrel
      cases gk with
      | zero => exact absurd HA.out (by simp [spec_SwapRepairs.l0])
      | succ k1 =>
        have H := HA.out
        clear HA
        simp only [spec_SwapRepairs.l0] at H
        by_cases c8 : x7_1 < (l0_1.length : Int)
        · rw [if_pos c8] at H
          have c8b0 : decide (x7_1 < (l0_1.length : Int)) = true := decide_eq_true c8
          clear c8
          obtain ⟨ji9, hji9⟩ : ∃ j_ : Int, (wrap64 (x7_1 - 1)) = j_ := ⟨_, rfl⟩
          replace H : (if 0 ≤ (ji9) then (if (ji9) < (a1.size : Int) then (if 0 ≤ x7_1 then (if x7_1 < (a1.size : Int) then (if (bt a1 (ji9)) = (bt a1 x7_1) then (spec_SwapRepairs.l0 k1 a1 x6_1 (wrap64 (x7_1 + 1)) a0_0 l0_1) else (if (ji9) ≤ (a1.size : Int) then (if x7_1 ≤ (wrap64 (x7_1 + 1)) then (if (wrap64 (x7_1 + 1)) ≤ (a1.size : Int) then (if (a1.extract 0 ((ji9) : Int).toNat).size + (a1.extract (x7_1 : Int).toNat ((wrap64 (x7_1 + 1)) : Int).toNat).size ≤ 9223372036854775807 then (if (ji9) ≤ x7_1 then (if x7_1 ≤ (a1.size : Int) then (if ((a1.extract 0 ((ji9) : Int).toNat) ++ (a1.extract (x7_1 : Int).toNat ((wrap64 (x7_1 + 1)) : Int).toNat)).size + (a1.extract ((ji9) : Int).toNat (x7_1 : Int).toNat).size ≤ 9223372036854775807 then (if 0 ≤ (wrap64 (x7_1 + 1)) then (if (((a1.extract 0 ((ji9) : Int).toNat) ++ (a1.extract (x7_1 : Int).toNat ((wrap64 (x7_1 + 1)) : Int).toNat)) ++ (a1.extract ((ji9) : Int).toNat (x7_1 : Int).toNat)).size + (a1.extract ((wrap64 (x7_1 + 1)) : Int).toNat a1.size).size ≤ 9223372036854775807 then ((spec_ckRight.f k1 a0_0 l0_1 ((((a1.extract 0 ((ji9) : Int).toNat) ++ (a1.extract (x7_1 : Int).toNat ((wrap64 (x7_1 + 1)) : Int).toNat)) ++ (a1.extract ((ji9) : Int).toNat (x7_1 : Int).toNat)) ++ (a1.extract ((wrap64 (x7_1 + 1)) : Int).toNat a1.size))).bind fun t279 => (if t279 = true then ((spec_ckPut.f k1 x6_1 ((((a1.extract 0 ((ji9) : Int).toNat) ++ (a1.extract (x7_1 : Int).toNat ((wrap64 (x7_1 + 1)) : Int).toNat)) ++ (a1.extract ((ji9) : Int).toNat (x7_1 : Int).toNat)) ++ (a1.extract ((wrap64 (x7_1 + 1)) : Int).toNat a1.size))).bind fun t280 => (spec_SwapRepairs.l0 k1 a1 t280 (wrap64 (x7_1 + 1)) a0_0 l0_1)) else (spec_SwapRepairs.l0 k1 a1 x6_1 (wrap64 (x7_1 + 1)) a0_0 l0_1))) else (none)) else (none)) else (none)) else (none)) else (none)) else (none)) else (none)) else (none)) else (none))) else (none)) else (none)) else (none)) else (none)) = some (r1, r2) := by first | (rw [hji9] at H; exact H) | (simp only [hji9] at H ⊢; exact H)
          have hji9w : (IntKind.i64.wrap (x7_1 - 1)) = ji9 := (i64_w _).trans hji9
          by_cases c10 : 0 ≤ (ji9)
          · rw [if_pos c10] at H
            have c10b0 : decide (0 ≤ (ji9)) = true := decide_eq_true c10
            clear c10
            by_cases c11 : (ji9) < (a1.size : Int)
            · rw [if_pos c11] at H
              have c11b0 : decide ((ji9) < (a1.size : Int)) = true := decide_eq_true c11
              clear c11
              by_cases c13 : 0 ≤ x7_1
              · rw [if_pos c13] at H
                have c13b0 : decide (0 ≤ x7_1) = true := decide_eq_true c13
                clear c13
                by_cases c14 : x7_1 < (a1.size : Int)
                · rw [if_pos c14] at H
                  have c14b0 : decide (x7_1 < (a1.size : Int)) = true := decide_eq_true c14
                  clear c14
                  by_cases c16 : (bt a1 (ji9)) = (bt a1 x7_1)
                  · rw [if_pos c16] at H
                    have c16b0 : ((bt a1 (ji9)) == (bt a1 x7_1)) = true := beq_iff_eq.mpr c16
                    have c16b1 : ((bt a1 (ji9)) != (bt a1 x7_1)) = false := bne_eq_false_iff_eq.mpr c16
                    clear c16
                    have H' := Aside0.mk H
                    clear H
                    have hcz17_0 : wr.cell? ⟨gb277, 0, none⟩ = some (.int .i64 a0_0) := (blk_cell BK277.out 0).trans rfl
                    have hcz17_1 : wr.cell? ⟨gb277, 1, none⟩ = some (.slice A0_1 l0_1.length c0_1) := (blk_cell BK277.out 1).trans rfl
                    have hfz17_0 := blk_frozen BK277.out 0
                    have hfz17_1 := blk_frozen BK277.out 1
                    have p12 : 0 ≤ ((ji9) : Int) := of_decide_eq_true (by first | (with_reducible assumption) | assumption)
                    have q12 : (ji9) < (a1.size : Int) := of_decide_eq_true (by first | (with_reducible assumption) | assumption)
                    have hx12 := bt_at a1 (ji9)
                    replace p12 := eq_true p12
                    replace q12 := eq_true q12
                    have p15 : 0 ≤ (x7_1 : Int) := of_decide_eq_true (by first | (with_reducible assumption) | assumption)
                    have q15 : x7_1 < (a1.size : Int) := of_decide_eq_true (by first | (with_reducible assumption) | assumption)
                    have hx15 := bt_at a1 x7_1
                    replace p15 := eq_true p15
                    replace q15 := eq_true q15
                    go_wp2
                    repeat (go_quiet (fail); try go_wp2)
                    go_roundg k1
                    case measure => have := HK1.out; omega
                    case rel => exact ⟨(x6_1), (wrap64 (x7_1 + 1)), (by first | rfl | (simp; done) | (simp [*]; done) | (simp [isEmpty_bne]; done) | (simp [i64_w]; done) | (simp only [i64_w]; done)), H', ⟨by have := HK1.out; omega⟩, ⟨by (with_reducible repeat (first | apply Kd.R_alloc | apply Kd.R_drewN | apply Kd.R_drew)); exact HO_6.out⟩, ⟨by (with_reducible repeat (first | refine blk_drewN ?_ _ | refine blk_drew ?_ | refine blk_alloc ?_ _)); exact BK277.out⟩, ⟨by repeat (first | (with_reducible first | exact HB.out | apply below_alloc | apply pw_below_drewN | apply below_drew1 | refine below_set ?_ GE277.out) | exact HB.out)⟩⟩
                  · rw [if_neg c16] at H
                    have c16b0 : ((bt a1 (ji9)) == (bt a1 x7_1)) = false := beq_eq_false_iff_ne.mpr c16
                    have c16b1 : ((bt a1 (ji9)) != (bt a1 x7_1)) = true := bne_iff_ne.mpr c16
                    have c18b0 := eq_true (of_decide_eq_true (by first | (with_reducible assumption) | assumption) : 0 ≤ (ji9))
                    by_cases c19 : (ji9) ≤ (a1.size : Int)
                    · rw [if_pos c19] at H
                      have c19b0 := eq_true c19
                      have c19b1 : decide ((ji9) ≤ (a1.size : Int)) = true := decide_eq_true c19
                      clear c19
                      have c20b0 := eq_true (of_decide_eq_true (by first | (with_reducible assumption) | assumption) : 0 ≤ x7_1)
                      by_cases c21 : x7_1 ≤ (wrap64 (x7_1 + 1))
                      · rw [if_pos c21] at H
                        have c21b0 := eq_true c21
                        have c21b1 : decide (x7_1 ≤ (wrap64 (x7_1 + 1))) = true := decide_eq_true c21
                        by_cases c22 : (wrap64 (x7_1 + 1)) ≤ (a1.size : Int)
                        · rw [if_pos c22] at H
                          have c22b0 := eq_true c22
                          have c22b1 : decide ((wrap64 (x7_1 + 1)) ≤ (a1.size : Int)) = true := decide_eq_true c22
                          by_cases c23 : (a1.extract 0 ((ji9) : Int).toNat).size + (a1.extract (x7_1 : Int).toNat ((wrap64 (x7_1 + 1)) : Int).toNat).size ≤ 9223372036854775807
                          · rw [if_pos c23] at H
                            have c23b0 := eq_true c23
                            have c23b1 : decide ((a1.extract 0 ((ji9) : Int).toNat).size + (a1.extract (x7_1 : Int).toNat ((wrap64 (x7_1 + 1)) : Int).toNat).size ≤ 9223372036854775807) = true := decide_eq_true c23
                            try have c23b2 : (9223372036854775807 < (a1.extract 0 ((ji9) : Int).toNat).size + (a1.extract (x7_1 : Int).toNat ((wrap64 (x7_1 + 1)) : Int).toNat).size) = False := eq_false (Nat.not_lt.2 c23)
                            have c24b0 := eq_true (of_decide_eq_true (by first | (with_reducible assumption) | assumption) : 0 ≤ (ji9))
                            by_cases c25 : (ji9) ≤ x7_1
                            · rw [if_pos c25] at H
                              have c25b0 := eq_true c25
                              have c25b1 : decide ((ji9) ≤ x7_1) = true := decide_eq_true c25
                              clear c25
                              by_cases c26 : x7_1 ≤ (a1.size : Int)
                              · rw [if_pos c26] at H
                                have c26b0 := eq_true c26
                                have c26b1 : decide (x7_1 ≤ (a1.size : Int)) = true := decide_eq_true c26
                                clear c26
                                by_cases c27 : ((a1.extract 0 ((ji9) : Int).toNat) ++ (a1.extract (x7_1 : Int).toNat ((wrap64 (x7_1 + 1)) : Int).toNat)).size + (a1.extract ((ji9) : Int).toNat (x7_1 : Int).toNat).size ≤ 9223372036854775807
                                · rw [if_pos c27] at H
                                  have c27b0 := eq_true c27
                                  have c27b1 : decide (((a1.extract 0 ((ji9) : Int).toNat) ++ (a1.extract (x7_1 : Int).toNat ((wrap64 (x7_1 + 1)) : Int).toNat)).size + (a1.extract ((ji9) : Int).toNat (x7_1 : Int).toNat).size ≤ 9223372036854775807) = true := decide_eq_true c27
                                  try have c27b2 : (9223372036854775807 < ((a1.extract 0 ((ji9) : Int).toNat) ++ (a1.extract (x7_1 : Int).toNat ((wrap64 (x7_1 + 1)) : Int).toNat)).size + (a1.extract ((ji9) : Int).toNat (x7_1 : Int).toNat).size) = False := eq_false (Nat.not_lt.2 c27)
                                  try have c27b3 : (9223372036854775807 < (a1.extract 0 ((ji9) : Int).toNat).size + (a1.extract (x7_1 : Int).toNat ((wrap64 (x7_1 + 1)) : Int).toNat).size + (a1.extract ((ji9) : Int).toNat (x7_1 : Int).toNat).size) = False := eq_false (Nat.not_lt.2 (by have h := c27; simp only [ByteArray.size_append] at h; exact h))
                                  obtain ⟨ji28, hji28⟩ : ∃ j_ : Int, (wrap64 (x7_1 + 1)) = j_ := ⟨_, rfl⟩
                                  replace H : (if 0 ≤ (ji28) then (if (((a1.extract 0 ((ji9) : Int).toNat) ++ (a1.extract (x7_1 : Int).toNat ((ji28) : Int).toNat)) ++ (a1.extract ((ji9) : Int).toNat (x7_1 : Int).toNat)).size + (a1.extract ((ji28) : Int).toNat a1.size).size ≤ 9223372036854775807 then ((spec_ckRight.f k1 a0_0 l0_1 ((((a1.extract 0 ((ji9) : Int).toNat) ++ (a1.extract (x7_1 : Int).toNat ((ji28) : Int).toNat)) ++ (a1.extract ((ji9) : Int).toNat (x7_1 : Int).toNat)) ++ (a1.extract ((ji28) : Int).toNat a1.size))).bind fun t279 => (if t279 = true then ((spec_ckPut.f k1 x6_1 ((((a1.extract 0 ((ji9) : Int).toNat) ++ (a1.extract (x7_1 : Int).toNat ((ji28) : Int).toNat)) ++ (a1.extract ((ji9) : Int).toNat (x7_1 : Int).toNat)) ++ (a1.extract ((ji28) : Int).toNat a1.size))).bind fun t280 => (spec_SwapRepairs.l0 k1 a1 t280 ji28 a0_0 l0_1)) else (spec_SwapRepairs.l0 k1 a1 x6_1 ji28 a0_0 l0_1))) else (none)) else (none)) = some (r1, r2) := by first | (rw [hji28] at H; exact H) | (simp only [hji28] at H ⊢; exact H)
                                  (try rw [hji28] at c21b0)
                                  (try rw [hji28] at c21b1)
                                  (try rw [hji28] at c21)
                                  (try rw [hji28] at c22b0)
                                  (try rw [hji28] at c22b1)
                                  (try rw [hji28] at c22)
                                  (try rw [hji28] at c23b0)
                                  (try rw [hji28] at c23b1)
                                  (try rw [hji28] at c23)
                                  (try rw [hji28] at c27b0)
                                  (try rw [hji28] at c27b1)
                                  (try rw [hji28] at c27)
                                  have hji28w : (IntKind.i64.wrap (x7_1 + 1)) = ji28 := (i64_w _).trans hji28
                                  by_cases c29 : 0 ≤ (ji28)
                                  · rw [if_pos c29] at H
                                    have c29b0 := eq_true c29
                                    have c29b1 : decide (0 ≤ (ji28)) = true := decide_eq_true c29
                                    clear c29
                                    have c30b0 := eq_true (of_decide_eq_true (by first | (with_reducible assumption) | assumption) : (ji28) ≤ (a1.size : Int))
                                    by_cases c31 : (((a1.extract 0 ((ji9) : Int).toNat) ++ (a1.extract (x7_1 : Int).toNat ((ji28) : Int).toNat)) ++ (a1.extract ((ji9) : Int).toNat (x7_1 : Int).toNat)).size + (a1.extract ((ji28) : Int).toNat a1.size).size ≤ 9223372036854775807
                                    · rw [if_pos c31] at H
                                      have c31b0 := eq_true c31
                                      have c31b1 : decide ((((a1.extract 0 ((ji9) : Int).toNat) ++ (a1.extract (x7_1 : Int).toNat ((ji28) : Int).toNat)) ++ (a1.extract ((ji9) : Int).toNat (x7_1 : Int).toNat)).size + (a1.extract ((ji28) : Int).toNat a1.size).size ≤ 9223372036854775807) = true := decide_eq_true c31
                                      try have c31b2 : (9223372036854775807 < (((a1.extract 0 ((ji9) : Int).toNat) ++ (a1.extract (x7_1 : Int).toNat ((ji28) : Int).toNat)) ++ (a1.extract ((ji9) : Int).toNat (x7_1 : Int).toNat)).size + (a1.extract ((ji28) : Int).toNat a1.size).size) = False := eq_false (Nat.not_lt.2 c31)
                                      try have c31b3 : (9223372036854775807 < (a1.extract 0 ((ji9) : Int).toNat).size + (a1.extract (x7_1 : Int).toNat ((ji28) : Int).toNat).size + (a1.extract ((ji9) : Int).toNat (x7_1 : Int).toNat).size + (a1.extract ((ji28) : Int).toNat a1.size).size) = False := eq_false (Nat.not_lt.2 (by have h := c31; simp only [ByteArray.size_append] at h; exact h))
                                      replace H := Option.bind_eq_some_iff.mp H
                                      obtain ⟨t279, A320, H⟩ := H
                                      replace H : (if t279 = true then ((spec_ckPut.f k1 x6_1 ((((a1.extract 0 ((ji9) : Int).toNat) ++ (a1.extract (x7_1 : Int).toNat ((ji28) : Int).toNat)) ++ (a1.extract ((ji9) : Int).toNat (x7_1 : Int).toNat)) ++ (a1.extract ((ji28) : Int).toNat a1.size))).bind fun t280 => (spec_SwapRepairs.l0 k1 a1 t280 ji28 a0_0 l0_1)) else (spec_SwapRepairs.l0 k1 a1 x6_1 ji28 a0_0 l0_1)) = some (r1, r2) := H
                                      have A32 := Aside0.mk A320
                                      clear A320
                                      by_cases c33 : t279 = true
                                      · subst c33
                                        have H1 : ((spec_ckPut.f k1 x6_1 ((((a1.extract 0 ((ji9) : Int).toNat) ++ (a1.extract (x7_1 : Int).toNat ((ji28) : Int).toNat)) ++ (a1.extract ((ji9) : Int).toNat (x7_1 : Int).toNat)) ++ (a1.extract ((ji28) : Int).toNat a1.size))).bind fun t280 => (spec_SwapRepairs.l0 k1 a1 t280 ji28 a0_0 l0_1)) = some (r1, r2) := by rw [if_pos rfl] at H; exact H
                                        clear H
                                        have H := H1
                                        clear H1
                                        replace H := Option.bind_eq_some_iff.mp H
                                        obtain ⟨t280, A340, H⟩ := H
                                        replace H : (spec_SwapRepairs.l0 k1 a1 t280 ji28 a0_0 l0_1) = some (r1, r2) := H
                                        have A34 := Aside0.mk A340
                                        clear A340
                                        have H' := Aside0.mk H
                                        clear H
                                        have hcz35_0 : wr.cell? ⟨gb277, 0, none⟩ = some (.int .i64 a0_0) := (blk_cell BK277.out 0).trans rfl
                                        have hcz35_1 : wr.cell? ⟨gb277, 1, none⟩ = some (.slice A0_1 l0_1.length c0_1) := (blk_cell BK277.out 1).trans rfl
                                        have hfz35_0 := blk_frozen BK277.out 0
                                        have hfz35_1 := blk_frozen BK277.out 1
                                        have p12 : 0 ≤ ((ji9) : Int) := of_decide_eq_true (by first | (with_reducible assumption) | assumption)
                                        have q12 : (ji9) < (a1.size : Int) := of_decide_eq_true (by first | (with_reducible assumption) | assumption)
                                        have hx12 := bt_at a1 (ji9)
                                        replace p12 := eq_true p12
                                        replace q12 := eq_true q12
                                        have p15 : 0 ≤ (x7_1 : Int) := of_decide_eq_true (by first | (with_reducible assumption) | assumption)
                                        have q15 : x7_1 < (a1.size : Int) := of_decide_eq_true (by first | (with_reducible assumption) | assumption)
                                        have hx15 := bt_at a1 x7_1
                                        replace p15 := eq_true p15
                                        replace q15 := eq_true q15
                                        go_wp2_with (first | (go_at_call 29; (with_reducible refine (spec_ckRight.calls k1 a0_0 _ _ l0_1 ((((a1.extract 0 ((ji9) : Int).toNat) ++ (a1.extract (x7_1 : Int).toNat ((ji28) : Int).toNat)) ++ (a1.extract ((ji9) : Int).toNat (x7_1 : Int).toNat)) ++ (a1.extract ((ji28) : Int).toNat a1.size)) true _ ?side1 ?side2 A32.out).mono ?_); (case side1 => repeat (first | exact (Kd.C_below HR0_1.out HB.out) | (with_reducible refine Kd.C_alloc ?_ _) | (with_reducible refine Kd.C_drewN ?_ _) | (with_reducible refine Kd.C_drew ?_))); (case side2 => exact HC0_1.out); rintro e w36 ⟨rfl, hb⟩; have n0_ := Aside0.mk (Kd.R_below (by (with_reducible repeat (first | apply Kd.R_alloc | apply Kd.R_drewN | apply Kd.R_drew)); exact HO_6.out) hb); have n1_ := Aside0.mk (blk_below (g := gb277) (o := .cells #[.int .i64 a0_0, .slice A0_1 l0_1.length c0_1] 28 (0, 0)) (by (with_reducible repeat (first | refine blk_drewN ?_ _ | refine blk_drew ?_ | refine blk_alloc ?_ _)); exact BK277.out) hb); have n2_ := Aside0.mk (below_step (by repeat (first | (with_reducible first | exact HB.out | apply below_alloc | apply pw_below_drewN | apply below_drew1 | refine below_set ?_ GE277.out) | exact HB.out)) hb); clear HO_6; clear BK277; clear HB; have HO_6 := n0_; have BK277 := n1_; have HB := n2_; clear n0_ n1_ n2_; (try clear hb); (try clear hb2); (try clear hk); (try clear hi); obtain ⟨Ao37, co37, eo37⟩ := Kd.R_slice HO_6.out; subst eo37) | (go_at_call 47; (with_reducible refine (spec_ckPut.calls k1 (fun k_ => some k_ = (.slice Ao37 x6_1.length co37 : Value).ownBlock) (.slice Ao37 x6_1.length co37) x6_1 ((((a1.extract 0 ((ji9) : Int).toNat) ++ (a1.extract (x7_1 : Int).toNat ((ji28) : Int).toNat)) ++ (a1.extract ((ji9) : Int).toNat (x7_1 : Int).toNat)) ++ (a1.extract ((ji28) : Int).toNat a1.size)) t280 w _ ?side1 ?side2 A34.out).mono ?_); (case side1 => repeat (first | (with_reducible first | exact HB.out | apply below_alloc | apply pw_below_drewN | apply below_drew1 | refine below_set ?_ GE277.out) | exact HB.out)); (case side2 => exact Kd.R_tight rfl HO_6.out); rintro e w38 ⟨v281, rfl, ho0, hb, hkp⟩; have n0_ := Aside0.mk (blk_kept (by (with_reducible repeat (first | refine blk_drewN ?_ _ | refine blk_drew ?_ | refine blk_alloc ?_ _)); exact BK277.out) hkp (fun hs_ => (fun e_ => (Kd.R_ne HO_6.out BK277.out (by decide)) e_) hs_)); have n1_ := Aside0.mk (Kd.R_mono (ok' := fun k_ => True) ho0 (fun k_ hk_ => trivial)); have n2_ := Aside0.mk (hb); clear BK277; clear HB; clear HO_6; have BK277 := n0_; have HO282 := n1_; have HB := n2_; clear n0_ n1_ n2_; (try clear hb); (try clear hkp); (try clear ho0)))
                                        repeat (go_quiet (first | (go_at_call 29; (with_reducible refine (spec_ckRight.calls k1 a0_0 _ _ l0_1 ((((a1.extract 0 ((ji9) : Int).toNat) ++ (a1.extract (x7_1 : Int).toNat ((ji28) : Int).toNat)) ++ (a1.extract ((ji9) : Int).toNat (x7_1 : Int).toNat)) ++ (a1.extract ((ji28) : Int).toNat a1.size)) true _ ?side1 ?side2 A32.out).mono ?_); (case side1 => repeat (first | exact (Kd.C_below HR0_1.out HB.out) | (with_reducible refine Kd.C_alloc ?_ _) | (with_reducible refine Kd.C_drewN ?_ _) | (with_reducible refine Kd.C_drew ?_))); (case side2 => exact HC0_1.out); rintro e w36 ⟨rfl, hb⟩; have n0_ := Aside0.mk (Kd.R_below (by (with_reducible repeat (first | apply Kd.R_alloc | apply Kd.R_drewN | apply Kd.R_drew)); exact HO_6.out) hb); have n1_ := Aside0.mk (blk_below (g := gb277) (o := .cells #[.int .i64 a0_0, .slice A0_1 l0_1.length c0_1] 28 (0, 0)) (by (with_reducible repeat (first | refine blk_drewN ?_ _ | refine blk_drew ?_ | refine blk_alloc ?_ _)); exact BK277.out) hb); have n2_ := Aside0.mk (below_step (by repeat (first | (with_reducible first | exact HB.out | apply below_alloc | apply pw_below_drewN | apply below_drew1 | refine below_set ?_ GE277.out) | exact HB.out)) hb); clear HO_6; clear BK277; clear HB; have HO_6 := n0_; have BK277 := n1_; have HB := n2_; clear n0_ n1_ n2_; (try clear hb); (try clear hb2); (try clear hk); (try clear hi); obtain ⟨Ao37, co37, eo37⟩ := Kd.R_slice HO_6.out; subst eo37) | (go_at_call 47; (with_reducible refine (spec_ckPut.calls k1 (fun k_ => some k_ = (.slice Ao37 x6_1.length co37 : Value).ownBlock) (.slice Ao37 x6_1.length co37) x6_1 ((((a1.extract 0 ((ji9) : Int).toNat) ++ (a1.extract (x7_1 : Int).toNat ((ji28) : Int).toNat)) ++ (a1.extract ((ji9) : Int).toNat (x7_1 : Int).toNat)) ++ (a1.extract ((ji28) : Int).toNat a1.size)) t280 w _ ?side1 ?side2 A34.out).mono ?_); (case side1 => repeat (first | (with_reducible first | exact HB.out | apply below_alloc | apply pw_below_drewN | apply below_drew1 | refine below_set ?_ GE277.out) | exact HB.out)); (case side2 => exact Kd.R_tight rfl HO_6.out); rintro e w38 ⟨v281, rfl, ho0, hb, hkp⟩; have n0_ := Aside0.mk (blk_kept (by (with_reducible repeat (first | refine blk_drewN ?_ _ | refine blk_drew ?_ | refine blk_alloc ?_ _)); exact BK277.out) hkp (fun hs_ => (fun e_ => (Kd.R_ne HO_6.out BK277.out (by decide)) e_) hs_)); have n1_ := Aside0.mk (Kd.R_mono (ok' := fun k_ => True) ho0 (fun k_ hk_ => trivial)); have n2_ := Aside0.mk (hb); clear BK277; clear HB; clear HO_6; have BK277 := n0_; have HO282 := n1_; have HB := n2_; clear n0_ n1_ n2_; (try clear hb); (try clear hkp); (try clear ho0))); try go_wp2_with (first | (go_at_call 29; (with_reducible refine (spec_ckRight.calls k1 a0_0 _ _ l0_1 ((((a1.extract 0 ((ji9) : Int).toNat) ++ (a1.extract (x7_1 : Int).toNat ((ji28) : Int).toNat)) ++ (a1.extract ((ji9) : Int).toNat (x7_1 : Int).toNat)) ++ (a1.extract ((ji28) : Int).toNat a1.size)) true _ ?side1 ?side2 A32.out).mono ?_); (case side1 => repeat (first | exact (Kd.C_below HR0_1.out HB.out) | (with_reducible refine Kd.C_alloc ?_ _) | (with_reducible refine Kd.C_drewN ?_ _) | (with_reducible refine Kd.C_drew ?_))); (case side2 => exact HC0_1.out); rintro e w36 ⟨rfl, hb⟩; have n0_ := Aside0.mk (Kd.R_below (by (with_reducible repeat (first | apply Kd.R_alloc | apply Kd.R_drewN | apply Kd.R_drew)); exact HO_6.out) hb); have n1_ := Aside0.mk (blk_below (g := gb277) (o := .cells #[.int .i64 a0_0, .slice A0_1 l0_1.length c0_1] 28 (0, 0)) (by (with_reducible repeat (first | refine blk_drewN ?_ _ | refine blk_drew ?_ | refine blk_alloc ?_ _)); exact BK277.out) hb); have n2_ := Aside0.mk (below_step (by repeat (first | (with_reducible first | exact HB.out | apply below_alloc | apply pw_below_drewN | apply below_drew1 | refine below_set ?_ GE277.out) | exact HB.out)) hb); clear HO_6; clear BK277; clear HB; have HO_6 := n0_; have BK277 := n1_; have HB := n2_; clear n0_ n1_ n2_; (try clear hb); (try clear hb2); (try clear hk); (try clear hi); obtain ⟨Ao37, co37, eo37⟩ := Kd.R_slice HO_6.out; subst eo37) | (go_at_call 47; (with_reducible refine (spec_ckPut.calls k1 (fun k_ => some k_ = (.slice Ao37 x6_1.length co37 : Value).ownBlock) (.slice Ao37 x6_1.length co37) x6_1 ((((a1.extract 0 ((ji9) : Int).toNat) ++ (a1.extract (x7_1 : Int).toNat ((ji28) : Int).toNat)) ++ (a1.extract ((ji9) : Int).toNat (x7_1 : Int).toNat)) ++ (a1.extract ((ji28) : Int).toNat a1.size)) t280 w _ ?side1 ?side2 A34.out).mono ?_); (case side1 => repeat (first | (with_reducible first | exact HB.out | apply below_alloc | apply pw_below_drewN | apply below_drew1 | refine below_set ?_ GE277.out) | exact HB.out)); (case side2 => exact Kd.R_tight rfl HO_6.out); rintro e w38 ⟨v281, rfl, ho0, hb, hkp⟩; have n0_ := Aside0.mk (blk_kept (by (with_reducible repeat (first | refine blk_drewN ?_ _ | refine blk_drew ?_ | refine blk_alloc ?_ _)); exact BK277.out) hkp (fun hs_ => (fun e_ => (Kd.R_ne HO_6.out BK277.out (by decide)) e_) hs_)); have n1_ := Aside0.mk (Kd.R_mono (ok' := fun k_ => True) ho0 (fun k_ hk_ => trivial)); have n2_ := Aside0.mk (hb); clear BK277; clear HB; clear HO_6; have BK277 := n0_; have HO282 := n1_; have HB := n2_; clear n0_ n1_ n2_; (try clear hb); (try clear hkp); (try clear ho0))))
                                        go_roundg k1
                                        case measure => have := HK1.out; omega
                                        case rel => exact ⟨(t280), (ji28), (by first | rfl | (simp; done) | (simp only [← hji28] <;> (first | rfl | simp)) | (simp [*]; done) | (simp [isEmpty_bne]; done) | (simp [i64_w]; done) | (simp only [i64_w]; done)), H', ⟨by have := HK1.out; omega⟩, ⟨by (with_reducible repeat (first | apply Kd.R_alloc | apply Kd.R_drewN | apply Kd.R_drew)); exact HO282.out⟩, ⟨by (with_reducible repeat (first | refine blk_drewN ?_ _ | refine blk_drew ?_ | refine blk_alloc ?_ _)); exact BK277.out⟩, ⟨by repeat (first | (with_reducible first | exact HB.out | apply below_alloc | apply pw_below_drewN | apply below_drew1 | refine below_set ?_ GE277.out) | exact HB.out)⟩⟩
                                      · replace c33 := Bool.eq_false_iff.mpr c33
                                        subst c33
                                        have H1 : (spec_SwapRepairs.l0 k1 a1 x6_1 ji28 a0_0 l0_1) = some (r1, r2) := by rw [if_neg (show ¬ (false = true) by decide)] at H; exact H
                                        clear H
                                        have H := H1
                                        clear H1
                                        have H' := Aside0.mk H
                                        clear H
                                        have hcz39_0 : wr.cell? ⟨gb277, 0, none⟩ = some (.int .i64 a0_0) := (blk_cell BK277.out 0).trans rfl
                                        have hcz39_1 : wr.cell? ⟨gb277, 1, none⟩ = some (.slice A0_1 l0_1.length c0_1) := (blk_cell BK277.out 1).trans rfl
                                        have hfz39_0 := blk_frozen BK277.out 0
                                        have hfz39_1 := blk_frozen BK277.out 1
                                        have p12 : 0 ≤ ((ji9) : Int) := of_decide_eq_true (by first | (with_reducible assumption) | assumption)
                                        have q12 : (ji9) < (a1.size : Int) := of_decide_eq_true (by first | (with_reducible assumption) | assumption)
                                        have hx12 := bt_at a1 (ji9)
                                        replace p12 := eq_true p12
                                        replace q12 := eq_true q12
                                        have p15 : 0 ≤ (x7_1 : Int) := of_decide_eq_true (by first | (with_reducible assumption) | assumption)
                                        have q15 : x7_1 < (a1.size : Int) := of_decide_eq_true (by first | (with_reducible assumption) | assumption)
                                        have hx15 := bt_at a1 x7_1
                                        replace p15 := eq_true p15
                                        replace q15 := eq_true q15
                                        go_wp2_with (first | (go_at_call 29; (with_reducible refine (spec_ckRight.calls k1 a0_0 _ _ l0_1 ((((a1.extract 0 ((ji9) : Int).toNat) ++ (a1.extract (x7_1 : Int).toNat ((ji28) : Int).toNat)) ++ (a1.extract ((ji9) : Int).toNat (x7_1 : Int).toNat)) ++ (a1.extract ((ji28) : Int).toNat a1.size)) false _ ?side1 ?side2 A32.out).mono ?_); (case side1 => repeat (first | exact (Kd.C_below HR0_1.out HB.out) | (with_reducible refine Kd.C_alloc ?_ _) | (with_reducible refine Kd.C_drewN ?_ _) | (with_reducible refine Kd.C_drew ?_))); (case side2 => exact HC0_1.out); rintro e w40 ⟨rfl, hb⟩; have n0_ := Aside0.mk (Kd.R_below (by (with_reducible repeat (first | apply Kd.R_alloc | apply Kd.R_drewN | apply Kd.R_drew)); exact HO_6.out) hb); have n1_ := Aside0.mk (blk_below (g := gb277) (o := .cells #[.int .i64 a0_0, .slice A0_1 l0_1.length c0_1] 28 (0, 0)) (by (with_reducible repeat (first | refine blk_drewN ?_ _ | refine blk_drew ?_ | refine blk_alloc ?_ _)); exact BK277.out) hb); have n2_ := Aside0.mk (below_step (by repeat (first | (with_reducible first | exact HB.out | apply below_alloc | apply pw_below_drewN | apply below_drew1 | refine below_set ?_ GE277.out) | exact HB.out)) hb); clear HO_6; clear BK277; clear HB; have HO_6 := n0_; have BK277 := n1_; have HB := n2_; clear n0_ n1_ n2_; (try clear hb); (try clear hb2); (try clear hk); (try clear hi)))
                                        repeat (go_quiet (first | (go_at_call 29; (with_reducible refine (spec_ckRight.calls k1 a0_0 _ _ l0_1 ((((a1.extract 0 ((ji9) : Int).toNat) ++ (a1.extract (x7_1 : Int).toNat ((ji28) : Int).toNat)) ++ (a1.extract ((ji9) : Int).toNat (x7_1 : Int).toNat)) ++ (a1.extract ((ji28) : Int).toNat a1.size)) false _ ?side1 ?side2 A32.out).mono ?_); (case side1 => repeat (first | exact (Kd.C_below HR0_1.out HB.out) | (with_reducible refine Kd.C_alloc ?_ _) | (with_reducible refine Kd.C_drewN ?_ _) | (with_reducible refine Kd.C_drew ?_))); (case side2 => exact HC0_1.out); rintro e w40 ⟨rfl, hb⟩; have n0_ := Aside0.mk (Kd.R_below (by (with_reducible repeat (first | apply Kd.R_alloc | apply Kd.R_drewN | apply Kd.R_drew)); exact HO_6.out) hb); have n1_ := Aside0.mk (blk_below (g := gb277) (o := .cells #[.int .i64 a0_0, .slice A0_1 l0_1.length c0_1] 28 (0, 0)) (by (with_reducible repeat (first | refine blk_drewN ?_ _ | refine blk_drew ?_ | refine blk_alloc ?_ _)); exact BK277.out) hb); have n2_ := Aside0.mk (below_step (by repeat (first | (with_reducible first | exact HB.out | apply below_alloc | apply pw_below_drewN | apply below_drew1 | refine below_set ?_ GE277.out) | exact HB.out)) hb); clear HO_6; clear BK277; clear HB; have HO_6 := n0_; have BK277 := n1_; have HB := n2_; clear n0_ n1_ n2_; (try clear hb); (try clear hb2); (try clear hk); (try clear hi))); try go_wp2_with (first | (go_at_call 29; (with_reducible refine (spec_ckRight.calls k1 a0_0 _ _ l0_1 ((((a1.extract 0 ((ji9) : Int).toNat) ++ (a1.extract (x7_1 : Int).toNat ((ji28) : Int).toNat)) ++ (a1.extract ((ji9) : Int).toNat (x7_1 : Int).toNat)) ++ (a1.extract ((ji28) : Int).toNat a1.size)) false _ ?side1 ?side2 A32.out).mono ?_); (case side1 => repeat (first | exact (Kd.C_below HR0_1.out HB.out) | (with_reducible refine Kd.C_alloc ?_ _) | (with_reducible refine Kd.C_drewN ?_ _) | (with_reducible refine Kd.C_drew ?_))); (case side2 => exact HC0_1.out); rintro e w40 ⟨rfl, hb⟩; have n0_ := Aside0.mk (Kd.R_below (by (with_reducible repeat (first | apply Kd.R_alloc | apply Kd.R_drewN | apply Kd.R_drew)); exact HO_6.out) hb); have n1_ := Aside0.mk (blk_below (g := gb277) (o := .cells #[.int .i64 a0_0, .slice A0_1 l0_1.length c0_1] 28 (0, 0)) (by (with_reducible repeat (first | refine blk_drewN ?_ _ | refine blk_drew ?_ | refine blk_alloc ?_ _)); exact BK277.out) hb); have n2_ := Aside0.mk (below_step (by repeat (first | (with_reducible first | exact HB.out | apply below_alloc | apply pw_below_drewN | apply below_drew1 | refine below_set ?_ GE277.out) | exact HB.out)) hb); clear HO_6; clear BK277; clear HB; have HO_6 := n0_; have BK277 := n1_; have HB := n2_; clear n0_ n1_ n2_; (try clear hb); (try clear hb2); (try clear hk); (try clear hi))))
                                        go_roundg k1
                                        case measure => have := HK1.out; omega
                                        case rel => exact ⟨(x6_1), (ji28), (by first | rfl | (simp; done) | (simp only [← hji28] <;> (first | rfl | simp)) | (simp [*]; done) | (simp [isEmpty_bne]; done) | (simp [i64_w]; done) | (simp only [i64_w]; done)), H', ⟨by have := HK1.out; omega⟩, ⟨by (with_reducible repeat (first | apply Kd.R_alloc | apply Kd.R_drewN | apply Kd.R_drew)); exact HO_6.out⟩, ⟨by (with_reducible repeat (first | refine blk_drewN ?_ _ | refine blk_drew ?_ | refine blk_alloc ?_ _)); exact BK277.out⟩, ⟨by repeat (first | (with_reducible first | exact HB.out | apply below_alloc | apply pw_below_drewN | apply below_drew1 | refine below_set ?_ GE277.out) | exact HB.out)⟩⟩
                                    · rw [if_neg c31] at H
                                      exact absurd H (by simp)
                                  · rw [if_neg c29] at H
                                    exact absurd H (by simp)
                                · rw [if_neg c27] at H
                                  exact absurd H (by simp)
                              · rw [if_neg c26] at H
                                exact absurd H (by simp)
                            · rw [if_neg c25] at H
                              exact absurd H (by simp)
                          · rw [if_neg c23] at H
                            exact absurd H (by simp)
                        · rw [if_neg c22] at H
                          exact absurd H (by simp)
                      · rw [if_neg c21] at H
                        exact absurd H (by simp)
                    · rw [if_neg c19] at H
                      exact absurd H (by simp)
                · rw [if_neg c14] at H
                  exact absurd H (by simp)
              · rw [if_neg c13] at H
                exact absurd H (by simp)
            · rw [if_neg c11] at H
              exact absurd H (by simp)
          · rw [if_neg c10] at H
            exact absurd H (by simp)
        · rw [if_neg c8] at H
          have c8b0 : decide (x7_1 < (l0_1.length : Int)) = false := decide_eq_false c8
          clear c8
          simp only [Option.some.injEq, Prod.mk.injEq] at H
          obtain ⟨rfl, rfl⟩ := H
          have hcz41_0 : wr.cell? ⟨gb277, 0, none⟩ = some (.int .i64 a0_0) := (blk_cell BK277.out 0).trans rfl
          have hcz41_1 : wr.cell? ⟨gb277, 1, none⟩ = some (.slice A0_1 l0_1.length c0_1) := (blk_cell BK277.out 1).trans rfl
          have hfz41_0 := blk_frozen BK277.out 0
          have hfz41_1 := blk_frozen BK277.out 1
          go_wp2
          repeat (go_quiet (fail); try go_wp2)
          go_ret2
          exact ⟨_, by first | rfl | (simp [errW_none, errW_some] <;> rfl) | (simp [*, errW_none, errW_some] <;> rfl), by (with_reducible repeat (first | apply Kd.R_alloc | apply Kd.R_drewN | apply Kd.R_drew)); exact HO_6.out, by repeat (first | (with_reducible first | exact HB.out | apply below_alloc | apply pw_below_drewN | apply below_drew1 | refine below_set ?_ GE277.out) | exact HB.out)⟩
  · replace c4 := Bool.eq_false_iff.mpr c4
    subst c4
    have H1 : (some (([] : List ByteArray), false)) = some (r1, r2) := by rw [if_neg (show ¬ (false = true) by decide)] at H; exact H
    clear H
    have H := H1
    clear H1
    simp only [Option.some.injEq, Prod.mk.injEq] at H
    obtain ⟨rfl, rfl⟩ := H
    go_enter Tryd.func19, Tryd.ntmps19
    go_wp2_with (first | ((with_reducible refine gate_dst (N := 2) rfl ?_); refine box_event ?hg (N := 2) ?hd (cs := #[.int .i64 a0_0, .slice A0_1 l0_1.length c0_1]) (t := 28) ?hr ?_; (case hd => rfl); (case hg => rfl); (case hr => first | (go_simp; done) | (go_simp; rfl)); intro gb277 hg w42 hbox hb; have n0_ := Aside0.mk (below_step (by repeat (first | (with_reducible first | exact HB.out | apply below_alloc | apply pw_below_drewN | apply below_drew1) | exact HB.out)) hb); have n1_ := Aside0.mk (hbox); have n2_ := Aside0.mk ((by rw [hg]; exact (below_size (by repeat (first | (with_reducible first | exact HB.out | apply below_alloc | apply pw_below_drewN | apply below_drew1) | exact HB.out))) : w.heap.size ≤ gb277)); have n3_ := Aside0.mk ((by rw [hg]; exact (below_size (by repeat (first | (with_reducible first | exact HB.out | apply below_alloc | apply pw_below_drewN | apply below_drew1) | exact HB.out))) : w.heap.size ≤ gb277)); clear HB; have HB := n0_; have BK277 := n1_; have GW277 := n2_; have GE277 := n3_; clear n0_ n1_ n2_ n3_; clear hb hbox hg; have hcz43_0 : w42.cell? ⟨gb277, 0, none⟩ = some (.int .i64 a0_0) := (blk_cell BK277.out 0).trans rfl; have hcz43_1 : w42.cell? ⟨gb277, 1, none⟩ = some (.slice A0_1 l0_1.length c0_1) := (blk_cell BK277.out 1).trans rfl; have hfz43_0 := blk_frozen BK277.out 0; have hfz43_1 := blk_frozen BK277.out 1) | (go_at_call 27; (with_reducible refine (spec_ckNumber.calls k a0_0 _ _ l0_1 a1 false _ ?side1 ?side2 A3.out).mono ?_); (case side1 => repeat (first | exact (Kd.C_below HR0_1.out HB.out) | (with_reducible refine Kd.C_alloc ?_ _) | (with_reducible refine Kd.C_drewN ?_ _) | (with_reducible refine Kd.C_drew ?_))); (case side2 => exact HC0_1.out); rintro e w44 ⟨rfl, hb⟩; have n0_ := Aside0.mk (blk_below (g := gb277) (o := .cells #[.int .i64 a0_0, .slice A0_1 l0_1.length c0_1] 28 (0, 0)) (by (with_reducible repeat (first | refine blk_drewN ?_ _ | refine blk_drew ?_ | refine blk_alloc ?_ _)); exact BK277.out) hb); have n1_ := Aside0.mk (below_step (by repeat (first | (with_reducible first | exact HB.out | apply below_alloc | apply pw_below_drewN | apply below_drew1 | refine below_set ?_ GE277.out) | exact HB.out)) hb); clear BK277; clear HB; have BK277 := n0_; have HB := n1_; clear n0_ n1_; (try clear hb); (try clear hb2); (try clear hk); (try clear hi)))
    repeat (go_quiet (first | ((with_reducible refine gate_dst (N := 2) rfl ?_); refine box_event ?hg (N := 2) ?hd (cs := #[.int .i64 a0_0, .slice A0_1 l0_1.length c0_1]) (t := 28) ?hr ?_; (case hd => rfl); (case hg => rfl); (case hr => first | (go_simp; done) | (go_simp; rfl)); intro gb277 hg w42 hbox hb; have n0_ := Aside0.mk (below_step (by repeat (first | (with_reducible first | exact HB.out | apply below_alloc | apply pw_below_drewN | apply below_drew1) | exact HB.out)) hb); have n1_ := Aside0.mk (hbox); have n2_ := Aside0.mk ((by rw [hg]; exact (below_size (by repeat (first | (with_reducible first | exact HB.out | apply below_alloc | apply pw_below_drewN | apply below_drew1) | exact HB.out))) : w.heap.size ≤ gb277)); have n3_ := Aside0.mk ((by rw [hg]; exact (below_size (by repeat (first | (with_reducible first | exact HB.out | apply below_alloc | apply pw_below_drewN | apply below_drew1) | exact HB.out))) : w.heap.size ≤ gb277)); clear HB; have HB := n0_; have BK277 := n1_; have GW277 := n2_; have GE277 := n3_; clear n0_ n1_ n2_ n3_; clear hb hbox hg; have hcz43_0 : w42.cell? ⟨gb277, 0, none⟩ = some (.int .i64 a0_0) := (blk_cell BK277.out 0).trans rfl; have hcz43_1 : w42.cell? ⟨gb277, 1, none⟩ = some (.slice A0_1 l0_1.length c0_1) := (blk_cell BK277.out 1).trans rfl; have hfz43_0 := blk_frozen BK277.out 0; have hfz43_1 := blk_frozen BK277.out 1) | (go_at_call 27; (with_reducible refine (spec_ckNumber.calls k a0_0 _ _ l0_1 a1 false _ ?side1 ?side2 A3.out).mono ?_); (case side1 => repeat (first | exact (Kd.C_below HR0_1.out HB.out) | (with_reducible refine Kd.C_alloc ?_ _) | (with_reducible refine Kd.C_drewN ?_ _) | (with_reducible refine Kd.C_drew ?_))); (case side2 => exact HC0_1.out); rintro e w44 ⟨rfl, hb⟩; have n0_ := Aside0.mk (blk_below (g := gb277) (o := .cells #[.int .i64 a0_0, .slice A0_1 l0_1.length c0_1] 28 (0, 0)) (by (with_reducible repeat (first | refine blk_drewN ?_ _ | refine blk_drew ?_ | refine blk_alloc ?_ _)); exact BK277.out) hb); have n1_ := Aside0.mk (below_step (by repeat (first | (with_reducible first | exact HB.out | apply below_alloc | apply pw_below_drewN | apply below_drew1 | refine below_set ?_ GE277.out) | exact HB.out)) hb); clear BK277; clear HB; have BK277 := n0_; have HB := n1_; clear n0_ n1_; (try clear hb); (try clear hb2); (try clear hk); (try clear hi))); try go_wp2_with (first | ((with_reducible refine gate_dst (N := 2) rfl ?_); refine box_event ?hg (N := 2) ?hd (cs := #[.int .i64 a0_0, .slice A0_1 l0_1.length c0_1]) (t := 28) ?hr ?_; (case hd => rfl); (case hg => rfl); (case hr => first | (go_simp; done) | (go_simp; rfl)); intro gb277 hg w42 hbox hb; have n0_ := Aside0.mk (below_step (by repeat (first | (with_reducible first | exact HB.out | apply below_alloc | apply pw_below_drewN | apply below_drew1) | exact HB.out)) hb); have n1_ := Aside0.mk (hbox); have n2_ := Aside0.mk ((by rw [hg]; exact (below_size (by repeat (first | (with_reducible first | exact HB.out | apply below_alloc | apply pw_below_drewN | apply below_drew1) | exact HB.out))) : w.heap.size ≤ gb277)); have n3_ := Aside0.mk ((by rw [hg]; exact (below_size (by repeat (first | (with_reducible first | exact HB.out | apply below_alloc | apply pw_below_drewN | apply below_drew1) | exact HB.out))) : w.heap.size ≤ gb277)); clear HB; have HB := n0_; have BK277 := n1_; have GW277 := n2_; have GE277 := n3_; clear n0_ n1_ n2_ n3_; clear hb hbox hg; have hcz43_0 : w42.cell? ⟨gb277, 0, none⟩ = some (.int .i64 a0_0) := (blk_cell BK277.out 0).trans rfl; have hcz43_1 : w42.cell? ⟨gb277, 1, none⟩ = some (.slice A0_1 l0_1.length c0_1) := (blk_cell BK277.out 1).trans rfl; have hfz43_0 := blk_frozen BK277.out 0; have hfz43_1 := blk_frozen BK277.out 1) | (go_at_call 27; (with_reducible refine (spec_ckNumber.calls k a0_0 _ _ l0_1 a1 false _ ?side1 ?side2 A3.out).mono ?_); (case side1 => repeat (first | exact (Kd.C_below HR0_1.out HB.out) | (with_reducible refine Kd.C_alloc ?_ _) | (with_reducible refine Kd.C_drewN ?_ _) | (with_reducible refine Kd.C_drew ?_))); (case side2 => exact HC0_1.out); rintro e w44 ⟨rfl, hb⟩; have n0_ := Aside0.mk (blk_below (g := gb277) (o := .cells #[.int .i64 a0_0, .slice A0_1 l0_1.length c0_1] 28 (0, 0)) (by (with_reducible repeat (first | refine blk_drewN ?_ _ | refine blk_drew ?_ | refine blk_alloc ?_ _)); exact BK277.out) hb); have n1_ := Aside0.mk (below_step (by repeat (first | (with_reducible first | exact HB.out | apply below_alloc | apply pw_below_drewN | apply below_drew1 | refine below_set ?_ GE277.out) | exact HB.out)) hb); clear BK277; clear HB; have BK277 := n0_; have HB := n1_; clear n0_ n1_; (try clear hb); (try clear hb2); (try clear hk); (try clear hi))))
    go_ret2
    exact ⟨_, by first | rfl | (simp [errW_none, errW_some] <;> rfl) | (simp [*, errW_none, errW_some] <;> rfl), by first | exact Kd.R_nil _ _ _ _ _ | exact Kd.N_nil _ _ _ _ _ | exact Kd.V_nil _ _ _ _ _ | exact Kd.Q_nil _ _ _ _ _ | exact Kd.S_nil _ _ _ _ _, by repeat (first | (with_reducible first | exact HB.out | apply below_alloc | apply pw_below_drewN | apply below_drew1 | refine below_set ?_ GE277.out) | exact HB.out)⟩


/-! ### impl_SwapRepairs: function 20 -/
/-- a number with two neighbours swapped -/
def swapE (a : ByteArray) (j x k : Int) : ByteArray := (((a.extract 0 (j : Int).toNat) ++ (a.extract (x : Int).toNat (k : Int).toNat)) ++ (a.extract (j : Int).toNat (x : Int).toNat)) ++ (a.extract (k : Int).toNat a.size)
def swapT (a : ByteArray) (i : Nat) : ByteArray := swapE a ((i : Int) - 1) i ((i : Int) + 1)
def rightO (k : Nat) (m : Int) (ws : List Int) (t : ByteArray) : Option Bool := (impl_Scheme_whole.f k m ws t).bind fun b => if m = 0 then none else if b.2 = m then some (Int.tmod b.1 m == 0) else none
/-- those of some texts that are another one and that something says yes of -/
def pickO (g : ByteArray → Option Bool) (a : ByteArray) : List ByteArray → List ByteArray → Option (List ByteArray)
  | [], acc => some acc
  | t :: l, acc => if t = a then pickO g a l acc else (g t).bind fun b => pickO g a l (if b = true then acc ++ [t] else acc)
theorem pickO_leO {g h : ByteArray → Option Bool} (a : ByteArray) (hg : ∀ d, LeO (g d) (h d)) : ∀ l acc, LeO (pickO g a l acc) (pickO h a l acc)
  | [], acc => LeO.refl _
  | t :: l, acc => LeO.ite (pickO_leO a hg l acc) (LeO.bind (hg t) (fun _ => pickO_leO a hg l _))
theorem pickO_len {g : ByteArray → Option Bool} {a : ByteArray} : ∀ {l acc r}, pickO g a l acc = some r → r.length ≤ acc.length + l.length
  | [], acc, r, h => by simp only [pickO, Option.some.injEq] at h; subst h; simp
  | t :: l, acc, r, h => by
    simp only [pickO] at h
    split at h
    · have := pickO_len h; simp only [List.length_cons]; omega
    · obtain ⟨b, _, h⟩ := Option.bind_eq_some_iff.mp h
      have := pickO_len h
      cases b <;> simp at this ⊢ <;> omega
theorem pickO_le {g : ByteArray → Option Bool} {a : ByteArray} : ∀ {l acc r}, pickO g a l acc = some r → acc.length ≤ r.length
  | [], acc, r, h => by simp only [pickO, Option.some.injEq] at h; subst h; omega
  | t :: l, acc, r, h => by
    simp only [pickO] at h
    split at h
    · exact pickO_le h
    · obtain ⟨b, _, h⟩ := Option.bind_eq_some_iff.mp h
      have := pickO_le h
      cases b <;> simp at this ⊢ <;> omega
def swapsT (a : ByteArray) (n : Nat) : List ByteArray := (List.range (n - 1)).map fun i => swapT a (i + 1)
theorem swaps_drop (a : ByteArray) {n i : Nat} (h1 : 1 ≤ i) (h : i < n) : (swapsT a n).drop (i - 1) = swapT a i :: (swapsT a n).drop i := by
  have hl : i - 1 < (swapsT a n).length := by unfold swapsT; rw [List.length_map, List.length_range]; omega
  rw [List.drop_eq_getElem_cons hl, show i - 1 + 1 = i by omega]
  congr 1
  simp only [swapsT, List.getElem_map, List.getElem_range, show i - 1 + 1 = i by omega]
theorem ne_list {a b : ByteArray} (h : a ≠ b) : (a.toList != b.toList) = true := by
  rw [bne_iff_ne, Lib.toList_data, Lib.toList_data]
  intro e
  apply h
  cases a; cases b; exact congrArg ByteArray.mk (Array.toList_inj.mp e)
def impl_SwapRepairs.f (k : Nat) (a0_0 : Int) (l0_1 : List Int) (a1 : ByteArray) : Option (List ByteArray × Bool) :=
  (impl_numberOk.f a0_0 l0_1 a1).bind fun g => if g = true then (if l0_1.length ≤ 1000 ∧ 1 ≤ l0_1.length ∧ a1.size = l0_1.length + 1 then (pickO (rightO k a0_0 l0_1) a1 (swapsT a1 l0_1.length) []).bind fun l => some (compactB (sortT l), true) else none) else some ([], false)
theorem rightO_mono (m : Int) (ws : List Int) (t : ByteArray) (k : Nat) : LeO (rightO k m ws t) (rightO (k + 1) m ws t) := by
  unfold rightO
  exact LeO.bind (impl_Scheme_whole.mono m ws t k) (fun _ => LeO.refl _)
theorem impl_SwapRepairs.mono : ∀ a0_0 a0_1 a1 k, LeO (impl_SwapRepairs.f k a0_0 a0_1 a1) (impl_SwapRepairs.f (k + 1) a0_0 a0_1 a1) := by
  intro a0 a1 a2 k
  unfold impl_SwapRepairs.f
  exact LeO.bind (LeO.refl _) (fun _ => LeO.ite (LeO.ite (LeO.bind (pickO_leO _ (fun t => rightO_mono a0 a1 t k) _ _) (fun _ => LeO.refl _)) (LeO.refl _)) (LeO.refl _))
set_option maxHeartbeats 8000000 in
set_option maxRecDepth 100000 in
theorem impl_SwapRepairs.calls (k : Nat) (a0_0 : Int) (A0_1 : Option Addr) (c0_1 : Nat) (l0_1 : List Int) (a1 : ByteArray) (r1 : List ByteArray) (r2 : Bool) (w : World) (hr0_1 : Kd.C (Kd.int .i64) w A0_1 l0_1.length l0_1) (hc0_1 : l0_1.length ≤ c0_1) (h : impl_SwapRepairs.f k a0_0 l0_1 a1 = some (r1, r2)) :
    Calls Tryd.prog 20 #[.agg #[.int .i64 a0_0, .slice A0_1 l0_1.length c0_1], .string a1] w fun e w' => ∃ v0_ : Value, e = .returned (.tuple #[v0_, .bool r2]) ∧ Kd.R Kd.string 9 w' w.heap.size (fun _ => True) v0_ r1 ∧ Below w.heap.size w w' := by
  have hu := Tryd.underlying28
  replace h := Option.bind_eq_some_iff.mp h
  obtain ⟨g, hg, h⟩ := h
  have hgood := fun (W : World) (hW : Below w.heap.size w W) => impl_numberOk.calls a0_0 A0_1 c0_1 l0_1 a1 g W (Kd.C_below hr0_1 hW) hc0_1 hg
  have hb0 : Below w.heap.size w (w.alloc (.cells #[.int .i64 a0_0, .slice A0_1 l0_1.length c0_1] 28)) := (Below.refl _ w).alloc (Nat.le_refl _) _
  have hI0 := IsS28.new w w A0_1 c0_1 a0_0 l0_1 (Below.refl _ w) hr0_1
  have hcall := hgood _ hb0
  clear hg hr0_1 hgood
  cases g with
  | false =>
    simp only [Bool.false_eq_true, if_false, Option.some.injEq, Prod.mk.injEq] at h
    obtain ⟨rfl, rfl⟩ := h
    clear hI0
    go_enter Tryd.func20, Tryd.ntmps20
    go_wp2_with fail
    refine hcall.mono ?_
    rintro e w1 ⟨rfl, hb1⟩
    clear hcall
    go_wp2
    go_ret2
    exact ⟨_, rfl, Kd.R_nil _ _ _ _ _, hb0.trans (hb1.mono hb0.size)⟩
  | true =>
    rw [if_pos rfl] at h
    split at h
    · rename_i hcond
      obtain ⟨hl, hl1, hz⟩ := hcond
      replace h := Option.bind_eq_some_iff.mp h
      obtain ⟨L, hL, h⟩ := h
      simp only [Option.some.injEq, Prod.mk.injEq] at h
      obtain ⟨rfl, rfl⟩ := h
      have HZ := Aside0.mk hz
      have HI0 := Aside0.mk hI0
      have HL := Aside0.mk hL
      have hLlen := pickO_len hL
      have HLL : Aside0 (L.length ≤ 1048576) := ⟨by simp [swapsT] at hLlen; omega⟩
      clear hz hI0 hL hLlen
      go_enter Tryd.func20, Tryd.ntmps20
      go_wp2_with fail
      refine hcall.mono ?_
      rintro e w1 ⟨rfl, hb1⟩
      have HB1 := Aside0.mk (hb0.trans (hb1.mono hb0.size))
      have HI1 := Aside0.mk (HI0.out.below hb1)
      clear hcall HI0 hb0 hb1
      go_wp2
      go_loopw [6, 7] (fun v6 v7 wr => ∃ (i : Nat) (acc : List ByteArray), 1 ≤ i ∧ i ≤ l0_1.length ∧ v7 = .int .i64 i ∧ Aside0 (Kd.R Kd.string 9 wr w.heap.size (fun k_ => k_ ≠ w.heap.size) v6 acc) ∧ Aside0 (IsS28 w wr w.heap.size a0_0 l0_1) ∧ Aside0 (Below w.heap.size w wr) ∧ Aside0 (pickO (rightO k a0_0 l0_1) a1 ((swapsT a1 l0_1.length).drop (i - 1)) acc = some L)) (fun _ i _ => l0_1.length - (intOf i).toNat)
      case atStart =>
        refine ⟨1, [], by omega, hl1, rfl, ⟨?_⟩, ⟨HI1.out.below ((Below.refl _ w1).alloc (Nat.le_refl _) _)⟩, ⟨HB1.out.alloc HB1.out.size _⟩, ⟨by simpa using HL.out⟩⟩
        have h2 := World.ownsRow_lit (base := w.heap.size) (e := 9) (size := 1) w1 #[] 0 HB1.out.size (by simp [maxLen]) (by simp)
        have hlt := HI1.out.lt
        exact Kd.R_of_own (by simpa [encs] using h2) (by intro k hk; (have e : w1.heap.size = k := (by simpa [Value.ownBlock] using hk)); omega)
      case round =>
        obtain ⟨i, acc, hi1, hi2, rfl, HO, HI, HB, HP⟩ := hrel
        obtain ⟨A1, c1, hblk, hrest⟩ := HI.out
        have hc0 : wr.cell? ⟨w.heap.size, 0, none⟩ = some (.int .i64 a0_0) := by simp [World.cell?, hblk]
        have hc1 : wr.cell? ⟨w.heap.size, 1, none⟩ = some (.slice A1 l0_1.length c1) := by simp [World.cell?, hblk]
        clear hblk hrest
        by_cases hlt : i < l0_1.length
        · have hp := HP.out
          rw [swaps_drop a1 hi1 hlt] at hp
          simp only [pickO] at hp
          have hE : swapT a1 i = swapE a1 ((i : Int) - 1) i ((i : Int) + 1) := rfl
          rw [hE] at hp
          have hzz := HZ.out
          have hi3 : ((i + 1 : Nat) : Int) = (i : Int) + 1 := by omega
          have HN := Aside0.mk (show 1 ≤ (i : Int) ∧ (i : Int) < (l0_1.length : Int) ∧ (l0_1.length : Int) + 1 = (a1.size : Int) ∧ (i : Int) ≤ 1000 by omega)
          have HX : ∃ x : Int, x = (i : Int) := ⟨_, rfl⟩
          clear hE hzz hi3 HP
          generalize hx : (i : Int) = x at hp HN ⊢
          have HXE := Aside0.mk hx
          clear hx HX
          obtain ⟨ji, hji⟩ : ∃ j_ : Int, wrap64 (x - 1) = j_ := ⟨_, rfl⟩
          obtain ⟨jk, hjk⟩ : ∃ j_ : Int, wrap64 (x + 1) = j_ := ⟨_, rfl⟩
          have hje : ji = x - 1 := by have := HN.out; rw [← hji]; unfold wrap64; omega
          have hke : jk = x + 1 := by have := HN.out; rw [← hjk]; unfold wrap64; omega
          have hjiw : (IntKind.i64.wrap (x - 1)) = ji := (i64_w _).trans hji
          have hjkw : (IntKind.i64.wrap (x + 1)) = jk := (i64_w _).trans hjk
          rw [← hje, ← hke] at hp
          have HJ := Aside0.mk hje
          have HK := Aside0.mk hke
          have z0 : decide (x < (l0_1.length : Int)) = true := decide_eq_true HN.out.2.1
          have z1 : (0 ≤ ji) = True := eq_true (by have := HN.out; omega)
          have z2 : (ji ≤ (a1.size : Int)) = True := eq_true (by have := HN.out; omega)
          have z3 : (x ≤ jk) = True := eq_true (by have := HN.out; omega)
          have z4 : (jk ≤ (a1.size : Int)) = True := eq_true (by have := HN.out; omega)
          have z5 : (ji ≤ x) = True := eq_true (by have := HN.out; omega)
          have z6 : (x ≤ (a1.size : Int)) = True := eq_true (by have := HN.out; omega)
          have z7 : (0 ≤ x) = True := eq_true (by have := HN.out; omega)
          have z8 : (0 ≤ jk) = True := eq_true (by have := HN.out; omega)
          have y1 : decide (0 ≤ ji) = true := decide_eq_true (by have := HN.out; omega)
          have y2 : decide (ji ≤ (a1.size : Int)) = true := decide_eq_true (by have := HN.out; omega)
          have y3 : decide (x ≤ jk) = true := decide_eq_true (by have := HN.out; omega)
          have y4 : decide (jk ≤ (a1.size : Int)) = true := decide_eq_true (by have := HN.out; omega)
          have y5 : decide (ji ≤ x) = true := decide_eq_true (by have := HN.out; omega)
          have y6 : decide (x ≤ (a1.size : Int)) = true := decide_eq_true (by have := HN.out; omega)
          have y7 : decide (0 ≤ x) = true := decide_eq_true (by have := HN.out; omega)
          have y8 : decide (0 ≤ jk) = true := decide_eq_true (by have := HN.out; omega)
          have e1 : (a1.extract 0 (ji : Int).toNat).size ≤ 2000 := by rw [ByteArray.size_extract]; have := HN.out; omega
          have e2 : (a1.extract (x : Int).toNat (jk : Int).toNat).size ≤ 2000 := by rw [ByteArray.size_extract]; have := HN.out; omega
          have e3 : (a1.extract (ji : Int).toNat (x : Int).toNat).size ≤ 2000 := by rw [ByteArray.size_extract]; have := HN.out; omega
          have e4 : (a1.extract (jk : Int).toNat a1.size).size ≤ 2000 := by rw [ByteArray.size_extract]; have := HN.out; omega
          have s1 : (9223372036854775807 < (a1.extract 0 (ji : Int).toNat).size + (a1.extract (x : Int).toNat (jk : Int).toNat).size) = False := eq_false (by omega)
          have s2 : (9223372036854775807 < (a1.extract 0 (ji : Int).toNat).size + (a1.extract (x : Int).toNat (jk : Int).toNat).size + (a1.extract (ji : Int).toNat (x : Int).toNat).size) = False := eq_false (by omega)
          have s3 : (9223372036854775807 < (a1.extract 0 (ji : Int).toNat).size + (a1.extract (x : Int).toNat (jk : Int).toNat).size + (a1.extract (ji : Int).toNat (x : Int).toNat).size + (a1.extract (jk : Int).toNat a1.size).size) = False := eq_false (by omega)
          have s4 : (9223372036854775807 < ji.toNat + (jk.toNat - x.toNat)) = False := eq_false (by have := HN.out; omega)
          have s5 : (9223372036854775807 < ji.toNat + (jk.toNat - x.toNat) + (x.toNat - ji.toNat)) = False := eq_false (by have := HN.out; omega)
          have s6 : (9223372036854775807 < ji.toNat + (jk.toNat - x.toNat) + (x.toNat - ji.toNat) + (a1.size - jk.toNat)) = False := eq_false (by have := HN.out; omega)
          clear hje hke e1 e2 e3 e4
          by_cases he : swapE a1 ji x jk = a1
          · rw [if_pos he] at hp
            have HP2 := Aside0.mk hp
            have n1 : ((swapE a1 ji x jk).toList != a1.toList) = false := by rw [he, bne_self_eq_false]
            have n2 : ((swapE a1 ji x jk).toList = a1.toList) = True := eq_true (by rw [he])
            have n4 : ((swapE a1 ji x jk).toList == a1.toList) = true := by rw [he, beq_self_eq_true]
            unfold swapE at n1 n2 n4
            clear hp he
            go_wp2
            go_quiet (fail)
            go_wp2
            go_roundw
            case rel => exact ⟨i + 1, acc, by omega, by omega, by have := HXE.out; have := HK.out; (first | (rw [this]; go_num) | (congr 1; omega) | (simp; omega)), ⟨Kd.R_drewN HO.out _⟩, ⟨HI.out.drewN _⟩, ⟨pw_below_drewN HB.out _⟩, ⟨by rw [Nat.add_sub_cancel]; exact HP2.out⟩⟩
            case measure => simp [intOf]; have := HXE.out; have := HK.out; omega
          · rw [if_neg he] at hp
            obtain ⟨b, hb, hp⟩ := Option.bind_eq_some_iff.mp hp
            unfold rightO at hb
            obtain ⟨⟨v, m2⟩, hw, hb⟩ := Option.bind_eq_some_iff.mp hb
            simp only at hb
            split at hb
            · exact absurd hb (by simp)
            · rename_i hm
              split at hb
              · rename_i hm2
                subst hm2
                simp only [Option.some.injEq] at hb
                have n1 := ne_list he
                have n2 : ((swapE a1 ji x jk).toList = a1.toList) = False := eq_false (bne_iff_ne.mp n1)
                have n4 : ((swapE a1 ji x jk).toList == a1.toList) = false := beq_eq_false_iff_ne.mpr (bne_iff_ne.mp n1)
                have hright := fun (W : World) (hW : Below w.heap.size w W) (hI : IsS28 w W w.heap.size m2 l0_1) => impl_Scheme_right.calls k w.heap.size m2 l0_1 (swapE a1 ji x jk) v w W hI hW hm hw
                unfold swapE at n1 n2 n4 hright
                rw [hb] at hright
                have HP2 := Aside0.mk hp
                clear hb hw hm hp he
                go_wp2
                go_quiet (fail)
                go_wp2_with fail
                refine (hright (wr.drewN nq) (pw_below_drewN HB.out nq) (HI.out.drewN nq)).mono ?_
                rintro e w5 ⟨rfl, hI5, hb5, hk5⟩
                clear hright
                have HO5 := Aside0.mk (Kd.R_keep (Kd.R_drewN HO.out nq) hk5 (fun k hk => hk))
                have HI5 := Aside0.mk hI5
                have HB5 := Aside0.mk hb5
                clear hI5 hb5 hk5
                cases b with
                | false =>
                  go_wp2
                  go_roundw
                  case rel => exact ⟨i + 1, acc, by omega, by omega, by have := HXE.out; have := HK.out; (first | (rw [this]; go_num) | (congr 1; omega) | (simp; omega)), HO5, HI5, HB5, ⟨by rw [Nat.add_sub_cancel]; have := HP2.out; simpa using this⟩⟩
                  case measure => simp [intOf]; have := HXE.out; have := HK.out; omega
                | true =>
                  have HPL := Aside0.mk (pickO_le HP2.out)
                  go_wp2_with (first | ((with_reducible refine gate_builtin (b := .append) (xs := #[.tmp 49, .tmp 51]) rfl ?_); at_builtin; refine Kd.R_append Kd.string (w0 := w) w.heap.size rfl (.tmp 49) (.tmp 51) 32 9 (.string ⟨#[]⟩) 16 rfl Tryd.underlying32 info9 rfl (by decide) (by omega) u6 acc (swapE a1 ji x jk) [.string (swapE a1 ji x jk)] (fun k_ => k_ ≠ w.heap.size) (fun _ => False) rfl rfl ?aP (fun _ hk => hk.elim) ?aF ?aO ?aB ?aS ?aL ?_; (case aP => exact rfl); (case aB => exact HB5.out); (case aF => exact (fun k hk => by have h1 := HI5.out.lt; omega)); (case aO => exact HO5.out); (case aS => exact HB5.out.size); (case aL => have h1 := HPL.out; have h2 := HLL.out; simp at h1; omega); intro v173 w15 ho hb hg hat; have hI15 := Aside0.mk (HI5.out.grown hg (HI5.out.own_ne HO5.out (by decide))); clear hg hat))
                  · go_roundw
                    case rel => exact ⟨i + 1, acc ++ [swapE a1 ji x jk], by omega, by omega, by have := HXE.out; have := HK.out; (first | (rw [this]; go_num) | (congr 1; omega) | (simp; omega)), ⟨ho⟩, hI15, ⟨hb⟩, ⟨by rw [Nat.add_sub_cancel]; have := HP2.out; simpa using this⟩⟩
                    case measure => simp [intOf]; have := HXE.out; have := HK.out; omega
              · exact absurd hb (by simp)
        · have hin : i = l0_1.length := by omega
          subst hin
          have hpe := HP.out
          rw [List.drop_of_length_le (by simp [swapsT])] at hpe
          simp only [pickO, Option.some.injEq] at hpe
          obtain rfl : acc = L := hpe
          have hd : decide ((l0_1.length : Int) < (l0_1.length : Int)) = false := by simp
          have hsort := sorted_string _ _ acc w wr HB.out HO.out HLL.out
          generalize hS : compactB (sortT acc) = S at hsort
          have HS := Aside0.mk hS
          clear hS
          go_wp2_with fail
          refine hsort.mono ?_
          rintro e w5 ⟨v5, rfl, hR5, hb5⟩
          clear hsort
          go_wp2
          go_ret2
          exact ⟨_, rfl, by have e := HS.out; rw [e]; exact hR5, hb5⟩
    · exact absurd h (by simp)

end Go.Proofs.YtepkhpnoibillaaDoor.PA
