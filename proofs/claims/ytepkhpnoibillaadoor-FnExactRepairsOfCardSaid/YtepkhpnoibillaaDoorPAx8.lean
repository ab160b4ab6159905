-- printed by xprint.py: the kit's print.py with given contracts
import Derived.Test.YtepkhpnoibillaaDoorPAx0
import Derived.Test.YtepkhpnoibillaaDoorPAx2
import Derived.Test.YtepkhpnoibillaaDoorPAx3
import Derived.Test.YtepkhpnoibillaaDoorPAx4
namespace Go.Proofs.YtepkhpnoibillaaDoor.PA
open Go.RowKit Go.Proofs.YtepkhpnoibillaaDoorW.PrintWords Go.Proofs.YtepkhpnoibillaaDoorW.PrintLast Go.Proofs.YtepkhpnoibillaaDoorW.PrintMore
attribute [local go_sem] max2_int min2_int max_two min_two max_three min_three max_four min_four   -- for this text's walks alone
set_option linter.unusedVariables false
set_option linter.unusedSimpArgs false

/-! ### spec_RepairsOf: function 21 -/
mutual
def spec_RepairsOf.l0 : Nat → ByteArray → List ByteArray → Int → Int → Int → List Int → Option (List ByteArray × Bool)
  | 0, _, _, _, _, _, _ => none
  | k + 1, x1, x6, x7, x8, x329000, x329001 => if x8 ≤ x7 then (spec_RepairsOf.l1 k x1 x6 x7 x8 0 x329000 x329001) else (some (x6, true))
def spec_RepairsOf.l1 : Nat → ByteArray → List ByteArray → Int → Int → Int → Int → List Int → Option (List ByteArray × Bool)
  | 0, _, _, _, _, _, _, _ => none
  | k + 1, x1, x6, x7, x8, x9, x329000, x329001 => if x9 < 11 then (if x8 < x7 then (if x9 = 10 then (spec_RepairsOf.j2 k x1 x6 x7 x8 x9 true x329000 x329001) else (if 0 ≤ x9 then (if 0 ≤ x8 then (if x8 < (x1.size : Int) then (spec_RepairsOf.j2 k x1 x6 x7 x8 x9 ((bt (⟨#[48, 49, 50, 51, 52, 53, 54, 55, 56, 57, 88]⟩ : ByteArray) x9) == (bt x1 x8)) x329000 x329001) else (none)) else (none)) else (none))) else (if 0 ≤ x9 then (if 0 ≤ x8 then (if x8 < (x1.size : Int) then (spec_RepairsOf.j2 k x1 x6 x7 x8 x9 ((bt (⟨#[48, 49, 50, 51, 52, 53, 54, 55, 56, 57, 88]⟩ : ByteArray) x9) == (bt x1 x8)) x329000 x329001) else (none)) else (none)) else (none))) else (spec_RepairsOf.l0 k x1 x6 x7 (wrap64 (x8 + 1)) x329000 x329001)
def spec_RepairsOf.j2 : Nat → ByteArray → List ByteArray → Int → Int → Int → Bool → Int → List Int → Option (List ByteArray × Bool)
  | 0, _, _, _, _, _, _, _, _ => none
  | k + 1, x1, x6, x7, x8, x9, x41, x329000, x329001 => if x41 = true then (spec_RepairsOf.l1 k x1 x6 x7 x8 (wrap64 (x9 + 1)) x329000 x329001) else (if 0 ≤ x8 then (if x8 ≤ (x1.size : Int) then (if 0 ≤ x9 then (if x9 ≤ (wrap64 (x9 + 1)) then (if (wrap64 (x9 + 1)) ≤ 11 then (if (x1.extract 0 (x8 : Int).toNat).size + ((⟨#[48, 49, 50, 51, 52, 53, 54, 55, 56, 57, 88]⟩ : ByteArray).extract (x9 : Int).toNat ((wrap64 (x9 + 1)) : Int).toNat).size ≤ 9223372036854775807 then (if 0 ≤ (wrap64 (x8 + 1)) then (if (wrap64 (x8 + 1)) ≤ (x1.size : Int) then (if ((x1.extract 0 (x8 : Int).toNat) ++ ((⟨#[48, 49, 50, 51, 52, 53, 54, 55, 56, 57, 88]⟩ : ByteArray).extract (x9 : Int).toNat ((wrap64 (x9 + 1)) : Int).toNat)).size + (x1.extract ((wrap64 (x8 + 1)) : Int).toNat x1.size).size ≤ 9223372036854775807 then ((spec_ckRight.f k x329000 x329001 (((x1.extract 0 (x8 : Int).toNat) ++ ((⟨#[48, 49, 50, 51, 52, 53, 54, 55, 56, 57, 88]⟩ : ByteArray).extract (x9 : Int).toNat ((wrap64 (x9 + 1)) : Int).toNat)) ++ (x1.extract ((wrap64 (x8 + 1)) : Int).toNat x1.size))).bind fun t330 => (if t330 = true then ((spec_ckPut.f k x6 (((x1.extract 0 (x8 : Int).toNat) ++ ((⟨#[48, 49, 50, 51, 52, 53, 54, 55, 56, 57, 88]⟩ : ByteArray).extract (x9 : Int).toNat ((wrap64 (x9 + 1)) : Int).toNat)) ++ (x1.extract ((wrap64 (x8 + 1)) : Int).toNat x1.size))).bind fun t331 => (spec_RepairsOf.l1 k x1 t331 x7 x8 (wrap64 (x9 + 1)) x329000 x329001)) else (spec_RepairsOf.l1 k x1 x6 x7 x8 (wrap64 (x9 + 1)) x329000 x329001))) else (none)) else (none)) else (none)) else (none)) else (none)) else (none)) else (none)) else (none)) else (none))
end
def spec_RepairsOf.f (k : Nat) (a0_0 : Int) (l0_1 : List Int) (a1 : ByteArray) : Option (List ByteArray × Bool) := (spec_ckNumber.f k a0_0 l0_1 a1).bind fun t329 => (if t329 = true then (spec_RepairsOf.l0 k a1 ([] : List ByteArray) (wrap64 ((a1.size : Int) - 1)) 0 a0_0 l0_1) else (some (([] : List ByteArray), false)))
theorem spec_RepairsOf.mono_l : ∀ k, (∀ y0 y1 y2 y3 y4 y5, LeO (spec_RepairsOf.l0 k y0 y1 y2 y3 y4 y5) (spec_RepairsOf.l0 (k + 1) y0 y1 y2 y3 y4 y5)) ∧ (∀ y0 y1 y2 y3 y4 y5 y6, LeO (spec_RepairsOf.l1 k y0 y1 y2 y3 y4 y5 y6) (spec_RepairsOf.l1 (k + 1) y0 y1 y2 y3 y4 y5 y6)) ∧ (∀ y0 y1 y2 y3 y4 y5 y6 y7, LeO (spec_RepairsOf.j2 k y0 y1 y2 y3 y4 y5 y6 y7) (spec_RepairsOf.j2 (k + 1) y0 y1 y2 y3 y4 y5 y6 y7))
  | 0 => ⟨fun _ _ _ _ _ _ r h => by simp [spec_RepairsOf.l0] at h, fun _ _ _ _ _ _ _ r h => by simp [spec_RepairsOf.l1] at h, fun _ _ _ _ _ _ _ _ r h => by simp [spec_RepairsOf.j2] at h⟩
  | k + 1 => by
    obtain ⟨ih0, ih1, ih2⟩ := spec_RepairsOf.mono_l k
    refine ⟨?_, ?_, ?_⟩
    · intro y0 y1 y2 y3 y4 y5
      unfold spec_RepairsOf.l0
      repeat' first
      | (with_reducible exact ih0 _ _ _ _ _ _)
      | (with_reducible exact ih1 _ _ _ _ _ _ _)
      | (with_reducible exact ih2 _ _ _ _ _ _ _ _)
      | (with_reducible exact spec_ckNumber.mono _ _ _ _)
      | (with_reducible exact spec_ckPut.mono _ _ _)
      | (with_reducible exact spec_ckRight.mono _ _ _ _)
      | (with_reducible exact LeO.refl _)
      | (with_reducible exact LeO.none _)
      | (with_reducible refine LeO.ite ?_ ?_)
      | (with_reducible refine LeO.bind ?_ (fun _ => ?_))
      | exact ih0 _ _ _ _ _ _
      | exact ih1 _ _ _ _ _ _ _
      | exact ih2 _ _ _ _ _ _ _ _
      | exact spec_ckNumber.mono _ _ _ _
      | exact spec_ckPut.mono _ _ _
      | exact spec_ckRight.mono _ _ _ _
      | exact LeO.none _
      | refine LeO.ite ?_ ?_
      | refine LeO.bind ?_ (fun _ => ?_)
    · intro y0 y1 y2 y3 y4 y5 y6
      unfold spec_RepairsOf.l1
      repeat' first
      | (with_reducible exact ih0 _ _ _ _ _ _)
      | (with_reducible exact ih1 _ _ _ _ _ _ _)
      | (with_reducible exact ih2 _ _ _ _ _ _ _ _)
      | (with_reducible exact spec_ckNumber.mono _ _ _ _)
      | (with_reducible exact spec_ckPut.mono _ _ _)
      | (with_reducible exact spec_ckRight.mono _ _ _ _)
      | (with_reducible exact LeO.refl _)
      | (with_reducible exact LeO.none _)
      | (with_reducible refine LeO.ite ?_ ?_)
      | (with_reducible refine LeO.bind ?_ (fun _ => ?_))
      | exact ih0 _ _ _ _ _ _
      | exact ih1 _ _ _ _ _ _ _
      | exact ih2 _ _ _ _ _ _ _ _
      | exact spec_ckNumber.mono _ _ _ _
      | exact spec_ckPut.mono _ _ _
      | exact spec_ckRight.mono _ _ _ _
      | exact LeO.none _
      | refine LeO.ite ?_ ?_
      | refine LeO.bind ?_ (fun _ => ?_)
    · intro y0 y1 y2 y3 y4 y5 y6 y7
      unfold spec_RepairsOf.j2
      repeat' first
      | (with_reducible exact ih0 _ _ _ _ _ _)
      | (with_reducible exact ih1 _ _ _ _ _ _ _)
      | (with_reducible exact ih2 _ _ _ _ _ _ _ _)
      | (with_reducible exact spec_ckNumber.mono _ _ _ _)
      | (with_reducible exact spec_ckPut.mono _ _ _)
      | (with_reducible exact spec_ckRight.mono _ _ _ _)
      | (with_reducible exact LeO.refl _)
      | (with_reducible exact LeO.none _)
      | (with_reducible refine LeO.ite ?_ ?_)
      | (with_reducible refine LeO.bind ?_ (fun _ => ?_))
      | exact ih0 _ _ _ _ _ _
      | exact ih1 _ _ _ _ _ _ _
      | exact ih2 _ _ _ _ _ _ _ _
      | exact spec_ckNumber.mono _ _ _ _
      | exact spec_ckPut.mono _ _ _
      | exact spec_ckRight.mono _ _ _ _
      | exact LeO.none _
      | refine LeO.ite ?_ ?_
      | refine LeO.bind ?_ (fun _ => ?_)
theorem spec_RepairsOf.mono : ∀ a0 a1 a2 k, LeO (spec_RepairsOf.f k a0 a1 a2) (spec_RepairsOf.f (k + 1) a0 a1 a2) := by
  intro a0 a1 a2 k
  obtain ⟨ih0, ih1, ih2⟩ := spec_RepairsOf.mono_l k
  unfold spec_RepairsOf.f
  repeat' first
      | (with_reducible exact ih0 _ _ _ _ _ _)
      | (with_reducible exact ih1 _ _ _ _ _ _ _)
      | (with_reducible exact ih2 _ _ _ _ _ _ _ _)
      | (with_reducible exact spec_ckNumber.mono _ _ _ _)
      | (with_reducible exact spec_ckPut.mono _ _ _)
      | (with_reducible exact spec_ckRight.mono _ _ _ _)
      | (with_reducible exact LeO.refl _)
      | (with_reducible exact LeO.none _)
      | (with_reducible refine LeO.ite ?_ ?_)
      | (with_reducible refine LeO.bind ?_ (fun _ => ?_))
      | exact ih0 _ _ _ _ _ _
      | exact ih1 _ _ _ _ _ _ _
      | exact ih2 _ _ _ _ _ _ _ _
      | exact spec_ckNumber.mono _ _ _ _
      | exact spec_ckPut.mono _ _ _
      | exact spec_ckRight.mono _ _ _ _
      | exact LeO.none _
      | refine LeO.ite ?_ ?_
      | refine LeO.bind ?_ (fun _ => ?_)
set_option maxHeartbeats 8000000 in
set_option maxRecDepth 100000 in
theorem spec_RepairsOf.calls (k : Nat) (a0_0 : Int) (A0_1 : Option Addr) (c0_1 : Nat) (l0_1 : List Int) (a1 : ByteArray) (r1 : List ByteArray) (r2 : Bool) (w : World) (hr0_1 : Kd.C (Kd.int .i64) w A0_1 l0_1.length l0_1) (hc0_1 : l0_1.length ≤ c0_1) (h : spec_RepairsOf.f k a0_0 l0_1 a1 = some (r1, r2)) :
    Calls Tryd.prog 21 #[.agg #[.int .i64 a0_0, .slice A0_1 l0_1.length c0_1], .string a1] w fun e w' => ∃ v0_ : Value, e = .returned (.tuple #[v0_, .bool r2]) ∧ Kd.R Kd.string 9 w' w.heap.size (fun _ => True) v0_ r1 ∧ Below w.heap.size w w' := by
  have hu28 := Tryd.underlying28
  have HR0_1 := Aside0.mk hr0_1
  have HC0_1 := Aside0.mk hc0_1
  clear hr0_1 hc0_1
  have HB := Aside0.mk (Below.refl w.heap.size w)
  have H : ((spec_ckNumber.f k a0_0 l0_1 a1).bind fun t329 => (if t329 = true then (spec_RepairsOf.l0 k a1 ([] : List ByteArray) (wrap64 ((a1.size : Int) - 1)) 0 a0_0 l0_1) else (some (([] : List ByteArray), false)))) = some (r1, r2) := h
  clear h
  replace H := Option.bind_eq_some_iff.mp H
  obtain ⟨t329, A30, H⟩ := H
  replace H : (if t329 = true then (spec_RepairsOf.l0 k a1 ([] : List ByteArray) (wrap64 ((a1.size : Int) - 1)) 0 a0_0 l0_1) else (some (([] : List ByteArray), false))) = some (r1, r2) := H
  have A3 := Aside0.mk A30
  clear A30
  by_cases c4 : t329 = true
  · subst c4
    have H1 : (spec_RepairsOf.l0 k a1 ([] : List ByteArray) (wrap64 ((a1.size : Int) - 1)) 0 a0_0 l0_1) = some (r1, r2) := by rw [if_pos rfl] at H; exact H
    clear H
    have H := H1
    clear H1
    have H' := Aside0.mk H
    clear H
    go_enter Tryd.func21, Tryd.ntmps21
    go_wp2_with (first | ((with_reducible refine gate_dst (N := 2) rfl ?_); refine box_event ?hg (N := 2) ?hd (cs := #[.int .i64 a0_0, .slice A0_1 l0_1.length c0_1]) (t := 28) ?hr ?_; (case hd => rfl); (case hg => rfl); (case hr => first | (go_simp; done) | (go_simp; rfl)); intro gb328 hg w5 hbox hb; have n0_ := Aside0.mk (below_step (by repeat (first | (with_reducible first | exact HB.out | apply below_alloc | apply pw_below_drewN | apply below_drew1) | exact HB.out)) hb); have n1_ := Aside0.mk (hbox); have n2_ := Aside0.mk ((by rw [hg]; exact (below_size (by repeat (first | (with_reducible first | exact HB.out | apply below_alloc | apply pw_below_drewN | apply below_drew1) | exact HB.out))) : w.heap.size ≤ gb328)); have n3_ := Aside0.mk ((by rw [hg]; exact (below_size (by repeat (first | (with_reducible first | exact HB.out | apply below_alloc | apply pw_below_drewN | apply below_drew1) | exact HB.out))) : w.heap.size ≤ gb328)); clear HB; have HB := n0_; have BK328 := n1_; have GW328 := n2_; have GE328 := n3_; clear n0_ n1_ n2_ n3_; clear hb hbox hg; have hcz6_0 : w5.cell? ⟨gb328, 0, none⟩ = some (.int .i64 a0_0) := (blk_cell BK328.out 0).trans rfl; have hcz6_1 : w5.cell? ⟨gb328, 1, none⟩ = some (.slice A0_1 l0_1.length c0_1) := (blk_cell BK328.out 1).trans rfl; have hfz6_0 := blk_frozen BK328.out 0; have hfz6_1 := blk_frozen BK328.out 1) | (go_at_call 27; (with_reducible refine (spec_ckNumber.calls k a0_0 _ _ l0_1 a1 true _ ?side1 ?side2 A3.out).mono ?_); (case side1 => repeat (first | exact (Kd.C_below HR0_1.out HB.out) | (with_reducible refine Kd.C_alloc ?_ _) | (with_reducible refine Kd.C_drewN ?_ _) | (with_reducible refine Kd.C_drew ?_))); (case side2 => exact HC0_1.out); rintro e w7 ⟨rfl, hb⟩; have n0_ := Aside0.mk (blk_below (g := gb328) (o := .cells #[.int .i64 a0_0, .slice A0_1 l0_1.length c0_1] 28 (0, 0)) (by (with_reducible repeat (first | refine blk_drewN ?_ _ | refine blk_drew ?_ | refine blk_alloc ?_ _)); exact BK328.out) hb); have n1_ := Aside0.mk (below_step (by repeat (first | (with_reducible first | exact HB.out | apply below_alloc | apply pw_below_drewN | apply below_drew1 | refine below_set ?_ GE328.out) | exact HB.out)) hb); clear BK328; clear HB; have BK328 := n0_; have HB := n1_; clear n0_ n1_; (try clear hb); (try clear hb2); (try clear hk); (try clear hi)))
    repeat (go_quiet (first | ((with_reducible refine gate_dst (N := 2) rfl ?_); refine box_event ?hg (N := 2) ?hd (cs := #[.int .i64 a0_0, .slice A0_1 l0_1.length c0_1]) (t := 28) ?hr ?_; (case hd => rfl); (case hg => rfl); (case hr => first | (go_simp; done) | (go_simp; rfl)); intro gb328 hg w5 hbox hb; have n0_ := Aside0.mk (below_step (by repeat (first | (with_reducible first | exact HB.out | apply below_alloc | apply pw_below_drewN | apply below_drew1) | exact HB.out)) hb); have n1_ := Aside0.mk (hbox); have n2_ := Aside0.mk ((by rw [hg]; exact (below_size (by repeat (first | (with_reducible first | exact HB.out | apply below_alloc | apply pw_below_drewN | apply below_drew1) | exact HB.out))) : w.heap.size ≤ gb328)); have n3_ := Aside0.mk ((by rw [hg]; exact (below_size (by repeat (first | (with_reducible first | exact HB.out | apply below_alloc | apply pw_below_drewN | apply below_drew1) | exact HB.out))) : w.heap.size ≤ gb328)); clear HB; have HB := n0_; have BK328 := n1_; have GW328 := n2_; have GE328 := n3_; clear n0_ n1_ n2_ n3_; clear hb hbox hg; have hcz6_0 : w5.cell? ⟨gb328, 0, none⟩ = some (.int .i64 a0_0) := (blk_cell BK328.out 0).trans rfl; have hcz6_1 : w5.cell? ⟨gb328, 1, none⟩ = some (.slice A0_1 l0_1.length c0_1) := (blk_cell BK328.out 1).trans rfl; have hfz6_0 := blk_frozen BK328.out 0; have hfz6_1 := blk_frozen BK328.out 1) | (go_at_call 27; (with_reducible refine (spec_ckNumber.calls k a0_0 _ _ l0_1 a1 true _ ?side1 ?side2 A3.out).mono ?_); (case side1 => repeat (first | exact (Kd.C_below HR0_1.out HB.out) | (with_reducible refine Kd.C_alloc ?_ _) | (with_reducible refine Kd.C_drewN ?_ _) | (with_reducible refine Kd.C_drew ?_))); (case side2 => exact HC0_1.out); rintro e w7 ⟨rfl, hb⟩; have n0_ := Aside0.mk (blk_below (g := gb328) (o := .cells #[.int .i64 a0_0, .slice A0_1 l0_1.length c0_1] 28 (0, 0)) (by (with_reducible repeat (first | refine blk_drewN ?_ _ | refine blk_drew ?_ | refine blk_alloc ?_ _)); exact BK328.out) hb); have n1_ := Aside0.mk (below_step (by repeat (first | (with_reducible first | exact HB.out | apply below_alloc | apply pw_below_drewN | apply below_drew1 | refine below_set ?_ GE328.out) | exact HB.out)) hb); clear BK328; clear HB; have BK328 := n0_; have HB := n1_; clear n0_ n1_; (try clear hb); (try clear hb2); (try clear hk); (try clear hi))); try go_wp2_with (first | ((with_reducible refine gate_dst (N := 2) rfl ?_); refine box_event ?hg (N := 2) ?hd (cs := #[.int .i64 a0_0, .slice A0_1 l0_1.length c0_1]) (t := 28) ?hr ?_; (case hd => rfl); (case hg => rfl); (case hr => first | (go_simp; done) | (go_simp; rfl)); intro gb328 hg w5 hbox hb; have n0_ := Aside0.mk (below_step (by repeat (first | (with_reducible first | exact HB.out | apply below_alloc | apply pw_below_drewN | apply below_drew1) | exact HB.out)) hb); have n1_ := Aside0.mk (hbox); have n2_ := Aside0.mk ((by rw [hg]; exact (below_size (by repeat (first | (with_reducible first | exact HB.out | apply below_alloc | apply pw_below_drewN | apply below_drew1) | exact HB.out))) : w.heap.size ≤ gb328)); have n3_ := Aside0.mk ((by rw [hg]; exact (below_size (by repeat (first | (with_reducible first | exact HB.out | apply below_alloc | apply pw_below_drewN | apply below_drew1) | exact HB.out))) : w.heap.size ≤ gb328)); clear HB; have HB := n0_; have BK328 := n1_; have GW328 := n2_; have GE328 := n3_; clear n0_ n1_ n2_ n3_; clear hb hbox hg; have hcz6_0 : w5.cell? ⟨gb328, 0, none⟩ = some (.int .i64 a0_0) := (blk_cell BK328.out 0).trans rfl; have hcz6_1 : w5.cell? ⟨gb328, 1, none⟩ = some (.slice A0_1 l0_1.length c0_1) := (blk_cell BK328.out 1).trans rfl; have hfz6_0 := blk_frozen BK328.out 0; have hfz6_1 := blk_frozen BK328.out 1) | (go_at_call 27; (with_reducible refine (spec_ckNumber.calls k a0_0 _ _ l0_1 a1 true _ ?side1 ?side2 A3.out).mono ?_); (case side1 => repeat (first | exact (Kd.C_below HR0_1.out HB.out) | (with_reducible refine Kd.C_alloc ?_ _) | (with_reducible refine Kd.C_drewN ?_ _) | (with_reducible refine Kd.C_drew ?_))); (case side2 => exact HC0_1.out); rintro e w7 ⟨rfl, hb⟩; have n0_ := Aside0.mk (blk_below (g := gb328) (o := .cells #[.int .i64 a0_0, .slice A0_1 l0_1.length c0_1] 28 (0, 0)) (by (with_reducible repeat (first | refine blk_drewN ?_ _ | refine blk_drew ?_ | refine blk_alloc ?_ _)); exact BK328.out) hb); have n1_ := Aside0.mk (below_step (by repeat (first | (with_reducible first | exact HB.out | apply below_alloc | apply pw_below_drewN | apply below_drew1 | refine below_set ?_ GE328.out) | exact HB.out)) hb); clear BK328; clear HB; have BK328 := n0_; have HB := n1_; clear n0_ n1_; (try clear hb); (try clear hb2); (try clear hk); (try clear hi))))
    go_loopg [6, 8] k (fun kq v6 v8 w' => ∃ (x6_1 : List ByteArray) (x8_1 : Int), v8 = .int .i64 x8_1 ∧ Aside0 (spec_RepairsOf.l0 kq a1 x6_1 (wrap64 ((a1.size : Int) - 1)) x8_1 a0_0 l0_1 = some (r1, r2)) ∧ Aside0 (kq ≤ k) ∧ Aside0 (Kd.R Kd.string 9 w' w.heap.size (fun _ => True) v6 x6_1) ∧ Aside0 (w'.heap[gb328]? = some (.cells #[.int .i64 a0_0, (.slice A0_1 l0_1.length c0_1)] 28 (0, 0))) ∧ Aside0 (Below w.heap.size w w'))
    case atStart => exact ⟨(([] : List ByteArray)), (0), (by first | rfl | (simp; done) | (simp [*]; done) | (simp [isEmpty_bne]; done) | (simp [i64_w]; done) | (simp only [i64_w]; done)), H', ⟨Nat.le_refl _⟩, ⟨by first | exact Kd.R_nil _ _ _ _ _ | exact Kd.N_nil _ _ _ _ _ | exact Kd.V_nil _ _ _ _ _ | exact Kd.Q_nil _ _ _ _ _ | exact Kd.S_nil _ _ _ _ _⟩, ⟨by (with_reducible repeat (first | refine blk_drewN ?_ _ | refine blk_drew ?_ | refine blk_alloc ?_ _)); exact BK328.out⟩, ⟨by repeat (first | (with_reducible first | exact HB.out | apply below_alloc | apply pw_below_drewN | apply below_drew1 | refine below_set ?_ GE328.out) | exact HB.out)⟩⟩
    case round =>
      clear H'
      try clear c2
      try clear p2
      try clear c4
      try clear p6
      try clear hcz6_0
      try clear hcz6_1
      try clear hfz6_0
      try clear hfz6_1
      obtain ⟨x6_1, x8_1, rfl, HA, HK1, HO_6, BK328, HB⟩ := hrel
      cases gk with
      | zero => exact absurd HA.out (by simp [spec_RepairsOf.l0])
      | succ k1 =>
        have H := HA.out
        clear HA
        simp only [spec_RepairsOf.l0] at H
        by_cases c8 : x8_1 ≤ (wrap64 ((a1.size : Int) - 1))
        · rw [if_pos c8] at H
          have c8b0 : decide (x8_1 ≤ (wrap64 ((a1.size : Int) - 1))) = true := decide_eq_true c8
          clear c8
          have H' := Aside0.mk H
          clear H
          go_wp2
          repeat (go_quiet (fail); try go_wp2)
          go_loopg [6, 9] k1 (fun kq v6 v9 w' => ∃ (x6_2 : List ByteArray) (x9_2 : Int), v9 = .int .i64 x9_2 ∧ Aside0 (spec_RepairsOf.l1 kq a1 x6_2 (wrap64 ((a1.size : Int) - 1)) x8_1 x9_2 a0_0 l0_1 = some (r1, r2)) ∧ Aside0 (kq ≤ k1) ∧ Aside0 (Kd.R Kd.string 9 w' w.heap.size (fun _ => True) v6 x6_2) ∧ Aside0 (w'.heap[gb328]? = some (.cells #[.int .i64 a0_0, (.slice A0_1 l0_1.length c0_1)] 28 (0, 0))) ∧ Aside0 (Below w.heap.size w w'))
          case atStart => exact ⟨(x6_1), (0), (by first | rfl | (simp; done) | (simp [*]; done) | (simp [isEmpty_bne]; done) | (simp [i64_w]; done) | (simp only [i64_w]; done)), H', ⟨Nat.le_refl _⟩, ⟨by (with_reducible repeat (first | apply Kd.R_alloc | apply Kd.R_drewN | apply Kd.R_drew)); exact HO_6.out⟩, ⟨by (with_reducible repeat (first | refine blk_drewN ?_ _ | refine blk_drew ?_ | refine blk_alloc ?_ _)); exact BK328.out⟩, ⟨by repeat (first | (with_reducible first | exact HB.out | apply below_alloc | apply pw_below_drewN | apply below_drew1 | refine below_set ?_ GE328.out) | exact HB.out)⟩⟩
          case round =>
            clear H'
            try clear c2
            try clear p2
            try clear c4
            try clear p6
            try clear c8
            try clear c8b0
            try clear hcz6_0
            try clear hcz6_1
            try clear hfz6_0
            try clear hfz6_1
            try clear p2
            try clear p6
            obtain ⟨x6_2, x9_2, rfl, HA, HK2, HO_6, BK328, HB⟩ := hrel
            cases gk with
            | zero => exact absurd HA.out (by simp [spec_RepairsOf.l1])
            | succ k2 =>
              have H := HA.out
              clear HA
              simp only [spec_RepairsOf.l1] at H
              by_cases c9 : x9_2 < 11
              · rw [if_pos c9] at H
                have c9b0 : decide (x9_2 < 11) = true := decide_eq_true c9
                clear c9
                have HC10 := Aside0.mk H
                clear H
                go_upto_region 11 with (fail)
                repeat (go_quiet (fail); go_upto_region 11 with (fail))
                go_cut [41] (fun v41 wc => ∃ (kq : Nat) (x41_9 : Bool), v41 = .bool x41_9 ∧ Aside0 (spec_RepairsOf.j2 kq a1 x6_2 (wrap64 ((a1.size : Int) - 1)) x8_1 x9_2 x41_9 a0_0 l0_1 = some (r1, r2)) ∧ Aside0 (kq ≤ k2) ∧ Aside0 (Kd.R Kd.string 9 wc w.heap.size (fun _ => True) u6 x6_2) ∧ Aside0 (wc.heap[gb328]? = some (.cells #[.int .i64 a0_0, (.slice A0_1 l0_1.length c0_1)] 28 (0, 0))) ∧ Aside0 (Below w.heap.size w wc))
                case first =>
                  have H := HC10.out
                  clear HC10
                  by_cases c11 : x8_1 < (wrap64 ((a1.size : Int) - 1))
                  · rw [if_pos c11] at H
                    have c11b0 : decide (x8_1 < (wrap64 ((a1.size : Int) - 1))) = true := decide_eq_true c11
                    clear c11
                    (first | rw [c11b0] | (simp only [i64_w, i32_w]; rw [c11b0]) | skip)
                    by_cases c12 : x9_2 = 10
                    · rw [if_pos c12] at H
                      have c12b0 : (x9_2 == 10) = true := beq_iff_eq.mpr c12
                      have c12b1 : (x9_2 != 10) = false := bne_eq_false_iff_eq.mpr c12
                      clear c12
                      have H' := Aside0.mk H
                      clear H
                      go_wp2
                      repeat (go_quiet (fail); try go_wp2)
                      go_meet
                      case rel => exact ⟨_, (true), (by first | rfl | (simp; done) | (simp [*]; done) | (simp [isEmpty_bne]; done) | (simp [i64_w]; done) | (simp only [i64_w]; done)), H', ⟨by have := HK1.out; have := HK2.out; first | omega | exact Nat.le_refl _⟩, ⟨by (with_reducible repeat (first | apply Kd.R_alloc | apply Kd.R_drewN | apply Kd.R_drew)); exact HO_6.out⟩, ⟨by (with_reducible repeat (first | refine blk_drewN ?_ _ | refine blk_drew ?_ | refine blk_alloc ?_ _)); exact BK328.out⟩, ⟨by repeat (first | (with_reducible first | exact HB.out | apply below_alloc | apply pw_below_drewN | apply below_drew1 | refine below_set ?_ GE328.out) | exact HB.out)⟩⟩
                    · rw [if_neg c12] at H
                      have c12b0 : (x9_2 == 10) = false := beq_eq_false_iff_ne.mpr c12
                      have c12b1 : (x9_2 != 10) = true := bne_iff_ne.mpr c12
                      by_cases c13 : 0 ≤ x9_2
                      · rw [if_pos c13] at H
                        have c13b0 : decide (0 ≤ x9_2) = true := decide_eq_true c13
                        clear c13
                        by_cases c15 : 0 ≤ x8_1
                        · rw [if_pos c15] at H
                          have c15b0 : decide (0 ≤ x8_1) = true := decide_eq_true c15
                          clear c15
                          by_cases c16 : x8_1 < (a1.size : Int)
                          · rw [if_pos c16] at H
                            have c16b0 : decide (x8_1 < (a1.size : Int)) = true := decide_eq_true c16
                            clear c16
                            have H' := Aside0.mk H
                            clear H
                            have p14 : 0 ≤ (x9_2 : Int) := of_decide_eq_true (by first | (with_reducible assumption) | assumption)
                            have q14 : x9_2 < (11 : Int) := of_decide_eq_true (by first | (with_reducible assumption) | assumption)
                            have hx14 := bt_at (⟨#[48, 49, 50, 51, 52, 53, 54, 55, 56, 57, 88]⟩ : ByteArray) x9_2
                            replace p14 := eq_true p14
                            replace q14 := eq_true q14
                            have p17 : 0 ≤ (x8_1 : Int) := of_decide_eq_true (by first | (with_reducible assumption) | assumption)
                            have q17 : x8_1 < (a1.size : Int) := of_decide_eq_true (by first | (with_reducible assumption) | assumption)
                            have hx17 := bt_at a1 x8_1
                            replace p17 := eq_true p17
                            replace q17 := eq_true q17
                            go_wp2
                            repeat (go_quiet (fail); try go_wp2)
                            go_meet
                            case rel => exact ⟨_, (((bt (⟨#[48, 49, 50, 51, 52, 53, 54, 55, 56, 57, 88]⟩ : ByteArray) x9_2) == (bt a1 x8_1))), (by first | rfl | (simp; done) | (simp [*]; done) | (simp [isEmpty_bne]; done) | (simp [i64_w]; done) | (simp only [i64_w]; done)), H', ⟨by have := HK1.out; have := HK2.out; first | omega | exact Nat.le_refl _⟩, ⟨by (with_reducible repeat (first | apply Kd.R_alloc | apply Kd.R_drewN | apply Kd.R_drew)); exact HO_6.out⟩, ⟨by (with_reducible repeat (first | refine blk_drewN ?_ _ | refine blk_drew ?_ | refine blk_alloc ?_ _)); exact BK328.out⟩, ⟨by repeat (first | (with_reducible first | exact HB.out | apply below_alloc | apply pw_below_drewN | apply below_drew1 | refine below_set ?_ GE328.out) | exact HB.out)⟩⟩
                          · rw [if_neg c16] at H
                            exact absurd H (by simp)
                        · rw [if_neg c15] at H
                          exact absurd H (by simp)
                      · rw [if_neg c13] at H
                        exact absurd H (by simp)
                  · rw [if_neg c11] at H
                    have c11b0 : decide (x8_1 < (wrap64 ((a1.size : Int) - 1))) = false := decide_eq_false c11
                    clear c11
                    (first | rw [c11b0] | (simp only [i64_w, i32_w]; rw [c11b0]) | skip)
                    by_cases c18 : 0 ≤ x9_2
                    · rw [if_pos c18] at H
                      have c18b0 : decide (0 ≤ x9_2) = true := decide_eq_true c18
                      clear c18
                      by_cases c20 : 0 ≤ x8_1
                      · rw [if_pos c20] at H
                        have c20b0 : decide (0 ≤ x8_1) = true := decide_eq_true c20
                        clear c20
                        by_cases c21 : x8_1 < (a1.size : Int)
                        · rw [if_pos c21] at H
                          have c21b0 : decide (x8_1 < (a1.size : Int)) = true := decide_eq_true c21
                          clear c21
                          have H' := Aside0.mk H
                          clear H
                          have p19 : 0 ≤ (x9_2 : Int) := of_decide_eq_true (by first | (with_reducible assumption) | assumption)
                          have q19 : x9_2 < (11 : Int) := of_decide_eq_true (by first | (with_reducible assumption) | assumption)
                          have hx19 := bt_at (⟨#[48, 49, 50, 51, 52, 53, 54, 55, 56, 57, 88]⟩ : ByteArray) x9_2
                          replace p19 := eq_true p19
                          replace q19 := eq_true q19
                          have p22 : 0 ≤ (x8_1 : Int) := of_decide_eq_true (by first | (with_reducible assumption) | assumption)
                          have q22 : x8_1 < (a1.size : Int) := of_decide_eq_true (by first | (with_reducible assumption) | assumption)
                          have hx22 := bt_at a1 x8_1
                          replace p22 := eq_true p22
                          replace q22 := eq_true q22
                          go_wp2
                          repeat (go_quiet (fail); try go_wp2)
                          go_meet
                          case rel => exact ⟨_, (((bt (⟨#[48, 49, 50, 51, 52, 53, 54, 55, 56, 57, 88]⟩ : ByteArray) x9_2) == (bt a1 x8_1))), (by first | rfl | (simp; done) | (simp [*]; done) | (simp [isEmpty_bne]; done) | (simp [i64_w]; done) | (simp only [i64_w]; done)), H', ⟨by have := HK1.out; have := HK2.out; first | omega | exact Nat.le_refl _⟩, ⟨by (with_reducible repeat (first | apply Kd.R_alloc | apply Kd.R_drewN | apply Kd.R_drew)); exact HO_6.out⟩, ⟨by (with_reducible repeat (first | refine blk_drewN ?_ _ | refine blk_drew ?_ | refine blk_alloc ?_ _)); exact BK328.out⟩, ⟨by repeat (first | (with_reducible first | exact HB.out | apply below_alloc | apply pw_below_drewN | apply below_drew1 | refine below_set ?_ GE328.out) | exact HB.out)⟩⟩
                        · rw [if_neg c21] at H
                          exact absurd H (by simp)
                      · rw [if_neg c20] at H
                        exact absurd H (by simp)
                    · rw [if_neg c18] at H
                      exact absurd H (by simp)
                case rest =>
                  clear HC10
                  try clear c1
                  try clear p1
                  try clear q1
                  try clear hx1
                  try clear c2
                  try clear p2
                  try clear q2
                  try clear hx2
                  try clear c4
                  try clear p6
                  try clear c8
                  try clear c8b0
                  try clear c9
                  try clear c9b0
                  try clear c11
                  try clear c11b0
                  try clear c12
                  try clear c12b0
                  try clear c12b1
                  try clear c13
                  try clear c13b0
                  try clear p14
                  try clear q14
                  try clear hx14
                  try clear c15
                  try clear c15b0
                  try clear c16
                  try clear c16b0
                  try clear p17
                  try clear q17
                  try clear hx17
                  try clear c18
                  try clear c18b0
                  try clear p19
                  try clear q19
                  try clear hx19
                  try clear c20
                  try clear c20b0
                  try clear c21
                  try clear c21b0
                  try clear p22
                  try clear q22
                  try clear hx22
                  try clear hcz6_0
                  try clear hcz6_1
                  try clear hfz6_0
                  try clear hfz6_1
                  try clear p14
                  try clear p17
                  try clear p19
                  try clear p2
                  try clear p22
                  try clear p6
                  try clear q14
                  try clear q17
                  try clear q19
                  try clear q22
                  obtain ⟨kq, x41_9, rfl, HA, HJ9, HO_6, BK328, HB⟩ := hcut
                  cases kq with
                  | zero => exact absurd HA.out (by simp [spec_RepairsOf.j2])
                  | succ kj9 =>
                    have H := HA.out
                    clear HA
                    simp only [spec_RepairsOf.j2] at H
                    by_cases c23 : x41_9 = true
                    · subst c23
                      have H1 : (spec_RepairsOf.l1 kj9 a1 x6_2 (wrap64 ((a1.size : Int) - 1)) x8_1 (wrap64 (x9_2 + 1)) a0_0 l0_1) = some (r1, r2) := by rw [if_pos rfl] at H; exact H
                      clear H
                      have H := H1
                      clear H1
                      have H' := Aside0.mk H
                      clear H
                      go_wp2
                      repeat (go_quiet (fail); try go_wp2)
                      go_roundg kj9
                      case measure => have := HK1.out; have := HK2.out; have := HJ9.out; omega
                      case rel => exact ⟨(x6_2), (wrap64 (x9_2 + 1)), (by first | rfl | (simp; done) | (simp [*]; done) | (simp [isEmpty_bne]; done) | (simp [i64_w]; done) | (simp only [i64_w]; done)), H', ⟨by have := HK1.out; have := HK2.out; have := HJ9.out; omega⟩, ⟨by (with_reducible repeat (first | apply Kd.R_alloc | apply Kd.R_drewN | apply Kd.R_drew)); exact HO_6.out⟩, ⟨by (with_reducible repeat (first | refine blk_drewN ?_ _ | refine blk_drew ?_ | refine blk_alloc ?_ _)); exact BK328.out⟩, ⟨by repeat (first | (with_reducible first | exact HB.out | apply below_alloc | apply pw_below_drewN | apply below_drew1 | refine below_set ?_ GE328.out) | exact HB.out)⟩⟩
                    · replace c23 := Bool.eq_false_iff.mpr c23
                      subst c23
                      have H1 : (if 0 ≤ x8_1 then (if x8_1 ≤ (a1.size : Int) then (if 0 ≤ x9_2 then (if x9_2 ≤ (wrap64 (x9_2 + 1)) then (if (wrap64 (x9_2 + 1)) ≤ 11 then (if (a1.extract 0 (x8_1 : Int).toNat).size + ((⟨#[48, 49, 50, 51, 52, 53, 54, 55, 56, 57, 88]⟩ : ByteArray).extract (x9_2 : Int).toNat ((wrap64 (x9_2 + 1)) : Int).toNat).size ≤ 9223372036854775807 then (if 0 ≤ (wrap64 (x8_1 + 1)) then (if (wrap64 (x8_1 + 1)) ≤ (a1.size : Int) then (if ((a1.extract 0 (x8_1 : Int).toNat) ++ ((⟨#[48, 49, 50, 51, 52, 53, 54, 55, 56, 57, 88]⟩ : ByteArray).extract (x9_2 : Int).toNat ((wrap64 (x9_2 + 1)) : Int).toNat)).size + (a1.extract ((wrap64 (x8_1 + 1)) : Int).toNat a1.size).size ≤ 9223372036854775807 then ((spec_ckRight.f kj9 a0_0 l0_1 (((a1.extract 0 (x8_1 : Int).toNat) ++ ((⟨#[48, 49, 50, 51, 52, 53, 54, 55, 56, 57, 88]⟩ : ByteArray).extract (x9_2 : Int).toNat ((wrap64 (x9_2 + 1)) : Int).toNat)) ++ (a1.extract ((wrap64 (x8_1 + 1)) : Int).toNat a1.size))).bind fun t330 => (if t330 = true then ((spec_ckPut.f kj9 x6_2 (((a1.extract 0 (x8_1 : Int).toNat) ++ ((⟨#[48, 49, 50, 51, 52, 53, 54, 55, 56, 57, 88]⟩ : ByteArray).extract (x9_2 : Int).toNat ((wrap64 (x9_2 + 1)) : Int).toNat)) ++ (a1.extract ((wrap64 (x8_1 + 1)) : Int).toNat a1.size))).bind fun t331 => (spec_RepairsOf.l1 kj9 a1 t331 (wrap64 ((a1.size : Int) - 1)) x8_1 (wrap64 (x9_2 + 1)) a0_0 l0_1)) else (spec_RepairsOf.l1 kj9 a1 x6_2 (wrap64 ((a1.size : Int) - 1)) x8_1 (wrap64 (x9_2 + 1)) a0_0 l0_1))) else (none)) else (none)) else (none)) else (none)) else (none)) else (none)) else (none)) else (none)) else (none)) = some (r1, r2) := by rw [if_neg (show ¬ (false = true) by decide)] at H; exact H
                      clear H
                      have H := H1
                      clear H1
                      by_cases c24 : 0 ≤ x8_1
                      · rw [if_pos c24] at H
                        have c24b0 := eq_true c24
                        have c24b1 : decide (0 ≤ x8_1) = true := decide_eq_true c24
                        clear c24
                        by_cases c25 : x8_1 ≤ (a1.size : Int)
                        · rw [if_pos c25] at H
                          have c25b0 := eq_true c25
                          have c25b1 : decide (x8_1 ≤ (a1.size : Int)) = true := decide_eq_true c25
                          clear c25
                          by_cases c26 : 0 ≤ x9_2
                          · rw [if_pos c26] at H
                            have c26b0 := eq_true c26
                            have c26b1 : decide (0 ≤ x9_2) = true := decide_eq_true c26
                            clear c26
                            by_cases c27 : x9_2 ≤ (wrap64 (x9_2 + 1))
                            · rw [if_pos c27] at H
                              have c27b0 := eq_true c27
                              have c27b1 : decide (x9_2 ≤ (wrap64 (x9_2 + 1))) = true := decide_eq_true c27
                              by_cases c28 : (wrap64 (x9_2 + 1)) ≤ 11
                              · rw [if_pos c28] at H
                                have c28b0 := eq_true c28
                                have c28b1 : decide ((wrap64 (x9_2 + 1)) ≤ 11) = true := decide_eq_true c28
                                by_cases c29 : (a1.extract 0 (x8_1 : Int).toNat).size + ((⟨#[48, 49, 50, 51, 52, 53, 54, 55, 56, 57, 88]⟩ : ByteArray).extract (x9_2 : Int).toNat ((wrap64 (x9_2 + 1)) : Int).toNat).size ≤ 9223372036854775807
                                · rw [if_pos c29] at H
                                  have c29b0 := eq_true c29
                                  have c29b1 : decide ((a1.extract 0 (x8_1 : Int).toNat).size + ((⟨#[48, 49, 50, 51, 52, 53, 54, 55, 56, 57, 88]⟩ : ByteArray).extract (x9_2 : Int).toNat ((wrap64 (x9_2 + 1)) : Int).toNat).size ≤ 9223372036854775807) = true := decide_eq_true c29
                                  try have c29b2 : (9223372036854775807 < (a1.extract 0 (x8_1 : Int).toNat).size + ((⟨#[48, 49, 50, 51, 52, 53, 54, 55, 56, 57, 88]⟩ : ByteArray).extract (x9_2 : Int).toNat ((wrap64 (x9_2 + 1)) : Int).toNat).size) = False := eq_false (Nat.not_lt.2 c29)
                                  try have c29b4 : (9223372036854775807 < x8_1.toNat + ((wrap64 (x9_2 + 1)).toNat - x9_2.toNat)) = False := eq_false (Nat.not_lt.2 (by have h := c29; simp only [ByteArray.size_append, ByteArray.size_extract] at h; (try have hb0 : x8_1 ≤ (a1.size : Int) := of_eq_true (by assumption)); (try have hb1 : (wrap64 (x9_2 + 1)) ≤ (11 : Int) := of_eq_true (by assumption)); have hl0 : (⟨#[48, 49, 50, 51, 52, 53, 54, 55, 56, 57, 88]⟩ : ByteArray).size = 11 := rfl; omega))
                                  obtain ⟨ji30, hji30⟩ : ∃ j_ : Int, (wrap64 (x8_1 + 1)) = j_ := ⟨_, rfl⟩
                                  replace H : (if 0 ≤ (ji30) then (if (ji30) ≤ (a1.size : Int) then (if ((a1.extract 0 (x8_1 : Int).toNat) ++ ((⟨#[48, 49, 50, 51, 52, 53, 54, 55, 56, 57, 88]⟩ : ByteArray).extract (x9_2 : Int).toNat ((wrap64 (x9_2 + 1)) : Int).toNat)).size + (a1.extract ((ji30) : Int).toNat a1.size).size ≤ 9223372036854775807 then ((spec_ckRight.f kj9 a0_0 l0_1 (((a1.extract 0 (x8_1 : Int).toNat) ++ ((⟨#[48, 49, 50, 51, 52, 53, 54, 55, 56, 57, 88]⟩ : ByteArray).extract (x9_2 : Int).toNat ((wrap64 (x9_2 + 1)) : Int).toNat)) ++ (a1.extract ((ji30) : Int).toNat a1.size))).bind fun t330 => (if t330 = true then ((spec_ckPut.f kj9 x6_2 (((a1.extract 0 (x8_1 : Int).toNat) ++ ((⟨#[48, 49, 50, 51, 52, 53, 54, 55, 56, 57, 88]⟩ : ByteArray).extract (x9_2 : Int).toNat ((wrap64 (x9_2 + 1)) : Int).toNat)) ++ (a1.extract ((ji30) : Int).toNat a1.size))).bind fun t331 => (spec_RepairsOf.l1 kj9 a1 t331 (wrap64 ((a1.size : Int) - 1)) x8_1 (wrap64 (x9_2 + 1)) a0_0 l0_1)) else (spec_RepairsOf.l1 kj9 a1 x6_2 (wrap64 ((a1.size : Int) - 1)) x8_1 (wrap64 (x9_2 + 1)) a0_0 l0_1))) else (none)) else (none)) else (none)) = some (r1, r2) := by first | (rw [hji30] at H; exact H) | (simp only [hji30] at H ⊢; exact H)
                                  have hji30w : (IntKind.i64.wrap (x8_1 + 1)) = ji30 := (i64_w _).trans hji30
                                  by_cases c31 : 0 ≤ (ji30)
                                  · rw [if_pos c31] at H
                                    have c31b0 := eq_true c31
                                    have c31b1 : decide (0 ≤ (ji30)) = true := decide_eq_true c31
                                    clear c31
                                    by_cases c32 : (ji30) ≤ (a1.size : Int)
                                    · rw [if_pos c32] at H
                                      have c32b0 := eq_true c32
                                      have c32b1 : decide ((ji30) ≤ (a1.size : Int)) = true := decide_eq_true c32
                                      clear c32
                                      by_cases c33 : ((a1.extract 0 (x8_1 : Int).toNat) ++ ((⟨#[48, 49, 50, 51, 52, 53, 54, 55, 56, 57, 88]⟩ : ByteArray).extract (x9_2 : Int).toNat ((wrap64 (x9_2 + 1)) : Int).toNat)).size + (a1.extract ((ji30) : Int).toNat a1.size).size ≤ 9223372036854775807
                                      · rw [if_pos c33] at H
                                        have c33b0 := eq_true c33
                                        have c33b1 : decide (((a1.extract 0 (x8_1 : Int).toNat) ++ ((⟨#[48, 49, 50, 51, 52, 53, 54, 55, 56, 57, 88]⟩ : ByteArray).extract (x9_2 : Int).toNat ((wrap64 (x9_2 + 1)) : Int).toNat)).size + (a1.extract ((ji30) : Int).toNat a1.size).size ≤ 9223372036854775807) = true := decide_eq_true c33
                                        try have c33b2 : (9223372036854775807 < ((a1.extract 0 (x8_1 : Int).toNat) ++ ((⟨#[48, 49, 50, 51, 52, 53, 54, 55, 56, 57, 88]⟩ : ByteArray).extract (x9_2 : Int).toNat ((wrap64 (x9_2 + 1)) : Int).toNat)).size + (a1.extract ((ji30) : Int).toNat a1.size).size) = False := eq_false (Nat.not_lt.2 c33)
                                        try have c33b4 : (9223372036854775807 < x8_1.toNat + ((wrap64 (x9_2 + 1)).toNat - x9_2.toNat) + (a1.size - ji30.toNat)) = False := eq_false (Nat.not_lt.2 (by have h := c33; simp only [ByteArray.size_append, ByteArray.size_extract] at h; (try have hb0 : x8_1 ≤ (a1.size : Int) := of_eq_true (by assumption)); (try have hb1 : (wrap64 (x9_2 + 1)) ≤ (11 : Int) := of_eq_true (by assumption)); have hl0 : (⟨#[48, 49, 50, 51, 52, 53, 54, 55, 56, 57, 88]⟩ : ByteArray).size = 11 := rfl; omega))
                                        try have c33b3 : (9223372036854775807 < (a1.extract 0 (x8_1 : Int).toNat).size + ((⟨#[48, 49, 50, 51, 52, 53, 54, 55, 56, 57, 88]⟩ : ByteArray).extract (x9_2 : Int).toNat ((wrap64 (x9_2 + 1)) : Int).toNat).size + (a1.extract ((ji30) : Int).toNat a1.size).size) = False := eq_false (Nat.not_lt.2 (by have h := c33; simp only [ByteArray.size_append] at h; exact h))
                                        replace H := Option.bind_eq_some_iff.mp H
                                        obtain ⟨t330, A340, H⟩ := H
                                        replace H : (if t330 = true then ((spec_ckPut.f kj9 x6_2 (((a1.extract 0 (x8_1 : Int).toNat) ++ ((⟨#[48, 49, 50, 51, 52, 53, 54, 55, 56, 57, 88]⟩ : ByteArray).extract (x9_2 : Int).toNat ((wrap64 (x9_2 + 1)) : Int).toNat)) ++ (a1.extract ((ji30) : Int).toNat a1.size))).bind fun t331 => (spec_RepairsOf.l1 kj9 a1 t331 (wrap64 ((a1.size : Int) - 1)) x8_1 (wrap64 (x9_2 + 1)) a0_0 l0_1)) else (spec_RepairsOf.l1 kj9 a1 x6_2 (wrap64 ((a1.size : Int) - 1)) x8_1 (wrap64 (x9_2 + 1)) a0_0 l0_1)) = some (r1, r2) := H
                                        have A34 := Aside0.mk A340
                                        clear A340
                                        by_cases c35 : t330 = true
                                        · subst c35
                                          have H1 : ((spec_ckPut.f kj9 x6_2 (((a1.extract 0 (x8_1 : Int).toNat) ++ ((⟨#[48, 49, 50, 51, 52, 53, 54, 55, 56, 57, 88]⟩ : ByteArray).extract (x9_2 : Int).toNat ((wrap64 (x9_2 + 1)) : Int).toNat)) ++ (a1.extract ((ji30) : Int).toNat a1.size))).bind fun t331 => (spec_RepairsOf.l1 kj9 a1 t331 (wrap64 ((a1.size : Int) - 1)) x8_1 (wrap64 (x9_2 + 1)) a0_0 l0_1)) = some (r1, r2) := by rw [if_pos rfl] at H; exact H
                                          clear H
                                          have H := H1
                                          clear H1
                                          replace H := Option.bind_eq_some_iff.mp H
                                          obtain ⟨t331, A360, H⟩ := H
                                          replace H : (spec_RepairsOf.l1 kj9 a1 t331 (wrap64 ((a1.size : Int) - 1)) x8_1 (wrap64 (x9_2 + 1)) a0_0 l0_1) = some (r1, r2) := H
                                          have A36 := Aside0.mk A360
                                          clear A360
                                          have H' := Aside0.mk H
                                          clear H
                                          have hcz37_0 : wc.cell? ⟨gb328, 0, none⟩ = some (.int .i64 a0_0) := (blk_cell BK328.out 0).trans rfl
                                          have hcz37_1 : wc.cell? ⟨gb328, 1, none⟩ = some (.slice A0_1 l0_1.length c0_1) := (blk_cell BK328.out 1).trans rfl
                                          have hfz37_0 := blk_frozen BK328.out 0
                                          have hfz37_1 := blk_frozen BK328.out 1
                                          go_wp2_with (first | (go_at_call 29; (with_reducible refine (spec_ckRight.calls kj9 a0_0 _ _ l0_1 (((a1.extract 0 (x8_1 : Int).toNat) ++ ((⟨#[48, 49, 50, 51, 52, 53, 54, 55, 56, 57, 88]⟩ : ByteArray).extract (x9_2 : Int).toNat ((wrap64 (x9_2 + 1)) : Int).toNat)) ++ (a1.extract ((ji30) : Int).toNat a1.size)) true _ ?side1 ?side2 A34.out).mono ?_); (case side1 => repeat (first | exact (Kd.C_below HR0_1.out HB.out) | (with_reducible refine Kd.C_alloc ?_ _) | (with_reducible refine Kd.C_drewN ?_ _) | (with_reducible refine Kd.C_drew ?_))); (case side2 => exact HC0_1.out); rintro e w38 ⟨rfl, hb⟩; have n0_ := Aside0.mk (Kd.R_below (by (with_reducible repeat (first | apply Kd.R_alloc | apply Kd.R_drewN | apply Kd.R_drew)); exact HO_6.out) hb); have n1_ := Aside0.mk (blk_below (g := gb328) (o := .cells #[.int .i64 a0_0, .slice A0_1 l0_1.length c0_1] 28 (0, 0)) (by (with_reducible repeat (first | refine blk_drewN ?_ _ | refine blk_drew ?_ | refine blk_alloc ?_ _)); exact BK328.out) hb); have n2_ := Aside0.mk (below_step (by repeat (first | (with_reducible first | exact HB.out | apply below_alloc | apply pw_below_drewN | apply below_drew1 | refine below_set ?_ GE328.out) | exact HB.out)) hb); clear HO_6; clear BK328; clear HB; have HO_6 := n0_; have BK328 := n1_; have HB := n2_; clear n0_ n1_ n2_; (try clear hb); (try clear hb2); (try clear hk); (try clear hi); obtain ⟨Ao39, co39, eo39⟩ := Kd.R_slice HO_6.out; subst eo39) | (go_at_call 47; (with_reducible refine (spec_ckPut.calls kj9 (fun k_ => some k_ = (.slice Ao39 x6_2.length co39 : Value).ownBlock) (.slice Ao39 x6_2.length co39) x6_2 (((a1.extract 0 (x8_1 : Int).toNat) ++ ((⟨#[48, 49, 50, 51, 52, 53, 54, 55, 56, 57, 88]⟩ : ByteArray).extract (x9_2 : Int).toNat ((wrap64 (x9_2 + 1)) : Int).toNat)) ++ (a1.extract ((ji30) : Int).toNat a1.size)) t331 w _ ?side1 ?side2 A36.out).mono ?_); (case side1 => repeat (first | (with_reducible first | exact HB.out | apply below_alloc | apply pw_below_drewN | apply below_drew1 | refine below_set ?_ GE328.out) | exact HB.out)); (case side2 => exact Kd.R_tight rfl HO_6.out); rintro e w40 ⟨v332, rfl, ho0, hb, hkp⟩; have n0_ := Aside0.mk (blk_kept (by (with_reducible repeat (first | refine blk_drewN ?_ _ | refine blk_drew ?_ | refine blk_alloc ?_ _)); exact BK328.out) hkp (fun hs_ => (fun e_ => (Kd.R_ne HO_6.out BK328.out (by decide)) e_) hs_)); have n1_ := Aside0.mk (Kd.R_mono (ok' := fun k_ => True) ho0 (fun k_ hk_ => trivial)); have n2_ := Aside0.mk (hb); clear BK328; clear HB; clear HO_6; have BK328 := n0_; have HO333 := n1_; have HB := n2_; clear n0_ n1_ n2_; (try clear hb); (try clear hkp); (try clear ho0)))
                                          repeat (go_quiet (first | (go_at_call 29; (with_reducible refine (spec_ckRight.calls kj9 a0_0 _ _ l0_1 (((a1.extract 0 (x8_1 : Int).toNat) ++ ((⟨#[48, 49, 50, 51, 52, 53, 54, 55, 56, 57, 88]⟩ : ByteArray).extract (x9_2 : Int).toNat ((wrap64 (x9_2 + 1)) : Int).toNat)) ++ (a1.extract ((ji30) : Int).toNat a1.size)) true _ ?side1 ?side2 A34.out).mono ?_); (case side1 => repeat (first | exact (Kd.C_below HR0_1.out HB.out) | (with_reducible refine Kd.C_alloc ?_ _) | (with_reducible refine Kd.C_drewN ?_ _) | (with_reducible refine Kd.C_drew ?_))); (case side2 => exact HC0_1.out); rintro e w38 ⟨rfl, hb⟩; have n0_ := Aside0.mk (Kd.R_below (by (with_reducible repeat (first | apply Kd.R_alloc | apply Kd.R_drewN | apply Kd.R_drew)); exact HO_6.out) hb); have n1_ := Aside0.mk (blk_below (g := gb328) (o := .cells #[.int .i64 a0_0, .slice A0_1 l0_1.length c0_1] 28 (0, 0)) (by (with_reducible repeat (first | refine blk_drewN ?_ _ | refine blk_drew ?_ | refine blk_alloc ?_ _)); exact BK328.out) hb); have n2_ := Aside0.mk (below_step (by repeat (first | (with_reducible first | exact HB.out | apply below_alloc | apply pw_below_drewN | apply below_drew1 | refine below_set ?_ GE328.out) | exact HB.out)) hb); clear HO_6; clear BK328; clear HB; have HO_6 := n0_; have BK328 := n1_; have HB := n2_; clear n0_ n1_ n2_; (try clear hb); (try clear hb2); (try clear hk); (try clear hi); obtain ⟨Ao39, co39, eo39⟩ := Kd.R_slice HO_6.out; subst eo39) | (go_at_call 47; (with_reducible refine (spec_ckPut.calls kj9 (fun k_ => some k_ = (.slice Ao39 x6_2.length co39 : Value).ownBlock) (.slice Ao39 x6_2.length co39) x6_2 (((a1.extract 0 (x8_1 : Int).toNat) ++ ((⟨#[48, 49, 50, 51, 52, 53, 54, 55, 56, 57, 88]⟩ : ByteArray).extract (x9_2 : Int).toNat ((wrap64 (x9_2 + 1)) : Int).toNat)) ++ (a1.extract ((ji30) : Int).toNat a1.size)) t331 w _ ?side1 ?side2 A36.out).mono ?_); (case side1 => repeat (first | (with_reducible first | exact HB.out | apply below_alloc | apply pw_below_drewN | apply below_drew1 | refine below_set ?_ GE328.out) | exact HB.out)); (case side2 => exact Kd.R_tight rfl HO_6.out); rintro e w40 ⟨v332, rfl, ho0, hb, hkp⟩; have n0_ := Aside0.mk (blk_kept (by (with_reducible repeat (first | refine blk_drewN ?_ _ | refine blk_drew ?_ | refine blk_alloc ?_ _)); exact BK328.out) hkp (fun hs_ => (fun e_ => (Kd.R_ne HO_6.out BK328.out (by decide)) e_) hs_)); have n1_ := Aside0.mk (Kd.R_mono (ok' := fun k_ => True) ho0 (fun k_ hk_ => trivial)); have n2_ := Aside0.mk (hb); clear BK328; clear HB; clear HO_6; have BK328 := n0_; have HO333 := n1_; have HB := n2_; clear n0_ n1_ n2_; (try clear hb); (try clear hkp); (try clear ho0))); try go_wp2_with (first | (go_at_call 29; (with_reducible refine (spec_ckRight.calls kj9 a0_0 _ _ l0_1 (((a1.extract 0 (x8_1 : Int).toNat) ++ ((⟨#[48, 49, 50, 51, 52, 53, 54, 55, 56, 57, 88]⟩ : ByteArray).extract (x9_2 : Int).toNat ((wrap64 (x9_2 + 1)) : Int).toNat)) ++ (a1.extract ((ji30) : Int).toNat a1.size)) true _ ?side1 ?side2 A34.out).mono ?_); (case side1 => repeat (first | exact (Kd.C_below HR0_1.out HB.out) | (with_reducible refine Kd.C_alloc ?_ _) | (with_reducible refine Kd.C_drewN ?_ _) | (with_reducible refine Kd.C_drew ?_))); (case side2 => exact HC0_1.out); rintro e w38 ⟨rfl, hb⟩; have n0_ := Aside0.mk (Kd.R_below (by (with_reducible repeat (first | apply Kd.R_alloc | apply Kd.R_drewN | apply Kd.R_drew)); exact HO_6.out) hb); have n1_ := Aside0.mk (blk_below (g := gb328) (o := .cells #[.int .i64 a0_0, .slice A0_1 l0_1.length c0_1] 28 (0, 0)) (by (with_reducible repeat (first | refine blk_drewN ?_ _ | refine blk_drew ?_ | refine blk_alloc ?_ _)); exact BK328.out) hb); have n2_ := Aside0.mk (below_step (by repeat (first | (with_reducible first | exact HB.out | apply below_alloc | apply pw_below_drewN | apply below_drew1 | refine below_set ?_ GE328.out) | exact HB.out)) hb); clear HO_6; clear BK328; clear HB; have HO_6 := n0_; have BK328 := n1_; have HB := n2_; clear n0_ n1_ n2_; (try clear hb); (try clear hb2); (try clear hk); (try clear hi); obtain ⟨Ao39, co39, eo39⟩ := Kd.R_slice HO_6.out; subst eo39) | (go_at_call 47; (with_reducible refine (spec_ckPut.calls kj9 (fun k_ => some k_ = (.slice Ao39 x6_2.length co39 : Value).ownBlock) (.slice Ao39 x6_2.length co39) x6_2 (((a1.extract 0 (x8_1 : Int).toNat) ++ ((⟨#[48, 49, 50, 51, 52, 53, 54, 55, 56, 57, 88]⟩ : ByteArray).extract (x9_2 : Int).toNat ((wrap64 (x9_2 + 1)) : Int).toNat)) ++ (a1.extract ((ji30) : Int).toNat a1.size)) t331 w _ ?side1 ?side2 A36.out).mono ?_); (case side1 => repeat (first | (with_reducible first | exact HB.out | apply below_alloc | apply pw_below_drewN | apply below_drew1 | refine below_set ?_ GE328.out) | exact HB.out)); (case side2 => exact Kd.R_tight rfl HO_6.out); rintro e w40 ⟨v332, rfl, ho0, hb, hkp⟩; have n0_ := Aside0.mk (blk_kept (by (with_reducible repeat (first | refine blk_drewN ?_ _ | refine blk_drew ?_ | refine blk_alloc ?_ _)); exact BK328.out) hkp (fun hs_ => (fun e_ => (Kd.R_ne HO_6.out BK328.out (by decide)) e_) hs_)); have n1_ := Aside0.mk (Kd.R_mono (ok' := fun k_ => True) ho0 (fun k_ hk_ => trivial)); have n2_ := Aside0.mk (hb); clear BK328; clear HB; clear HO_6; have BK328 := n0_; have HO333 := n1_; have HB := n2_; clear n0_ n1_ n2_; (try clear hb); (try clear hkp); (try clear ho0))))
                                          go_roundg kj9
                                          case measure => have := HK1.out; have := HK2.out; have := HJ9.out; omega
                                          case rel => exact ⟨(t331), (wrap64 (x9_2 + 1)), (by first | rfl | (simp; done) | (simp [*]; done) | (simp [isEmpty_bne]; done) | (simp [i64_w]; done) | (simp only [i64_w]; done)), H', ⟨by have := HK1.out; have := HK2.out; have := HJ9.out; omega⟩, ⟨by (with_reducible repeat (first | apply Kd.R_alloc | apply Kd.R_drewN | apply Kd.R_drew)); exact HO333.out⟩, ⟨by (with_reducible repeat (first | refine blk_drewN ?_ _ | refine blk_drew ?_ | refine blk_alloc ?_ _)); exact BK328.out⟩, ⟨by repeat (first | (with_reducible first | exact HB.out | apply below_alloc | apply pw_below_drewN | apply below_drew1 | refine below_set ?_ GE328.out) | exact HB.out)⟩⟩
                                        · replace c35 := Bool.eq_false_iff.mpr c35
                                          subst c35
                                          have H1 : (spec_RepairsOf.l1 kj9 a1 x6_2 (wrap64 ((a1.size : Int) - 1)) x8_1 (wrap64 (x9_2 + 1)) a0_0 l0_1) = some (r1, r2) := by rw [if_neg (show ¬ (false = true) by decide)] at H; exact H
                                          clear H
                                          have H := H1
                                          clear H1
                                          have H' := Aside0.mk H
                                          clear H
                                          have hcz41_0 : wc.cell? ⟨gb328, 0, none⟩ = some (.int .i64 a0_0) := (blk_cell BK328.out 0).trans rfl
                                          have hcz41_1 : wc.cell? ⟨gb328, 1, none⟩ = some (.slice A0_1 l0_1.length c0_1) := (blk_cell BK328.out 1).trans rfl
                                          have hfz41_0 := blk_frozen BK328.out 0
                                          have hfz41_1 := blk_frozen BK328.out 1
                                          go_wp2_with (first | (go_at_call 29; (with_reducible refine (spec_ckRight.calls kj9 a0_0 _ _ l0_1 (((a1.extract 0 (x8_1 : Int).toNat) ++ ((⟨#[48, 49, 50, 51, 52, 53, 54, 55, 56, 57, 88]⟩ : ByteArray).extract (x9_2 : Int).toNat ((wrap64 (x9_2 + 1)) : Int).toNat)) ++ (a1.extract ((ji30) : Int).toNat a1.size)) false _ ?side1 ?side2 A34.out).mono ?_); (case side1 => repeat (first | exact (Kd.C_below HR0_1.out HB.out) | (with_reducible refine Kd.C_alloc ?_ _) | (with_reducible refine Kd.C_drewN ?_ _) | (with_reducible refine Kd.C_drew ?_))); (case side2 => exact HC0_1.out); rintro e w42 ⟨rfl, hb⟩; have n0_ := Aside0.mk (Kd.R_below (by (with_reducible repeat (first | apply Kd.R_alloc | apply Kd.R_drewN | apply Kd.R_drew)); exact HO_6.out) hb); have n1_ := Aside0.mk (blk_below (g := gb328) (o := .cells #[.int .i64 a0_0, .slice A0_1 l0_1.length c0_1] 28 (0, 0)) (by (with_reducible repeat (first | refine blk_drewN ?_ _ | refine blk_drew ?_ | refine blk_alloc ?_ _)); exact BK328.out) hb); have n2_ := Aside0.mk (below_step (by repeat (first | (with_reducible first | exact HB.out | apply below_alloc | apply pw_below_drewN | apply below_drew1 | refine below_set ?_ GE328.out) | exact HB.out)) hb); clear HO_6; clear BK328; clear HB; have HO_6 := n0_; have BK328 := n1_; have HB := n2_; clear n0_ n1_ n2_; (try clear hb); (try clear hb2); (try clear hk); (try clear hi)))
                                          repeat (go_quiet (first | (go_at_call 29; (with_reducible refine (spec_ckRight.calls kj9 a0_0 _ _ l0_1 (((a1.extract 0 (x8_1 : Int).toNat) ++ ((⟨#[48, 49, 50, 51, 52, 53, 54, 55, 56, 57, 88]⟩ : ByteArray).extract (x9_2 : Int).toNat ((wrap64 (x9_2 + 1)) : Int).toNat)) ++ (a1.extract ((ji30) : Int).toNat a1.size)) false _ ?side1 ?side2 A34.out).mono ?_); (case side1 => repeat (first | exact (Kd.C_below HR0_1.out HB.out) | (with_reducible refine Kd.C_alloc ?_ _) | (with_reducible refine Kd.C_drewN ?_ _) | (with_reducible refine Kd.C_drew ?_))); (case side2 => exact HC0_1.out); rintro e w42 ⟨rfl, hb⟩; have n0_ := Aside0.mk (Kd.R_below (by (with_reducible repeat (first | apply Kd.R_alloc | apply Kd.R_drewN | apply Kd.R_drew)); exact HO_6.out) hb); have n1_ := Aside0.mk (blk_below (g := gb328) (o := .cells #[.int .i64 a0_0, .slice A0_1 l0_1.length c0_1] 28 (0, 0)) (by (with_reducible repeat (first | refine blk_drewN ?_ _ | refine blk_drew ?_ | refine blk_alloc ?_ _)); exact BK328.out) hb); have n2_ := Aside0.mk (below_step (by repeat (first | (with_reducible first | exact HB.out | apply below_alloc | apply pw_below_drewN | apply below_drew1 | refine below_set ?_ GE328.out) | exact HB.out)) hb); clear HO_6; clear BK328; clear HB; have HO_6 := n0_; have BK328 := n1_; have HB := n2_; clear n0_ n1_ n2_; (try clear hb); (try clear hb2); (try clear hk); (try clear hi))); try go_wp2_with (first | (go_at_call 29; (with_reducible refine (spec_ckRight.calls kj9 a0_0 _ _ l0_1 (((a1.extract 0 (x8_1 : Int).toNat) ++ ((⟨#[48, 49, 50, 51, 52, 53, 54, 55, 56, 57, 88]⟩ : ByteArray).extract (x9_2 : Int).toNat ((wrap64 (x9_2 + 1)) : Int).toNat)) ++ (a1.extract ((ji30) : Int).toNat a1.size)) false _ ?side1 ?side2 A34.out).mono ?_); (case side1 => repeat (first | exact (Kd.C_below HR0_1.out HB.out) | (with_reducible refine Kd.C_alloc ?_ _) | (with_reducible refine Kd.C_drewN ?_ _) | (with_reducible refine Kd.C_drew ?_))); (case side2 => exact HC0_1.out); rintro e w42 ⟨rfl, hb⟩; have n0_ := Aside0.mk (Kd.R_below (by (with_reducible repeat (first | apply Kd.R_alloc | apply Kd.R_drewN | apply Kd.R_drew)); exact HO_6.out) hb); have n1_ := Aside0.mk (blk_below (g := gb328) (o := .cells #[.int .i64 a0_0, .slice A0_1 l0_1.length c0_1] 28 (0, 0)) (by (with_reducible repeat (first | refine blk_drewN ?_ _ | refine blk_drew ?_ | refine blk_alloc ?_ _)); exact BK328.out) hb); have n2_ := Aside0.mk (below_step (by repeat (first | (with_reducible first | exact HB.out | apply below_alloc | apply pw_below_drewN | apply below_drew1 | refine below_set ?_ GE328.out) | exact HB.out)) hb); clear HO_6; clear BK328; clear HB; have HO_6 := n0_; have BK328 := n1_; have HB := n2_; clear n0_ n1_ n2_; (try clear hb); (try clear hb2); (try clear hk); (try clear hi))))
                                          go_roundg kj9
                                          case measure => have := HK1.out; have := HK2.out; have := HJ9.out; omega
                                          case rel => exact ⟨(x6_2), (wrap64 (x9_2 + 1)), (by first | rfl | (simp; done) | (simp [*]; done) | (simp [isEmpty_bne]; done) | (simp [i64_w]; done) | (simp only [i64_w]; done)), H', ⟨by have := HK1.out; have := HK2.out; have := HJ9.out; omega⟩, ⟨by (with_reducible repeat (first | apply Kd.R_alloc | apply Kd.R_drewN | apply Kd.R_drew)); exact HO_6.out⟩, ⟨by (with_reducible repeat (first | refine blk_drewN ?_ _ | refine blk_drew ?_ | refine blk_alloc ?_ _)); exact BK328.out⟩, ⟨by repeat (first | (with_reducible first | exact HB.out | apply below_alloc | apply pw_below_drewN | apply below_drew1 | refine below_set ?_ GE328.out) | exact HB.out)⟩⟩
                                      · rw [if_neg c33] at H
                                        exact absurd H (by simp)
                                    · rw [if_neg c32] at H
                                      exact absurd H (by simp)
                                  · rw [if_neg c31] at H
                                    exact absurd H (by simp)
                                · rw [if_neg c29] at H
                                  exact absurd H (by simp)
                              · rw [if_neg c28] at H
                                exact absurd H (by simp)
                            · rw [if_neg c27] at H
                              exact absurd H (by simp)
                          · rw [if_neg c26] at H
                            exact absurd H (by simp)
                        · rw [if_neg c25] at H
                          exact absurd H (by simp)
                      · rw [if_neg c24] at H
                        exact absurd H (by simp)
              · rw [if_neg c9] at H
                have c9b0 : decide (x9_2 < 11) = false := decide_eq_false c9
                clear c9
                have H' := Aside0.mk H
                clear H
                go_wp2
                repeat (go_quiet (fail); try go_wp2)
                go_roundg k2
                case measure => have := HK1.out; have := HK2.out; omega
                case rel => exact ⟨(x6_2), (wrap64 (x8_1 + 1)), (by first | rfl | (simp; done) | (simp [*]; done) | (simp [isEmpty_bne]; done) | (simp [i64_w]; done) | (simp only [i64_w]; done)), H', ⟨by have := HK1.out; have := HK2.out; omega⟩, ⟨by (with_reducible repeat (first | apply Kd.R_alloc | apply Kd.R_drewN | apply Kd.R_drew)); exact HO_6.out⟩, ⟨by (with_reducible repeat (first | refine blk_drewN ?_ _ | refine blk_drew ?_ | refine blk_alloc ?_ _)); exact BK328.out⟩, ⟨by repeat (first | (with_reducible first | exact HB.out | apply below_alloc | apply pw_below_drewN | apply below_drew1 | refine below_set ?_ GE328.out) | exact HB.out)⟩⟩
        · rw [if_neg c8] at H
          have c8b0 : decide (x8_1 ≤ (wrap64 ((a1.size : Int) - 1))) = false := decide_eq_false c8
          clear c8
          simp only [Option.some.injEq, Prod.mk.injEq] at H
          obtain ⟨rfl, rfl⟩ := H
          go_wp2
          repeat (go_quiet (fail); try go_wp2)
          go_ret2
          exact ⟨_, by first | rfl | (simp [errW_none, errW_some] <;> rfl) | (simp [*, errW_none, errW_some] <;> rfl), by (with_reducible repeat (first | apply Kd.R_alloc | apply Kd.R_drewN | apply Kd.R_drew)); exact HO_6.out, by repeat (first | (with_reducible first | exact HB.out | apply below_alloc | apply pw_below_drewN | apply below_drew1 | refine below_set ?_ GE328.out) | exact HB.out)⟩
  · replace c4 := Bool.eq_false_iff.mpr c4
    subst c4
    have H1 : (some (([] : List ByteArray), false)) = some (r1, r2) := by rw [if_neg (show ¬ (false = true) by decide)] at H; exact H
    clear H
    have H := H1
    clear H1
    simp only [Option.some.injEq, Prod.mk.injEq] at H
    obtain ⟨rfl, rfl⟩ := H
    go_enter Tryd.func21, Tryd.ntmps21
    go_wp2_with (first | ((with_reducible refine gate_dst (N := 2) rfl ?_); refine box_event ?hg (N := 2) ?hd (cs := #[.int .i64 a0_0, .slice A0_1 l0_1.length c0_1]) (t := 28) ?hr ?_; (case hd => rfl); (case hg => rfl); (case hr => first | (go_simp; done) | (go_simp; rfl)); intro gb328 hg w43 hbox hb; have n0_ := Aside0.mk (below_step (by repeat (first | (with_reducible first | exact HB.out | apply below_alloc | apply pw_below_drewN | apply below_drew1) | exact HB.out)) hb); have n1_ := Aside0.mk (hbox); have n2_ := Aside0.mk ((by rw [hg]; exact (below_size (by repeat (first | (with_reducible first | exact HB.out | apply below_alloc | apply pw_below_drewN | apply below_drew1) | exact HB.out))) : w.heap.size ≤ gb328)); have n3_ := Aside0.mk ((by rw [hg]; exact (below_size (by repeat (first | (with_reducible first | exact HB.out | apply below_alloc | apply pw_below_drewN | apply below_drew1) | exact HB.out))) : w.heap.size ≤ gb328)); clear HB; have HB := n0_; have BK328 := n1_; have GW328 := n2_; have GE328 := n3_; clear n0_ n1_ n2_ n3_; clear hb hbox hg; have hcz44_0 : w43.cell? ⟨gb328, 0, none⟩ = some (.int .i64 a0_0) := (blk_cell BK328.out 0).trans rfl; have hcz44_1 : w43.cell? ⟨gb328, 1, none⟩ = some (.slice A0_1 l0_1.length c0_1) := (blk_cell BK328.out 1).trans rfl; have hfz44_0 := blk_frozen BK328.out 0; have hfz44_1 := blk_frozen BK328.out 1) | (go_at_call 27; (with_reducible refine (spec_ckNumber.calls k a0_0 _ _ l0_1 a1 false _ ?side1 ?side2 A3.out).mono ?_); (case side1 => repeat (first | exact (Kd.C_below HR0_1.out HB.out) | (with_reducible refine Kd.C_alloc ?_ _) | (with_reducible refine Kd.C_drewN ?_ _) | (with_reducible refine Kd.C_drew ?_))); (case side2 => exact HC0_1.out); rintro e w45 ⟨rfl, hb⟩; have n0_ := Aside0.mk (blk_below (g := gb328) (o := .cells #[.int .i64 a0_0, .slice A0_1 l0_1.length c0_1] 28 (0, 0)) (by (with_reducible repeat (first | refine blk_drewN ?_ _ | refine blk_drew ?_ | refine blk_alloc ?_ _)); exact BK328.out) hb); have n1_ := Aside0.mk (below_step (by repeat (first | (with_reducible first | exact HB.out | apply below_alloc | apply pw_below_drewN | apply below_drew1 | refine below_set ?_ GE328.out) | exact HB.out)) hb); clear BK328; clear HB; have BK328 := n0_; have HB := n1_; clear n0_ n1_; (try clear hb); (try clear hb2); (try clear hk); (try clear hi)))
    repeat (go_quiet (first | ((with_reducible refine gate_dst (N := 2) rfl ?_); refine box_event ?hg (N := 2) ?hd (cs := #[.int .i64 a0_0, .slice A0_1 l0_1.length c0_1]) (t := 28) ?hr ?_; (case hd => rfl); (case hg => rfl); (case hr => first | (go_simp; done) | (go_simp; rfl)); intro gb328 hg w43 hbox hb; have n0_ := Aside0.mk (below_step (by repeat (first | (with_reducible first | exact HB.out | apply below_alloc | apply pw_below_drewN | apply below_drew1) | exact HB.out)) hb); have n1_ := Aside0.mk (hbox); have n2_ := Aside0.mk ((by rw [hg]; exact (below_size (by repeat (first | (with_reducible first | exact HB.out | apply below_alloc | apply pw_below_drewN | apply below_drew1) | exact HB.out))) : w.heap.size ≤ gb328)); have n3_ := Aside0.mk ((by rw [hg]; exact (below_size (by repeat (first | (with_reducible first | exact HB.out | apply below_alloc | apply pw_below_drewN | apply below_drew1) | exact HB.out))) : w.heap.size ≤ gb328)); clear HB; have HB := n0_; have BK328 := n1_; have GW328 := n2_; have GE328 := n3_; clear n0_ n1_ n2_ n3_; clear hb hbox hg; have hcz44_0 : w43.cell? ⟨gb328, 0, none⟩ = some (.int .i64 a0_0) := (blk_cell BK328.out 0).trans rfl; have hcz44_1 : w43.cell? ⟨gb328, 1, none⟩ = some (.slice A0_1 l0_1.length c0_1) := (blk_cell BK328.out 1).trans rfl; have hfz44_0 := blk_frozen BK328.out 0; have hfz44_1 := blk_frozen BK328.out 1) | (go_at_call 27; (with_reducible refine (spec_ckNumber.calls k a0_0 _ _ l0_1 a1 false _ ?side1 ?side2 A3.out).mono ?_); (case side1 => repeat (first | exact (Kd.C_below HR0_1.out HB.out) | (with_reducible refine Kd.C_alloc ?_ _) | (with_reducible refine Kd.C_drewN ?_ _) | (with_reducible refine Kd.C_drew ?_))); (case side2 => exact HC0_1.out); rintro e w45 ⟨rfl, hb⟩; have n0_ := Aside0.mk (blk_below (g := gb328) (o := .cells #[.int .i64 a0_0, .slice A0_1 l0_1.length c0_1] 28 (0, 0)) (by (with_reducible repeat (first | refine blk_drewN ?_ _ | refine blk_drew ?_ | refine blk_alloc ?_ _)); exact BK328.out) hb); have n1_ := Aside0.mk (below_step (by repeat (first | (with_reducible first | exact HB.out | apply below_alloc | apply pw_below_drewN | apply below_drew1 | refine below_set ?_ GE328.out) | exact HB.out)) hb); clear BK328; clear HB; have BK328 := n0_; have HB := n1_; clear n0_ n1_; (try clear hb); (try clear hb2); (try clear hk); (try clear hi))); try go_wp2_with (first | ((with_reducible refine gate_dst (N := 2) rfl ?_); refine box_event ?hg (N := 2) ?hd (cs := #[.int .i64 a0_0, .slice A0_1 l0_1.length c0_1]) (t := 28) ?hr ?_; (case hd => rfl); (case hg => rfl); (case hr => first | (go_simp; done) | (go_simp; rfl)); intro gb328 hg w43 hbox hb; have n0_ := Aside0.mk (below_step (by repeat (first | (with_reducible first | exact HB.out | apply below_alloc | apply pw_below_drewN | apply below_drew1) | exact HB.out)) hb); have n1_ := Aside0.mk (hbox); have n2_ := Aside0.mk ((by rw [hg]; exact (below_size (by repeat (first | (with_reducible first | exact HB.out | apply below_alloc | apply pw_below_drewN | apply below_drew1) | exact HB.out))) : w.heap.size ≤ gb328)); have n3_ := Aside0.mk ((by rw [hg]; exact (below_size (by repeat (first | (with_reducible first | exact HB.out | apply below_alloc | apply pw_below_drewN | apply below_drew1) | exact HB.out))) : w.heap.size ≤ gb328)); clear HB; have HB := n0_; have BK328 := n1_; have GW328 := n2_; have GE328 := n3_; clear n0_ n1_ n2_ n3_; clear hb hbox hg; have hcz44_0 : w43.cell? ⟨gb328, 0, none⟩ = some (.int .i64 a0_0) := (blk_cell BK328.out 0).trans rfl; have hcz44_1 : w43.cell? ⟨gb328, 1, none⟩ = some (.slice A0_1 l0_1.length c0_1) := (blk_cell BK328.out 1).trans rfl; have hfz44_0 := blk_frozen BK328.out 0; have hfz44_1 := blk_frozen BK328.out 1) | (go_at_call 27; (with_reducible refine (spec_ckNumber.calls k a0_0 _ _ l0_1 a1 false _ ?side1 ?side2 A3.out).mono ?_); (case side1 => repeat (first | exact (Kd.C_below HR0_1.out HB.out) | (with_reducible refine Kd.C_alloc ?_ _) | (with_reducible refine Kd.C_drewN ?_ _) | (with_reducible refine Kd.C_drew ?_))); (case side2 => exact HC0_1.out); rintro e w45 ⟨rfl, hb⟩; have n0_ := Aside0.mk (blk_below (g := gb328) (o := .cells #[.int .i64 a0_0, .slice A0_1 l0_1.length c0_1] 28 (0, 0)) (by (with_reducible repeat (first | refine blk_drewN ?_ _ | refine blk_drew ?_ | refine blk_alloc ?_ _)); exact BK328.out) hb); have n1_ := Aside0.mk (below_step (by repeat (first | (with_reducible first | exact HB.out | apply below_alloc | apply pw_below_drewN | apply below_drew1 | refine below_set ?_ GE328.out) | exact HB.out)) hb); clear BK328; clear HB; have BK328 := n0_; have HB := n1_; clear n0_ n1_; (try clear hb); (try clear hb2); (try clear hk); (try clear hi))))
    go_ret2
    exact ⟨_, by first | rfl | (simp [errW_none, errW_some] <;> rfl) | (simp [*, errW_none, errW_some] <;> rfl), by first | exact Kd.R_nil _ _ _ _ _ | exact Kd.N_nil _ _ _ _ _ | exact Kd.V_nil _ _ _ _ _ | exact Kd.Q_nil _ _ _ _ _ | exact Kd.S_nil _ _ _ _ _, by repeat (first | (with_reducible first | exact HB.out | apply below_alloc | apply pw_below_drewN | apply below_drew1 | refine below_set ?_ GE328.out) | exact HB.out)⟩


/-! ### impl_RepairsOf: function 22 -/
def sgS : ByteArray := ⟨#[48, 49, 50, 51, 52, 53, 54, 55, 56, 57, 88]⟩
/-- a number with another sign at a place -/
def repE (a : ByteArray) (x x1 y y1 : Int) : ByteArray := ((a.extract 0 (x : Int).toNat) ++ (sgS.extract (y : Int).toNat (y1 : Int).toNat)) ++ (a.extract (x1 : Int).toNat a.size)
def repT (a : ByteArray) (i d : Nat) : ByteArray := repE a i ((i : Int) + 1) d ((d : Int) + 1)
def rowFrom (a : ByteArray) (i : Nat) : Nat → Nat → List ByteArray
  | 0, _ => []
  | m + 1, d => repT a i d :: rowFrom a i m (d + 1)
def repsFrom (a : ByteArray) : Nat → Nat → List ByteArray
  | 0, _ => []
  | n + 1, i => rowFrom a i 11 0 ++ repsFrom a n (i + 1)
theorem rowFrom_len (a : ByteArray) (i : Nat) : ∀ m d, (rowFrom a i m d).length = m
  | 0, _ => rfl
  | m + 1, d => by rw [rowFrom, List.length_cons, rowFrom_len a i m]
theorem repsFrom_len (a : ByteArray) : ∀ n i, (repsFrom a n i).length = 11 * n
  | 0, _ => rfl
  | n + 1, i => by rw [repsFrom, List.length_append, rowFrom_len, repsFrom_len a n]; omega
/-- is it a number of the scheme, and right -/
def goodO (k : Nat) (m : Int) (ws : List Int) (t : ByteArray) : Option Bool := (impl_numberOk.f m ws t).bind fun b => if b = true then rightO k m ws t else some false
def impl_RepairsOf.f (k : Nat) (a0_0 : Int) (l0_1 : List Int) (a1 : ByteArray) : Option (List ByteArray × Bool) :=
  (impl_numberOk.f a0_0 l0_1 a1).bind fun g => if g = true then (if a1.size ≤ 1000 then (pickO (goodO k a0_0 l0_1) a1 (repsFrom a1 a1.size 0) []).bind fun l => some (compactB (sortT l), true) else none) else some ([], false)
theorem goodO_mono (m : Int) (ws : List Int) (t : ByteArray) (k : Nat) : LeO (goodO k m ws t) (goodO (k + 1) m ws t) := by
  unfold goodO
  exact LeO.bind (LeO.refl _) (fun _ => LeO.ite (rightO_mono m ws t k) (LeO.refl _))
theorem impl_RepairsOf.mono : ∀ a0_0 a0_1 a1 k, LeO (impl_RepairsOf.f k a0_0 a0_1 a1) (impl_RepairsOf.f (k + 1) a0_0 a0_1 a1) := by
  intro a0 a1 a2 k
  unfold impl_RepairsOf.f
  exact LeO.bind (LeO.refl _) (fun _ => LeO.ite (LeO.ite (LeO.bind (pickO_leO _ (fun t => goodO_mono a0 a1 t k) _ _) (fun _ => LeO.refl _)) (LeO.refl _)) (LeO.refl _))
set_option maxHeartbeats 8000000 in
set_option maxRecDepth 100000 in
/-- sum only reads -/
theorem sum_reads (k : Nat) (g : Nat) (m : Int) (ws : List Int) (a1 : ByteArray) (r1 r2 : Int) (A1 : Option Addr) (c1 : Nat) (w : World) (h0 : w.cell? ⟨g, 0, none⟩ = some (.int .i64 m)) (h1 : w.cell? ⟨g, 1, none⟩ = some (.slice A1 ws.length c1)) (hC : Kd.C (Kd.int .i64) w A1 ws.length ws) (h : impl_Scheme_sum.f k m ws a1 = some (r1, r2)) :
    Calls Tryd.prog 34 #[.pointer (some ⟨g, 0, none⟩), .string a1] w fun e w' => e = .returned (.int .i64 r1) ∧ ∃ q, w' = w.drewN q := by
  have HC := Aside0.mk hC
  have H : (impl_Scheme_sum.l0 k a1 0 (a1.size : Int) 0 m ws) = some (r1, r2) := h
  clear h hC
  have H' := Aside0.mk H
  clear H
  go_enter Tryd.func34, Tryd.ntmps34
  go_wp2
  repeat (go_quiet (fail); try go_wp2)
  go_loopg [5, 9] k (fun kq v5 v9 w' => ∃ (x5_1 : Int) (x9_1 : Int), v5 = .int .i64 x5_1 ∧ v9 = .int .i64 x9_1 ∧ Aside0 (impl_Scheme_sum.l0 kq a1 x5_1 (a1.size : Int) x9_1 m ws = some (r1, r2)) ∧ Aside0 (kq ≤ k) ∧ Aside0 (∃ q, w' = w.drewN q))
  case atStart => exact ⟨0, 0, rfl, rfl, H', ⟨Nat.le_refl _⟩, ⟨⟨0, rfl⟩⟩⟩
  case round =>
    clear H'
    obtain ⟨x5_1, x9_1, rfl, rfl, HA, HK1, HQ⟩ := hrel
    obtain ⟨q, hq⟩ := HQ.out
    subst hq
    clear HQ
    cases gk with
    | zero => exact absurd HA.out (by simp [impl_Scheme_sum.l0])
    | succ k1 =>
      have H := HA.out
      clear HA
      simp only [impl_Scheme_sum.l0] at H
      by_cases c3 : x9_1 < (a1.size : Int)
      · rw [if_pos c3] at H
        have c3b0 : decide (x9_1 < (a1.size : Int)) = true := decide_eq_true c3
        by_cases c4 : 0 ≤ x9_1
        · rw [if_pos c4, if_pos c3] at H
          have c4b0 : decide (0 ≤ x9_1) = true := decide_eq_true c4
          replace H := Option.bind_eq_some_iff.mp H
          obtain ⟨t, A70, H⟩ := H
          have A7 := Aside0.mk A70
          clear A70
          by_cases c8 : x9_1 < (ws.length : Int)
          · rw [if_pos c8] at H
            have c8b0 : decide (x9_1 < (ws.length : Int)) = true := decide_eq_true c8
            have H' := Aside0.mk H
            obtain ⟨ad, e, hx⟩ := Kd.at_int HC.out x9_1 c4 c8
            cases e
            have hx6 := bt_at a1 x9_1
            have p4 := eq_true c4
            have p3 := eq_true c3
            have p8 := eq_true c8
            clear H c3 c4 c8
            go_wp2_with (first | (go_at_call 36; (with_reducible refine (impl_digit.calls (bt a1 x9_1) t _ A7.out).mono ?_); rintro e w' ⟨rfl, ⟨nd, rfl⟩⟩; (try first | exact ⟨rfl, _, World.drewN_drewN _ _ _⟩ | exact ⟨rfl, _, Eq.trans (World.drewN_drewN _ _ _) (congrArg (World.drewN _) (Nat.add_assoc _ _ _))⟩)))
            repeat (go_quiet (first | (go_at_call 36; (with_reducible refine (impl_digit.calls (bt a1 x9_1) t _ A7.out).mono ?_); rintro e w' ⟨rfl, ⟨nd, rfl⟩⟩; (try first | exact ⟨rfl, _, World.drewN_drewN _ _ _⟩ | exact ⟨rfl, _, Eq.trans (World.drewN_drewN _ _ _) (congrArg (World.drewN _) (Nat.add_assoc _ _ _))⟩))); try go_wp2)
            go_roundg k1
            case measure => have := HK1.out; omega
            case rel => exact ⟨_, _, (by first | rfl | (simp; done) | (simp [*]; done) | (simp only [i64_w]; done)), (by first | rfl | (simp; done) | (simp [*]; done) | (simp only [i64_w]; done)), H', ⟨by have := HK1.out; omega⟩, ⟨by first | exact ⟨_, rfl⟩ | exact ⟨_, World.drewN_drewN _ _ _⟩⟩⟩
          · rw [if_neg c8] at H
            exact absurd H (by simp)
        · rw [if_neg c4] at H
          exact absurd H (by simp)
      · rw [if_neg c3] at H
        have c3b0 : decide (x9_1 < (a1.size : Int)) = false := decide_eq_false c3
        clear c3
        simp only [Option.some.injEq, Prod.mk.injEq] at H
        obtain ⟨rfl, rfl⟩ := H
        go_wp2
        repeat (go_quiet (fail); try go_wp2)
        go_ret
        exact ⟨by first | rfl | simp, by first | exact ⟨_, rfl⟩ | exact ⟨_, World.drewN_drewN _ _ _⟩⟩
set_option maxHeartbeats 8000000 in
set_option maxRecDepth 100000 in
/-- whole only reads -/
theorem whole_reads (k : Nat) (g : Nat) (m : Int) (ws : List Int) (a1 : ByteArray) (r1 r2 : Int) (A1 : Option Addr) (c1 : Nat) (w : World) (h0 : w.cell? ⟨g, 0, none⟩ = some (.int .i64 m)) (h1 : w.cell? ⟨g, 1, none⟩ = some (.slice A1 ws.length c1)) (hC : Kd.C (Kd.int .i64) w A1 ws.length ws) (h : impl_Scheme_whole.f k m ws a1 = some (r1, r2)) :
    Calls Tryd.prog 71 #[.pointer (some ⟨g, 0, none⟩), .string a1] w fun e w' => e = .returned (.int .i64 r1) ∧ ∃ q, w' = w.drewN q := by
  have HC := Aside0.mk hC
  have H0 := Aside0.mk h0
  have H1 := Aside0.mk h1
  unfold impl_Scheme_whole.f at h
  clear hC
  split at h
  · split at h
    · rename_i c4
      replace h := Option.bind_eq_some_iff.mp h
      obtain ⟨⟨t, t2⟩, A1_, h⟩ := h
      simp only at h
      split at h
      · rename_i c6
        replace h := Option.bind_eq_some_iff.mp h
        obtain ⟨i, A2_, h⟩ := h
        simp only [Option.some.injEq, Prod.mk.injEq] at h
        obtain ⟨rfl, _⟩ := h
        rw [Int.toNat_natCast] at A1_
        have A1 := Aside0.mk A1_
        have A2 := Aside0.mk A2_
        have p1 : (0 ≤ (ws.length : Int)) = True := eq_true (by omega)
        have p2 := eq_true c4
        have p3 := eq_true c6
        have p4 : decide ((ws.length : Int) < (a1.size : Int)) = true := decide_eq_true c6
        have hx6 : ∀ (h_ : ws.length < a1.size), (((a1[ws.length]'h_).toNat : Nat) : Int) = bt a1 (ws.length : Int) := bt_at a1 (ws.length : Int)
        clear A1_ A2_ c4 c6
        have HS := Aside0.mk (fun n => sum_reads k g m ws _ t t2 _ c1 (w.drewN n) H0.out H1.out (Kd.C_below HC.out (pw_below_drewN (Below.refl _ w) n)) A1.out)
        go_enter Tryd.func71, Tryd.ntmps71
        go_wp2
        go_quiet (first
          | (go_at_call 34; (with_reducible refine (HS.out _).mono ?_); rintro e w' ⟨rfl, ⟨nd, rfl⟩⟩; (try first | exact ⟨rfl, _, World.drewN_drewN _ _ _⟩ | exact ⟨rfl, _, Eq.trans (World.drewN_drewN _ _ _) (congrArg (World.drewN _) (Nat.add_assoc _ _ _))⟩))
          | (go_at_call 35; (with_reducible refine (strings_IndexByte.calls _ _ i _ A2.out).mono ?_); rintro e w' ⟨rfl, ⟨nd, rfl⟩⟩; (try first | exact ⟨rfl, _, World.drewN_drewN _ _ _⟩ | exact ⟨rfl, _, Eq.trans (World.drewN_drewN _ _ _) (congrArg (World.drewN _) (Nat.add_assoc _ _ _))⟩)))
        go_wp2
        go_ret
        exact ⟨by first | rfl | simp [i64_w], by first | exact ⟨_, rfl⟩ | exact ⟨_, World.drewN_drewN _ _ _⟩⟩
      · exact absurd h (by simp)
    · exact absurd h (by simp)
  · exact absurd h (by simp)
set_option maxHeartbeats 8000000 in
set_option maxRecDepth 100000 in
/-- right only reads -/
theorem right_reads (k : Nat) (g : Nat) (m : Int) (ws : List Int) (a1 : ByteArray) (v : Int) (A1 : Option Addr) (c1 : Nat) (w : World) (h0 : w.cell? ⟨g, 0, none⟩ = some (.int .i64 m)) (h1 : w.cell? ⟨g, 1, none⟩ = some (.slice A1 ws.length c1)) (hC : Kd.C (Kd.int .i64) w A1 ws.length ws) (hm : m ≠ 0) (h : impl_Scheme_whole.f k m ws a1 = some (v, m)) :
    Calls Tryd.prog 44 #[.pointer (some ⟨g, 0, none⟩), .string a1] w fun e w' => e = .returned (.bool (Int.tmod v m == 0)) ∧ ∃ q, w' = w.drewN q := by
  have HC := Aside0.mk hC
  have H0 := Aside0.mk h0
  have H1 := Aside0.mk h1
  have H := Aside0.mk h
  clear hC h h1
  have HS := Aside0.mk (fun n => whole_reads k g m ws a1 v m _ c1 (w.drewN n) H0.out H1.out (Kd.C_below HC.out (pw_below_drewN (Below.refl _ w) n)) H.out)
  go_enter Tryd.func44, Tryd.ntmps44
  go_wp2
  go_quiet (first
    | (go_at_call 71; (with_reducible refine (HS.out _).mono ?_); rintro e w' ⟨rfl, ⟨nd, rfl⟩⟩; (try first | exact ⟨rfl, _, World.drewN_drewN _ _ _⟩ | exact ⟨rfl, _, Eq.trans (World.drewN_drewN _ _ _) (congrArg (World.drewN _) (Nat.add_assoc _ _ _))⟩)))
  go_wp2
  go_ret
  exact ⟨rfl, by first | exact ⟨_, rfl⟩ | exact ⟨_, World.drewN_drewN _ _ _⟩⟩
set_option maxHeartbeats 16000000 in
set_option maxRecDepth 100000 in
theorem impl_RepairsOf.calls (k : Nat) (a0_0 : Int) (A0_1 : Option Addr) (c0_1 : Nat) (l0_1 : List Int) (a1 : ByteArray) (r1 : List ByteArray) (r2 : Bool) (w : World) (hr0_1 : Kd.C (Kd.int .i64) w A0_1 l0_1.length l0_1) (hc0_1 : l0_1.length ≤ c0_1) (h : impl_RepairsOf.f k a0_0 l0_1 a1 = some (r1, r2)) :
    Calls Tryd.prog 22 #[.agg #[.int .i64 a0_0, .slice A0_1 l0_1.length c0_1], .string a1] w fun e w' => ∃ v0_ : Value, e = .returned (.tuple #[v0_, .bool r2]) ∧ Kd.R Kd.string 9 w' w.heap.size (fun _ => True) v0_ r1 ∧ Below w.heap.size w w' := by
  have hu := Tryd.underlying28
  replace h := Option.bind_eq_some_iff.mp h
  obtain ⟨g, hg, h⟩ := h
  have hgood := fun (W : World) (hW : Below w.heap.size w W) => impl_numberOk.calls a0_0 A0_1 c0_1 l0_1 a1 g W (Kd.C_below hr0_1 hW) hc0_1 hg
  have hb0 : Below w.heap.size w (w.alloc (.cells #[.int .i64 a0_0, .slice A0_1 l0_1.length c0_1] 28)) := (Below.refl _ w).alloc (Nat.le_refl _) _
  have hblk0 : (w.alloc (.cells #[.int .i64 a0_0, .slice A0_1 l0_1.length c0_1] 28)).heap[w.heap.size]? = some (.cells #[.int .i64 a0_0, .slice A0_1 l0_1.length c0_1] 28 (0, 0)) := heap_alloc_new w _
  have HR := Aside0.mk hr0_1
  have HC := Aside0.mk hc0_1
  have hcall := hgood _ hb0
  clear hg hr0_1 hgood hc0_1
  cases g with
  | false =>
    simp only [Bool.false_eq_true, if_false, Option.some.injEq, Prod.mk.injEq] at h
    obtain ⟨rfl, rfl⟩ := h
    clear hblk0
    go_enter Tryd.func22, Tryd.ntmps22
    go_wp2_with fail
    refine hcall.mono ?_
    rintro e w1 ⟨rfl, hb1⟩
    clear hcall
    go_wp2
    go_ret2
    exact ⟨_, rfl, Kd.R_nil _ _ _ _ _, hb0.trans (hb1.mono hb0.size)⟩
  | true =>
    rw [if_pos rfl] at h
    split at h
    · rename_i hl
      replace h := Option.bind_eq_some_iff.mp h
      obtain ⟨L, hL, h⟩ := h
      simp only [Option.some.injEq, Prod.mk.injEq] at h
      obtain ⟨rfl, rfl⟩ := h
      have HBK := Aside0.mk hblk0
      have HL := Aside0.mk hL
      have hLlen := pickO_len hL
      have HLL : Aside0 (L.length ≤ 1048576) := ⟨by rw [repsFrom_len] at hLlen; simp at hLlen; omega⟩
      clear hblk0 hL hLlen
      go_enter Tryd.func22, Tryd.ntmps22
      go_wp2_with fail
      refine hcall.mono ?_
      rintro e w1 ⟨rfl, hb1⟩
      have HB1 := Aside0.mk (hb0.trans (hb1.mono hb0.size))
      have HBK1 : Aside0 (w1.heap[w.heap.size]? = some (.cells #[.int .i64 a0_0, .slice A0_1 l0_1.length c0_1] 28 (0, 0))) := ⟨(hb1.block _ (by simp)).trans HBK.out⟩
      clear hcall HBK hb0 hb1
      go_wp2
      go_loopw [6, 17] (fun v6 v17 wr => ∃ (i : Nat) (acc : List ByteArray), i ≤ a1.size ∧ v17 = .int .i64 i ∧ Aside0 (Kd.R Kd.string 9 wr w.heap.size (fun k_ => k_ ≠ w.heap.size) v6 acc) ∧ Aside0 (wr.heap[w.heap.size]? = some (.cells #[.int .i64 a0_0, .slice A0_1 l0_1.length c0_1] 28 (0, 0))) ∧ Aside0 (Below w.heap.size w wr) ∧ Aside0 (pickO (goodO k a0_0 l0_1) a1 (repsFrom a1 (a1.size - i) i) acc = some L)) (fun _ i _ => a1.size - (intOf i).toNat)
      case atStart =>
        have hlt := (Array.getElem?_eq_some_iff.1 HBK1.out).1
        refine ⟨0, [], by omega, rfl, ⟨?_⟩, ⟨?_⟩, ⟨HB1.out.alloc HB1.out.size _⟩, ⟨by simpa using HL.out⟩⟩
        · have h2 := World.ownsRow_lit (base := w.heap.size) (e := 9) (size := 1) w1 #[] 0 HB1.out.size (by simp [maxLen]) (by simp)
          exact Kd.R_of_own (by simpa [encs] using h2) (by intro k hk; (have e : w1.heap.size = k := (by simpa [Value.ownBlock] using hk)); omega)
        · exact (heap_alloc_old w1 _ hlt).trans HBK1.out
      case round =>
        obtain ⟨i, acc, hi, rfl, HO, HI, HB, HP⟩ := hrel
        by_cases hlt : i < a1.size
        · have hp := HP.out
          rw [show a1.size - i = (a1.size - (i + 1)) + 1 by omega, repsFrom] at hp
          have HN := Aside0.mk (show 0 ≤ (i : Int) ∧ (i : Int) < (a1.size : Int) ∧ (a1.size : Int) ≤ 1000 by omega)
          have z0 : decide ((i : Int) < (a1.size : Int)) = true := decide_eq_true HN.out.2.1
          have HP1 := Aside0.mk hp
          have HI0 := HB.out.size
          clear hp HP
          obtain ⟨wo, rfl⟩ : ∃ wo : World, wo = wr := ⟨_, rfl⟩
          go_wp2
          have hbI : Below w.heap.size w (wo.iter sgS 0) := HB.out.alloc HB.out.size _
          have hit0 : (wo.iter sgS 0).heap[wo.heap.size]? = some (.stringIter sgS 0) := by simp [World.iter_heap]
          have hblI : (wo.iter sgS 0).heap[w.heap.size]? = some (.cells #[.int .i64 a0_0, .slice A0_1 l0_1.length c0_1] 28 (0, 0)) := (heap_alloc_old wo _ (blk_lt HI.out)).trans HI.out
          have hRI : Kd.R Kd.string 9 (wo.iter sgS 0) w.heap.size (fun k_ => k_ ≠ w.heap.size ∧ k_ < wo.heap.size) u6 acc := Kd.R_mono (Kd.R_below (Kd.R_bound HO.out) ((Below.refl _ wo).alloc (Nat.le_refl _) _)) (fun k hk => ⟨hk.1, hk.2.2.1⟩)
          have HIT := Aside0.mk hit0
          have HBI := Aside0.mk hbI
          have HBL := Aside0.mk hblI
          have HRI := Aside0.mk hRI
          have hne0 : w.heap.size ≠ wo.heap.size := Nat.ne_of_lt (blk_lt HI.out)
          have HNE := Aside0.mk hne0
          clear hit0 hbI hblI hRI hne0 HO HI HB
          generalize hIt : wo.heap.size = it at HIT HRI HI0 HNE
          have HIt := Aside0.mk hIt
          clear hIt
          go_loopw [6] (fun v6 wi => ∃ (d : Nat) (acc2 : List ByteArray), d ≤ 11 ∧ Aside0 (Kd.R Kd.string 9 wi w.heap.size (fun k_ => k_ ≠ w.heap.size ∧ k_ ≠ it) v6 acc2) ∧ Aside0 (wi.heap[it]? = some (.stringIter sgS d)) ∧ Aside0 (wi.heap[w.heap.size]? = some (.cells #[.int .i64 a0_0, .slice A0_1 l0_1.length c0_1] 28 (0, 0))) ∧ Aside0 (Below w.heap.size w wi) ∧ Aside0 (pickO (goodO k a0_0 l0_1) a1 (rowFrom a1 i (11 - d) d ++ repsFrom a1 (a1.size - (i + 1)) (i + 1)) acc2 = some L))
            (fun _ wi => 11 - wi.iterPos it)
          case atStart => exact ⟨0, acc, by omega, ⟨Kd.R_mono HRI.out (fun k hk => ⟨hk.1, by omega⟩)⟩, HIT, HBL, HBI, HP1⟩
          case round =>
            obtain ⟨d, acc2, hd11, HR2, HT, HK, HB2, HQ⟩ := hrel
            have hpos : wr.iterPos it = d := by unfold World.iterPos; rw [HT.out]
            have HPOS := Aside0.mk hpos
            clear hpos HIT HBL HBI HRI HP1
            by_cases hd : d < 11
            · have hp := HQ.out
              rw [show 11 - d = (11 - (d + 1)) + 1 by omega, rowFrom, List.cons_append] at hp
              simp only [pickO] at hp
              have hE : repT a1 i d = (a1.extract 0 (i : Int).toNat ++ (⟨#[48, 49, 50, 51, 52, 53, 54, 55, 56, 57, 88]⟩ : ByteArray).extract d (d + 1)) ++ a1.extract (wrap64 ((i : Int) + 1)).toNat a1.size := by
                have hw : wrap64 ((i : Int) + 1) = (i : Int) + 1 := by have := HN.out; unfold wrap64; omega
                rw [hw]
                unfold repT repE sgS
                rw [Int.toNat_natCast d, show ((d : Int) + 1).toNat = d + 1 by omega]
              rw [hE] at hp
              clear hE HQ
              have ha : ∀ q : Fin 11, (sgS[q.val]'(by have := q.isLt; show q.val < 11; omega)).toNat < 128 := by decide
              have hnx : ∀ ty, (Instr.next (.pointer (some ⟨it, 0, none⟩)) true ty).run Tryd.prog wr = _ := fun ty => Go.Lib.run_next_ascii_at wr it sgS d ty HT.out hd (ha ⟨d, hd⟩)
              have HB3 := Aside0.mk (below_iterAt (it := it) (pos := d + 1) (s := sgS) HB2.out HI0)
              have HT3 := Aside0.mk (Go.Lib.iterAt_heap wr it sgS d (d + 1) HT.out)
              have HK3 : Aside0 ((wr.iterAt it sgS (d + 1)).heap[w.heap.size]? = some (.cells #[.int .i64 a0_0, .slice A0_1 l0_1.length c0_1] 28 (0, 0))) := ⟨(Go.Lib.iterAt_other wr it w.heap.size sgS (d + 1) HNE.out).trans HK.out⟩
              have HR3 : Aside0 (Kd.R Kd.string 9 (wr.iterAt it sgS (d + 1)) w.heap.size (fun k_ => k_ ≠ w.heap.size ∧ k_ ≠ it) u6 acc2) := ⟨Kd.R_move HR2.out (fun k hk => Go.Lib.iterAt_other wr it k sgS (d + 1) hk.2)⟩
              have hpos3 : (wr.iterAt it sgS (d + 1)).iterPos it = d + 1 := by unfold World.iterPos; rw [HT3.out]
              have HPOS3 := Aside0.mk hpos3
              clear ha hpos3 HB2 HT HK HR2
              have hw1 : wrap64 ((d : Int) + 1) = (d : Int) + 1 := by unfold wrap64; omega
              have hw2 : IntKind.i64.wrap ((d : Int) + 1) = (d : Int) + 1 := (i64_w _).trans hw1
              have d11 : ((d : Int) ≤ (d : Int) + 1) = True := eq_true (by omega)
              have d12 : ((d : Int) + 1 ≤ 11) = True := eq_true (by omega)
              have d13 : (0 ≤ (d : Int) + 1) = True := eq_true (by omega)
              generalize hx : (i : Int) = x at hp HN ⊢
              have HXE := Aside0.mk hx
              clear hx
              obtain ⟨jk, hjk⟩ : ∃ j_ : Int, wrap64 (x + 1) = j_ := ⟨_, rfl⟩
              have hke : jk = x + 1 := by have := HN.out; rw [← hjk]; unfold wrap64; omega
              have hjkw : (IntKind.i64.wrap (x + 1)) = jk := (i64_w _).trans hjk
              rw [hjk] at hp
              have HJ := Aside0.mk hke
              have z1 : (0 ≤ x) = True := eq_true (by have := HN.out; omega)
              have z2 : (x ≤ (a1.size : Int)) = True := eq_true (by have := HN.out; omega)
              have z3 : (0 ≤ jk) = True := eq_true (by have := HN.out; omega)
              have z4 : (jk ≤ (a1.size : Int)) = True := eq_true (by have := HN.out; omega)
              have y1 : decide (0 ≤ x) = true := decide_eq_true (by have := HN.out; omega)
              have y2 : decide (x ≤ (a1.size : Int)) = true := decide_eq_true (by have := HN.out; omega)
              have y3 : decide (0 ≤ jk) = true := decide_eq_true (by have := HN.out; omega)
              have y4 : decide (jk ≤ (a1.size : Int)) = true := decide_eq_true (by have := HN.out; omega)
              have s1 : (9223372036854775807 < x.toNat + 1) = False := eq_false (by have := HN.out; omega)
              have s2 : (9223372036854775807 < x.toNat + (d + 1 - d)) = False := eq_false (by have := HN.out; omega)
              have s3 : (9223372036854775807 < x.toNat + 1 + (a1.size - jk.toNat)) = False := eq_false (by have := HN.out; omega)
              have s4 : (9223372036854775807 < x.toNat + (d + 1 - d) + (a1.size - jk.toNat)) = False := eq_false (by have := HN.out; omega)
              have s5 : (9223372036854775807 < x.toNat + (min (d + 1) 11 - d)) = False := eq_false (by have := HN.out; omega)
              have s6 : (9223372036854775807 < x.toNat + (min (d + 1) 11 - d) + (a1.size - jk.toNat)) = False := eq_false (by have := HN.out; omega)
              clear hke
              go_wp2
              go_quiet (fail)
              generalize (a1.extract 0 x.toNat ++ (⟨#[48, 49, 50, 51, 52, 53, 54, 55, 56, 57, 88]⟩ : ByteArray).extract d (d + 1)) ++ a1.extract jk.toNat a1.size = ot at hp ⊢
              clear z1 z2 z3 z4 y1 y2 y3 y4 s1 s2 s3 s4 s5 s6 d11 d12 d13 hw1 hw2 hjk hjkw hnx z0
              have hpo : ∀ q : Nat, ((wr.iterAt it sgS (d + 1)).drewN q).iterPos it = d + 1 := fun q => HPOS3.out
              have HPO := Aside0.mk hpo
              clear hpo
              by_cases he : ot = a1
              · rw [if_pos he] at hp
                have HP2 := Aside0.mk hp
                have n1 : (ot.toList != a1.toList) = false := by rw [he, bne_self_eq_false]
                have n2 : (ot.toList = a1.toList) = True := eq_true (by rw [he])
                have n4 : (ot.toList == a1.toList) = true := by rw [he, beq_self_eq_true]
                clear hp he
                go_wp2
                go_roundw
                case rel => exact ⟨d + 1, acc2, by omega, ⟨Kd.R_drewN HR3.out nq⟩, ⟨HT3.out⟩, ⟨HK3.out⟩, ⟨pw_below_drewN HB3.out nq⟩, ⟨HP2.out⟩⟩
                case measure => rw [HPO.out, HPOS.out]; omega
              · rw [if_neg he] at hp
                obtain ⟨b, hb, hp⟩ := Option.bind_eq_some_iff.mp hp
                unfold goodO at hb
                obtain ⟨gb, hgb, hb⟩ := Option.bind_eq_some_iff.mp hb
                have n1 := ne_list he
                have n2 : (ot.toList = a1.toList) = False := eq_false (bne_iff_ne.mp n1)
                have n4 : (ot.toList == a1.toList) = false := beq_eq_false_iff_ne.mpr (bne_iff_ne.mp n1)
                have hnum := impl_numberOk.calls a0_0 A0_1 c0_1 l0_1 ot gb ((wr.iterAt it sgS (d + 1)).drewN nq) (Kd.C_below HR.out (pw_below_drewN HB3.out nq)) HC.out hgb
                have hc0 : (wr.iterAt it sgS (d + 1)).cell? ⟨w.heap.size, 0, none⟩ = some (.int .i64 a0_0) := (blk_cell HK3.out 0).trans rfl
                have hc1 : (wr.iterAt it sgS (d + 1)).cell? ⟨w.heap.size, 1, none⟩ = some (.slice A0_1 l0_1.length c0_1) := (blk_cell HK3.out 1).trans rfl
                have HPP := Aside0.mk hp
                have HBB := Aside0.mk hb
                clear hgb he hp hb
                go_wp2_with fail
                refine hnum.mono ?_
                rintro e w5 ⟨rfl, hb5⟩
                clear hnum hc0 hc1
                have HB5 := Aside0.mk ((pw_below_drewN HB3.out nq).trans (hb5.mono (pw_below_drewN HB3.out nq).size))
                have HT5 : Aside0 (w5.heap[it]? = some (.stringIter sgS (d + 1))) := ⟨(hb5.block it (by simpa using (Array.getElem?_eq_some_iff.1 HT3.out).1)).trans HT3.out⟩
                have HK5 : Aside0 (w5.heap[w.heap.size]? = some (.cells #[.int .i64 a0_0, .slice A0_1 l0_1.length c0_1] 28 (0, 0))) := ⟨(hb5.block _ (by simpa using blk_lt HK3.out)).trans HK3.out⟩
                have HR5 := Aside0.mk (Kd.R_below (Kd.R_drewN HR3.out nq) hb5)
                have hpo5 : ∀ q : Nat, (w5.drewN q).iterPos it = d + 1 := fun q => by unfold World.iterPos; rw [show (w5.drewN q).heap[it]? = some (.stringIter sgS (d + 1)) from HT5.out]
                have HPO5 := Aside0.mk hpo5
                clear hb5 hpo5
                cases gb with
                | false =>
                  have e := HBB.out
                  rw [if_neg (by simp), Option.some.injEq] at e
                  subst e
                  go_wp2
                  go_roundw
                  case rel => exact ⟨d + 1, acc2, by omega, HR5, HT5, HK5, HB5, ⟨by have := HPP.out; simpa using this⟩⟩
                  case measure => rw [show w5.iterPos it = d + 1 from HPO5.out 0, HPOS.out]; omega
                | true =>
                  have e := HBB.out
                  rw [if_pos rfl] at e
                  unfold rightO at e
                  obtain ⟨⟨v, m2⟩, hw, e⟩ := Option.bind_eq_some_iff.mp e
                  simp only at e
                  split at e
                  · exact absurd e (by simp)
                  · rename_i hm
                    split at e
                    · rename_i hm2
                      subst hm2
                      simp only [Option.some.injEq] at e
                      have hright := right_reads k w.heap.size m2 l0_1 ot v A0_1 c0_1 w5 ((blk_cell HK5.out 0).trans rfl) ((blk_cell HK5.out 1).trans rfl) (Kd.C_below HR.out HB5.out) hm hw
                      rw [e] at hright
                      clear e hw hm
                      go_wp2_with fail
                      refine hright.mono ?_
                      rintro e w6 ⟨rfl, ⟨q6, rfl⟩⟩
                      clear hright
                      cases b with
                      | false =>
                        go_wp2
                        go_roundw
                        case rel => exact ⟨d + 1, acc2, by omega, ⟨Kd.R_drewN HR5.out q6⟩, ⟨HT5.out⟩, ⟨HK5.out⟩, ⟨pw_below_drewN HB5.out q6⟩, ⟨by have := HPP.out; simpa using this⟩⟩
                        case measure => rw [HPO5.out, HPOS.out]; omega
                      | true =>
                        have HPL := Aside0.mk (pickO_le HPP.out)
                        have HB6 := Aside0.mk (pw_below_drewN HB5.out q6)
                        have HR6 := Aside0.mk (Kd.R_drewN HR5.out q6)
                        have HT6 : Aside0 ((w5.drewN q6).heap[it]? = some (.stringIter sgS (d + 1))) := ⟨HT5.out⟩
                        have HK6 : Aside0 ((w5.drewN q6).heap[w.heap.size]? = some (.cells #[.int .i64 m2, .slice A0_1 l0_1.length c0_1] 28 (0, 0))) := ⟨HK5.out⟩
                        have HPO6 := Aside0.mk (HPO5.out q6)
                        generalize w5.drewN q6 = w6 at HB6 HR6 HT6 HK6 HPO6 ⊢
                        go_wp2_with (first | ((with_reducible refine gate_builtin (b := .append) (xs := #[.tmp 49, .tmp 51]) rfl ?_); at_builtin; refine Kd.R_append Kd.string (w0 := w) w.heap.size rfl (.tmp 49) (.tmp 51) 32 9 (.string ⟨#[]⟩) 16 rfl Tryd.underlying32 info9 rfl (by decide) (by omega) u6 acc2 ot [.string ot] (fun k_ => k_ ≠ w.heap.size ∧ k_ ≠ it) (fun _ => False) rfl rfl ?aP (fun _ hk => hk.elim) ?aF ?aO ?aB ?aS ?aL ?_; (case aP => exact rfl); (case aB => exact HB6.out); (case aF => exact (fun k hk => by have h1 := blk_lt HK6.out; have h2 := (Array.getElem?_eq_some_iff.1 HT6.out).1; omega)); (case aO => exact HR6.out); (case aS => exact HB6.out.size); (case aL => have h1 := HPL.out; have h2 := HLL.out; simp at h1; omega); intro v173 w15 ho hb hg hat; have HT15 : Aside0 (w15.heap[it]? = some (.stringIter sgS (d + 1))) := ⟨(hg.block it (Array.getElem?_eq_some_iff.1 HT6.out).1 (fun e => (HR6.out.1 it e.symm).2 rfl)).trans HT6.out⟩; have HK15 := Aside0.mk (blk_grown HK6.out hg (fun e => (HR6.out.1 _ e.symm).1 rfl)); clear hg hat))
                        have hpo15 : w15.iterPos it = d + 1 := by unfold World.iterPos; rw [HT15.out]
                        go_roundw
                        case rel => exact ⟨d + 1, acc2 ++ [ot], by omega, ⟨ho⟩, HT15, HK15, ⟨hb⟩, ⟨by have := HPP.out; simpa using this⟩⟩
                        case measure => rw [hpo15, HPOS.out]; omega
                    · exact absurd e (by simp)
            · have hdd : d = 11 := by omega
              subst hdd
              have hnx : ∀ ty, (Instr.next (.pointer (some ⟨it, 0, none⟩)) true ty).run Tryd.prog wr = _ := fun ty => Go.Lib.run_next_end_at wr it sgS 11 ty HT.out (by decide)
              have hq := HQ.out
              rw [Nat.sub_self, rowFrom, List.nil_append] at hq
              have HQ2 := Aside0.mk hq
              clear hq HQ
              go_wp2
              go_roundw
              case rel => exact ⟨i + 1, acc2, by omega, by go_num, ⟨Kd.R_mono HR2.out (fun k hk => hk.1)⟩, HK, HB2, HQ2⟩
              case measure => simp [intOf]; omega
        · have hin : i = a1.size := by omega
          subst hin
          have hpe := HP.out
          rw [Nat.sub_self] at hpe
          simp only [repsFrom, pickO, Option.some.injEq] at hpe
          obtain rfl : acc = L := hpe
          have hd : decide ((a1.size : Int) < (a1.size : Int)) = false := by simp
          have hsort := sorted_string _ _ acc w wr HB.out HO.out HLL.out
          generalize hS : compactB (sortT acc) = S at hsort
          have HS := Aside0.mk hS
          clear hS
          go_wp2_with fail
          refine hsort.mono ?_
          rintro e w5 ⟨v5, rfl, hR5, hb5⟩
          clear hsort
          go_wp2
          go_ret2
          exact ⟨_, rfl, by have e := HS.out; rw [e]; exact hR5, hb5⟩
    · exact absurd h (by simp)

end Go.Proofs.YtepkhpnoibillaaDoor.PA
