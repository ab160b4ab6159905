-- printed by xprint.py: the kit's print.py with given contracts
import Derived.Test.YtbgkaabbpdhhlaaGreatDoorPAx0
import Derived.Test.YtbgkaabbpdhhlaaGreatDoorPAx1
import Derived.Test.YtbgkaabbpdhhlaaGreatDoorPAx3
import Derived.Test.YtbgkaabbpdhhlaaGreatDoorPAx5
import Derived.Test.YtbgkaabbpdhhlaaGreatDoorPAx6
namespace Go.Proofs.YtbgkaabbpdhhlaaGreatDoor.PA
open Go.RowKit Go.Proofs.YtbgkaabbpdhhlaaGreatDoorW.PrintWords Go.Proofs.YtbgkaabbpdhhlaaGreatDoorW.PrintLast Go.Proofs.YtbgkaabbpdhhlaaGreatDoorW.PrintMore
attribute [local go_sem] max2_int min2_int max_two min_two max_three min_three max_four min_four   -- for this text's walks alone
set_option linter.unusedVariables false
set_option linter.unusedSimpArgs false

/-! ### spec_SureDigits: function 23 -/
mutual
def spec_SureDigits.l0 : Nat → List ByteArray → ByteArray → Int → Int → List (S65) → Option (ByteArray × Bool)
 | 0, _, _, _, _, _ => none
 | k + 1, x4, x5, x6, x322000, x322001 => if x6 < x322000 then (if 0 < (x4.length : Int) then (if 0 ≤ x6 then (if x6 ≤ (wrap64 (x6 + 1)) then (if (wrap64 (x6 + 1)) ≤ ((rdOf ByteArray.empty x4 0).size : Int) then (spec_SureDigits.l1 k x4 x5 x6 ((rdOf ByteArray.empty x4 0).extract (x6 : Int).toNat ((wrap64 (x6 + 1)) : Int).toNat) x4 (x4.length : Int) 0 x322000 x322001) else (none)) else (none)) else (none)) else (none)) else (some (x5, true))
def spec_SureDigits.l1 : Nat → List ByteArray → ByteArray → Int → ByteArray → List ByteArray → Int → Int → Int → List (S65) → Option (ByteArray × Bool)
 | 0, _, _, _, _, _, _, _, _, _ => none
 | k + 1, x4, x5, x6, x7, x34, x35, x36, x322000, x322001 => if x36 < x35 then (if 0 ≤ x36 then (if x36 < (x34.length : Int) then (if 0 ≤ x6 then (if x6 ≤ (wrap64 (x6 + 1)) then (if (wrap64 (x6 + 1)) ≤ ((rdOf ByteArray.empty x34 x36).size : Int) then (if ((rdOf ByteArray.empty x34 x36).extract (x6 : Int).toNat ((wrap64 (x6 + 1)) : Int).toNat).toList = x7.toList then (spec_SureDigits.l1 k x4 x5 x6 x7 x34 x35 (wrap64 (x36 + 1)) x322000 x322001) else (if x5.size + 1 ≤ 9223372036854775807 then (spec_SureDigits.l0 k x4 (x5 ++ (⟨#[63]⟩ : ByteArray)) (wrap64 (x6 + 1)) x322000 x322001) else (none))) else (none)) else (none)) else (none)) else (none)) else (none)) else (if x5.size + x7.size ≤ 9223372036854775807 then (spec_SureDigits.l0 k x4 (x5 ++ x7) (wrap64 (x6 + 1)) x322000 x322001) else (none))
end
def spec_SureDigits.f (k : Nat) (a0_0 : Int) (l0_1 : List (S65)) : Option (ByteArray × Bool) := (spec_pzGood.f k a0_0 l0_1).bind fun t322 => (if t322 = true then ((spec_pzAll.f k a0_0 l0_1).bind fun t323 => (if (t323.length : Int) = 0 then (some ((⟨#[]⟩ : ByteArray), false)) else (spec_SureDigits.l0 k t323 (⟨#[]⟩ : ByteArray) 0 a0_0 l0_1))) else (some ((⟨#[]⟩ : ByteArray), false)))
theorem spec_SureDigits.mono_l : ∀ k, (∀ y0 y1 y2 y3 y4, LeO (spec_SureDigits.l0 k y0 y1 y2 y3 y4) (spec_SureDigits.l0 (k + 1) y0 y1 y2 y3 y4)) ∧ (∀ y0 y1 y2 y3 y4 y5 y6 y7 y8, LeO (spec_SureDigits.l1 k y0 y1 y2 y3 y4 y5 y6 y7 y8) (spec_SureDigits.l1 (k + 1) y0 y1 y2 y3 y4 y5 y6 y7 y8))
 | 0 => ⟨fun _ _ _ _ _ r h => by simp [spec_SureDigits.l0] at h, fun _ _ _ _ _ _ _ _ _ r h => by simp [spec_SureDigits.l1] at h⟩
 | k + 1 => by
  obtain ⟨ih0, ih1⟩ := spec_SureDigits.mono_l k
  refine ⟨?_, ?_⟩
  ·
   intro y0 y1 y2 y3 y4
   unfold spec_SureDigits.l0
   repeat' first
   | (with_reducible exact ih0 _ _ _ _ _)
   | (with_reducible exact ih1 _ _ _ _ _ _ _ _ _)
   | (with_reducible exact spec_pzAll.mono _ _ _)
   | (with_reducible exact spec_pzGood.mono _ _ _)
   | (with_reducible exact LeO.refl _)
   | (with_reducible exact LeO.none _)
   | (with_reducible refine LeO.ite ?_ ?_)
   | (with_reducible refine LeO.bind ?_ (fun _ => ?_))
   | exact ih0 _ _ _ _ _
   | exact ih1 _ _ _ _ _ _ _ _ _
   | exact spec_pzAll.mono _ _ _
   | exact spec_pzGood.mono _ _ _
   | exact LeO.none _
   | refine LeO.ite ?_ ?_
   | refine LeO.bind ?_ (fun _ => ?_)
  ·
   intro y0 y1 y2 y3 y4 y5 y6 y7 y8
   unfold spec_SureDigits.l1
   repeat' first
   | (with_reducible exact ih0 _ _ _ _ _)
   | (with_reducible exact ih1 _ _ _ _ _ _ _ _ _)
   | (with_reducible exact spec_pzAll.mono _ _ _)
   | (with_reducible exact spec_pzGood.mono _ _ _)
   | (with_reducible exact LeO.refl _)
   | (with_reducible exact LeO.none _)
   | (with_reducible refine LeO.ite ?_ ?_)
   | (with_reducible refine LeO.bind ?_ (fun _ => ?_))
   | exact ih0 _ _ _ _ _
   | exact ih1 _ _ _ _ _ _ _ _ _
   | exact spec_pzAll.mono _ _ _
   | exact spec_pzGood.mono _ _ _
   | exact LeO.none _
   | refine LeO.ite ?_ ?_
   | refine LeO.bind ?_ (fun _ => ?_)
theorem spec_SureDigits.mono : ∀ a0 a1 k, LeO (spec_SureDigits.f k a0 a1) (spec_SureDigits.f (k + 1) a0 a1) := by
 intro a0 a1 k
 obtain ⟨ih0, ih1⟩ := spec_SureDigits.mono_l k
 unfold spec_SureDigits.f
 repeat' first
   | (with_reducible exact ih0 _ _ _ _ _)
   | (with_reducible exact ih1 _ _ _ _ _ _ _ _ _)
   | (with_reducible exact spec_pzAll.mono _ _ _)
   | (with_reducible exact spec_pzGood.mono _ _ _)
   | (with_reducible exact LeO.refl _)
   | (with_reducible exact LeO.none _)
   | (with_reducible refine LeO.ite ?_ ?_)
   | (with_reducible refine LeO.bind ?_ (fun _ => ?_))
   | exact ih0 _ _ _ _ _
   | exact ih1 _ _ _ _ _ _ _ _ _
   | exact spec_pzAll.mono _ _ _
   | exact spec_pzGood.mono _ _ _
   | exact LeO.none _
   | refine LeO.ite ?_ ?_
   | refine LeO.bind ?_ (fun _ => ?_)
set_option maxHeartbeats 8000000 in
set_option maxRecDepth 100000 in
theorem spec_SureDigits.calls (k : Nat) (a0_0 : Int) (A0_1 : Option Addr) (c0_1 : Nat) (l0_1 : List (S65)) (r1 : ByteArray) (r2 : Bool) (w : World) (hr0_1 : Kd.C k65 w A0_1 l0_1.length l0_1) (hc0_1 : l0_1.length ≤ c0_1) (h : spec_SureDigits.f k a0_0 l0_1 = some (r1, r2)) :
  Calls Tryz.prog 23 #[.agg #[.int .i64 a0_0, .slice A0_1 l0_1.length c0_1]] w fun e w' => e = .returned (.tuple #[.string r1, .bool r2]) ∧ Below w.heap.size w w' := by
 have hu30 := Tryz.underlying30
 have HR0_1 := Aside0.mk hr0_1
 have HC0_1 := Aside0.mk hc0_1
 clear hr0_1 hc0_1
 have HB := Aside0.mk (Below.refl w.heap.size w)
 have H : ((spec_pzGood.f k a0_0 l0_1).bind fun t322 => (if t322 = true then ((spec_pzAll.f k a0_0 l0_1).bind fun t323 => (if (t323.length : Int) = 0 then (some ((⟨#[]⟩ : ByteArray), false)) else (spec_SureDigits.l0 k t323 (⟨#[]⟩ : ByteArray) 0 a0_0 l0_1))) else (some ((⟨#[]⟩ : ByteArray), false)))) = some (r1, r2) := h
 clear h
 replace H := Option.bind_eq_some_iff.mp H
 obtain ⟨t322, A20, H⟩ := H
 replace H : (if t322 = true then ((spec_pzAll.f k a0_0 l0_1).bind fun t323 => (if (t323.length : Int) = 0 then (some ((⟨#[]⟩ : ByteArray), false)) else (spec_SureDigits.l0 k t323 (⟨#[]⟩ : ByteArray) 0 a0_0 l0_1))) else (some ((⟨#[]⟩ : ByteArray), false))) = some (r1, r2) := H
 have A2 := Aside0.mk A20
 clear A20
 by_cases c3 : t322 = true
 ·
  subst c3
  have H1 : ((spec_pzAll.f k a0_0 l0_1).bind fun t323 => (if (t323.length : Int) = 0 then (some ((⟨#[]⟩ : ByteArray), false)) else (spec_SureDigits.l0 k t323 (⟨#[]⟩ : ByteArray) 0 a0_0 l0_1))) = some (r1, r2) := by rw [if_pos rfl] at H; exact H
  clear H
  have H := H1
  clear H1
  replace H := Option.bind_eq_some_iff.mp H
  obtain ⟨t323, A40, H⟩ := H
  replace H : (if (t323.length : Int) = 0 then (some ((⟨#[]⟩ : ByteArray), false)) else (spec_SureDigits.l0 k t323 (⟨#[]⟩ : ByteArray) 0 a0_0 l0_1)) = some (r1, r2) := H
  have A4 := Aside0.mk A40
  clear A40
  by_cases c5 : (t323.length : Int) = 0
  ·
   rw [if_pos c5] at H
   have c5b0 : ((t323.length : Int) == 0) = true := beq_iff_eq.mpr c5
   have c5b1 : ((t323.length : Int) != 0) = false := bne_eq_false_iff_eq.mpr c5
   clear c5
   simp only [Option.some.injEq, Prod.mk.injEq] at H
   obtain ⟨rfl, rfl⟩ := H
   go_enter Tryz.func23, Tryz.ntmps23
   go_wp2_with (first | ((with_reducible refine gate_dst (N := 1) rfl ?_); refine box_event ?hg (N := 1) ?hd (cs := #[.int .i64 a0_0, .slice A0_1 l0_1.length c0_1]) (t := 30) ?hr ?_; (case hd => rfl); (case hg => rfl); (case hr => first | (go_simp; done) | (go_simp; rfl)); intro gb321 hg w6 hbox hb; have n0_ := Aside0.mk (below_step (qw HB) hb); have n1_ := Aside0.mk (hbox); have n2_ := Aside0.mk ((by rw [hg]; exact (below_size (qw HB)) : w.heap.size ≤ gb321)); have n3_ := Aside0.mk ((by rw [hg]; exact (below_size (qw HB)) : w.heap.size ≤ gb321)); clear HB; have HB := n0_; have BK321 := n1_; have GW321 := n2_; have GE321 := n3_; clear n0_ n1_ n2_ n3_; clear hb hbox hg; have hcz7_0 : w6.cell? ⟨gb321, 0, none⟩ = some (.int .i64 a0_0) := bc BK321 0; have hcz7_1 : w6.cell? ⟨gb321, 1, none⟩ = some (.slice A0_1 l0_1.length c0_1) := bc BK321 1; have hfz7_0 := blk_frozen BK321.out 0; have hfz7_1 := blk_frozen BK321.out 1) | ((with_reducible refine gate_callee (f := 42) rfl ?_); refine goesL_ (some 11) rfl rfl Tryz.func42 (by kernel_rfl) rfl #[.agg #[.int .i64 a0_0, .slice A0_1 l0_1.length c0_1]] rfl (by (try simp only [List.map_toArray, List.map_cons, List.map_nil]); first | done | rfl | (simp only [List.length_drop, List.length_take]; rfl)) ?_; (with_reducible refine (spec_pzGood.calls k a0_0 _ _ l0_1 true _ ?side1 ?side2 A2.out).mono ?_); (case side1 => repeat (first | exact (Kd.C_below HR0_1.out HB.out) | (with_reducible refine Kd.C_alloc ?_ _) | (with_reducible refine Kd.C_drewN ?_ _) | (with_reducible refine Kd.C_drew ?_))); (case side2 => exact HC0_1.out); rintro e w8 ⟨rfl, hb⟩; refine ⟨_, rfl, ?_⟩; have n0_ := qbb BK321 hb; have n1_ := Aside0.mk (below_step (qw HB) hb); clear BK321; clear HB; have BK321 := n0_; have HB := n1_; clear n0_ n1_; (try clear hb); (try clear hb2); (try clear hk); (try clear hi); have hcz9_0 : w8.cell? ⟨gb321, 0, none⟩ = some (.int .i64 a0_0) := bc BK321 0; have hcz9_1 : w8.cell? ⟨gb321, 1, none⟩ = some (.slice A0_1 l0_1.length c0_1) := bc BK321 1; have hfz9_0 := blk_frozen BK321.out 0; have hfz9_1 := blk_frozen BK321.out 1) | ((with_reducible refine gate_callee (f := 43) rfl ?_); refine goesL_ (some 17) rfl rfl Tryz.func43 (by kernel_rfl) rfl #[.int .i64 a0_0, .slice A0_1 l0_1.length c0_1] rfl (by (try simp only [List.map_toArray, List.map_cons, List.map_nil]); first | done | rfl | (simp only [List.length_drop, List.length_take]; rfl)) ?_; (with_reducible refine (spec_pzAll.calls k a0_0 _ _ l0_1 t323 _ ?side1 ?side2 A4.out).mono ?_); (case side1 => repeat (first | exact (Kd.C_below HR0_1.out HB.out) | (with_reducible refine Kd.C_alloc ?_ _) | (with_reducible refine Kd.C_drewN ?_ _) | (with_reducible refine Kd.C_drew ?_))); (case side2 => exact HC0_1.out); rintro e w10 ⟨v324, rfl, ho0, hb⟩; refine ⟨_, rfl, ?_⟩; have n0_ := Aside0.mk (Kd.R_lower ho0 (below_size (qw HB))); have n1_ := qbb BK321 hb; have n2_ := Aside0.mk (below_step (qw HB) hb); clear BK321; clear HB; have HO325 := n0_; have BK321 := n1_; have HB := n2_; clear n0_ n1_ n2_; (try clear hb); (try clear hb2); (try clear hk); (try clear hi); (try clear ho0); obtain ⟨Ao11, co11, eo11⟩ := Kd.R_slice HO325.out; subst eo11))
   go_ret2
   exact ⟨by first | rfl | (simp [errW_none, errW_some] <;> rfl) | (simp [*, errW_none, errW_some] <;> rfl), qw HB⟩
  ·
   rw [if_neg c5] at H
   have c5b0 : ((t323.length : Int) == 0) = false := beq_eq_false_iff_ne.mpr c5
   have c5b1 : ((t323.length : Int) != 0) = true := bne_iff_ne.mpr c5
   have c5b2 : ¬ (t323 = []) := fun h_ => c5 (by rw [h_]; rfl)
   have H' := Aside0.mk H
   clear H
   go_enter Tryz.func23, Tryz.ntmps23
   go_wp2_with (first | ((with_reducible refine gate_dst (N := 1) rfl ?_); refine box_event ?hg (N := 1) ?hd (cs := #[.int .i64 a0_0, .slice A0_1 l0_1.length c0_1]) (t := 30) ?hr ?_; (case hd => rfl); (case hg => rfl); (case hr => first | (go_simp; done) | (go_simp; rfl)); intro gb321 hg w12 hbox hb; have n0_ := Aside0.mk (below_step (qw HB) hb); have n1_ := Aside0.mk (hbox); have n2_ := Aside0.mk ((by rw [hg]; exact (below_size (qw HB)) : w.heap.size ≤ gb321)); have n3_ := Aside0.mk ((by rw [hg]; exact (below_size (qw HB)) : w.heap.size ≤ gb321)); clear HB; have HB := n0_; have BK321 := n1_; have GW321 := n2_; have GE321 := n3_; clear n0_ n1_ n2_ n3_; clear hb hbox hg; have hcz13_0 : w12.cell? ⟨gb321, 0, none⟩ = some (.int .i64 a0_0) := bc BK321 0; have hcz13_1 : w12.cell? ⟨gb321, 1, none⟩ = some (.slice A0_1 l0_1.length c0_1) := bc BK321 1; have hfz13_0 := blk_frozen BK321.out 0; have hfz13_1 := blk_frozen BK321.out 1) | ((with_reducible refine gate_callee (f := 42) rfl ?_); refine goesL_ (some 11) rfl rfl Tryz.func42 (by kernel_rfl) rfl #[.agg #[.int .i64 a0_0, .slice A0_1 l0_1.length c0_1]] rfl (by (try simp only [List.map_toArray, List.map_cons, List.map_nil]); first | done | rfl | (simp only [List.length_drop, List.length_take]; rfl)) ?_; (with_reducible refine (spec_pzGood.calls k a0_0 _ _ l0_1 true _ ?side1 ?side2 A2.out).mono ?_); (case side1 => repeat (first | exact (Kd.C_below HR0_1.out HB.out) | (with_reducible refine Kd.C_alloc ?_ _) | (with_reducible refine Kd.C_drewN ?_ _) | (with_reducible refine Kd.C_drew ?_))); (case side2 => exact HC0_1.out); rintro e w14 ⟨rfl, hb⟩; refine ⟨_, rfl, ?_⟩; have n0_ := qbb BK321 hb; have n1_ := Aside0.mk (below_step (qw HB) hb); clear BK321; clear HB; have BK321 := n0_; have HB := n1_; clear n0_ n1_; (try clear hb); (try clear hb2); (try clear hk); (try clear hi); have hcz15_0 : w14.cell? ⟨gb321, 0, none⟩ = some (.int .i64 a0_0) := bc BK321 0; have hcz15_1 : w14.cell? ⟨gb321, 1, none⟩ = some (.slice A0_1 l0_1.length c0_1) := bc BK321 1; have hfz15_0 := blk_frozen BK321.out 0; have hfz15_1 := blk_frozen BK321.out 1) | ((with_reducible refine gate_callee (f := 43) rfl ?_); refine goesL_ (some 17) rfl rfl Tryz.func43 (by kernel_rfl) rfl #[.int .i64 a0_0, .slice A0_1 l0_1.length c0_1] rfl (by (try simp only [List.map_toArray, List.map_cons, List.map_nil]); first | done | rfl | (simp only [List.length_drop, List.length_take]; rfl)) ?_; (with_reducible refine (spec_pzAll.calls k a0_0 _ _ l0_1 t323 _ ?side1 ?side2 A4.out).mono ?_); (case side1 => repeat (first | exact (Kd.C_below HR0_1.out HB.out) | (with_reducible refine Kd.C_alloc ?_ _) | (with_reducible refine Kd.C_drewN ?_ _) | (with_reducible refine Kd.C_drew ?_))); (case side2 => exact HC0_1.out); rintro e w16 ⟨v324, rfl, ho0, hb⟩; refine ⟨_, rfl, ?_⟩; have n0_ := Aside0.mk (Kd.R_lower ho0 (below_size (qw HB))); have n1_ := qbb BK321 hb; have n2_ := Aside0.mk (below_step (qw HB) hb); clear BK321; clear HB; have HO325 := n0_; have BK321 := n1_; have HB := n2_; clear n0_ n1_ n2_; (try clear hb); (try clear hb2); (try clear hk); (try clear hi); (try clear ho0); obtain ⟨Ao17, co17, eo17⟩ := Kd.R_slice HO325.out; subst eo17))
   go_loopg [5, 6] k (fun kq v5 v6 w' => ∃ (x5_1 : ByteArray) (x6_1 : Int), v5 = .string x5_1 ∧ v6 = .int .i64 x6_1 ∧ Aside0 (spec_SureDigits.l0 kq t323 x5_1 x6_1 a0_0 l0_1 = some (r1, r2)) ∧ Aside0 (kq ≤ k) ∧ Aside0 (Kd.R Kd.string 9 w' w.heap.size (fun _ => True) (.slice Ao17 t323.length co17) t323) ∧ Aside0 (w'.heap[gb321]? = some (.cells #[.int .i64 a0_0, (.slice A0_1 l0_1.length c0_1)] 30 (0, 0))) ∧ Aside0 (Below w.heap.size w w'))
   case atStart => exact ⟨((⟨#[]⟩ : ByteArray)), (0), (by first | rfl | (simp; done) | (simp [*]; done) | (simp [isEmpty_bne]; done) | (simp [i64_w]; done) | (simp only [i64_w]; done)), (by first | rfl | (simp; done) | (simp [*]; done) | (simp [isEmpty_bne]; done) | (simp [i64_w]; done) | (simp only [i64_w]; done)), H', ⟨Nat.le_refl _⟩, ⟨by (with_reducible repeat (first | apply Kd.R_alloc | apply Kd.R_drewN | apply Kd.R_drew)); exact HO325.out⟩, ⟨by (with_reducible repeat (first | refine blk_drewN ?_ _ | refine blk_drew ?_ | refine blk_alloc ?_ _)); exact BK321.out⟩, ⟨by repeat (first | (with_reducible first | exact HB.out | apply below_alloc | apply pw_below_drewN | apply below_drew1 | refine below_set ?_ GE321.out) | exact HB.out)⟩⟩
   case round =>
    clear H'
    try clear c2
    try clear p2
    try clear c3
    try clear c4
    try clear c5
    try clear c5b0
    try clear c5b1
    try clear c5b2
    try clear hcz13_0
    try clear hcz13_1
    try clear hcz15_0
    try clear hcz15_1
    try clear hcz7_0
    try clear hcz7_1
    try clear hcz9_0
    try clear hcz9_1
    try clear hfz13_0
    try clear hfz13_1
    try clear hfz15_0
    try clear hfz15_1
    try clear hfz7_0
    try clear hfz7_1
    try clear hfz9_0
    try clear hfz9_1
    obtain ⟨x5_1, x6_1, rfl, rfl, HA, HK1, HO_4, BK321, HB⟩ := hrel
    cases gk with
    | zero => exact absurd HA.out (by simp [spec_SureDigits.l0])
    | succ k1 =>
     have H := HA.out
     clear HA
     simp only [spec_SureDigits.l0] at H
     by_cases c18 : x6_1 < a0_0
     ·
      rw [if_pos c18] at H
      have c18b0 : decide (x6_1 < a0_0) = true := decide_eq_true c18
      clear c18
      by_cases c19 : 0 < (t323.length : Int)
      ·
       rw [if_pos c19] at H
       have c19b0 : decide (0 < (t323.length : Int)) = true := decide_eq_true c19
       have c19b1 : decide (0 < t323.length) = true := decide_eq_true (by omega)
       clear c19
       by_cases c20 : 0 ≤ x6_1
       ·
        rw [if_pos c20] at H
        have c20b0 := eq_true c20
        have c20b1 : decide (0 ≤ x6_1) = true := decide_eq_true c20
        clear c20
        by_cases c21 : x6_1 ≤ (wrap64 (x6_1 + 1))
        ·
         rw [if_pos c21] at H
         have c21b0 := eq_true c21
         have c21b1 : decide (x6_1 ≤ (wrap64 (x6_1 + 1))) = true := decide_eq_true c21
         by_cases c22 : (wrap64 (x6_1 + 1)) ≤ ((rdOf ByteArray.empty t323 0).size : Int)
         ·
          rw [if_pos c22] at H
          have c22b0 := eq_true c22
          have c22b1 : decide ((wrap64 (x6_1 + 1)) ≤ ((rdOf ByteArray.empty t323 0).size : Int)) = true := decide_eq_true c22
          have H' := Aside0.mk H
          clear H
          have hcz23_0 : wr.cell? ⟨gb321, 0, none⟩ = some (.int .i64 a0_0) := bc BK321 0
          have hcz23_1 : wr.cell? ⟨gb321, 1, none⟩ = some (.slice A0_1 l0_1.length c0_1) := bc BK321 1
          have hfz23_0 := blk_frozen BK321.out 0
          have hfz23_1 := blk_frozen BK321.out 1
          have p326 : 0 ≤ (0 : Int) := (by omega)
          have q326 : 0 < (t323.length : Int) := of_decide_eq_true (by first | (with_reducible assumption) | assumption)
          obtain ⟨ad326, e326, hx326_0⟩ := Kd.at_string (Kd.R_reads' HO_4.out).2.2 0 p326 q326
          cases e326
          have qi326 : (0 < t323.length) = True := eq_true (by omega)
          (try rw [show ((0 : Int)).toNat = 0 from rfl] at hx326_0)
          (try rw [Addr.add_zero'] at hx326_0)
          replace p326 := eq_true p326
          replace q326 := eq_true q326
          go_wp2
          go_loopg [7, 36] k1 (fun kq v7 v36 w' => ∃ (x7_2 : ByteArray) (x36_2 : Int), v7 = .string x7_2 ∧ v36 = .int .i64 x36_2 ∧ Aside0 (spec_SureDigits.l1 kq t323 x5_1 x6_1 x7_2 t323 (t323.length : Int) x36_2 a0_0 l0_1 = some (r1, r2)) ∧ Aside0 (kq ≤ k1) ∧ Aside0 (Kd.R Kd.string 9 w' w.heap.size (fun _ => True) (.slice (some ad326) t323.length co17) t323) ∧ Aside0 (Kd.R Kd.string 9 w' w.heap.size (fun _ => True) (.slice (some ad326) t323.length co17) t323) ∧ Aside0 (w'.heap[gb321]? = some (.cells #[.int .i64 a0_0, (.slice A0_1 l0_1.length c0_1)] 30 (0, 0))) ∧ Aside0 (Below w.heap.size w w'))
          case atStart => exact ⟨((rdOf ByteArray.empty t323 0).extract (x6_1 : Int).toNat ((wrap64 (x6_1 + 1)) : Int).toNat), (0), (by first | rfl | (simp; done) | (simp [*]; done) | (simp [isEmpty_bne]; done) | (simp [i64_w]; done) | (simp only [i64_w]; done)), (by first | rfl | (simp; done) | (simp [*]; done) | (simp [isEmpty_bne]; done) | (simp [i64_w]; done) | (simp only [i64_w]; done)), H', ⟨Nat.le_refl _⟩, ⟨by (with_reducible repeat (first | apply Kd.R_alloc | apply Kd.R_drewN | apply Kd.R_drew)); exact HO_4.out⟩, ⟨by (with_reducible repeat (first | apply Kd.R_alloc | apply Kd.R_drewN | apply Kd.R_drew)); exact HO_4.out⟩, ⟨by (with_reducible repeat (first | refine blk_drewN ?_ _ | refine blk_drew ?_ | refine blk_alloc ?_ _)); exact BK321.out⟩, ⟨by repeat (first | (with_reducible first | exact HB.out | apply below_alloc | apply pw_below_drewN | apply below_drew1 | refine below_set ?_ GE321.out) | exact HB.out)⟩⟩
          case round =>
           clear H'
           try clear c1
           try clear c2
           try clear p2
           try clear c3
           try clear p3
           try clear q3
           try clear hx3
           try clear qi3
           try clear c4
           try clear c5
           try clear c5b0
           try clear c5b1
           try clear c5b2
           try clear p6
           try clear c18
           try clear c18b0
           try clear c19
           try clear c19b0
           try clear c19b1
           try clear c20
           try clear c20b0
           try clear c20b1
           try clear c21
           try clear c21b0
           try clear c21b1
           try clear c22
           try clear c22b0
           try clear c22b1
           try clear c23
           try clear hcz13_0
           try clear hcz13_1
           try clear hcz15_0
           try clear hcz15_1
           try clear hcz23_0
           try clear hcz23_1
           try clear hcz7_0
           try clear hcz7_1
           try clear hcz9_0
           try clear hcz9_1
           try clear hfz13_0
           try clear hfz13_1
           try clear hfz15_0
           try clear hfz15_1
           try clear hfz23_0
           try clear hfz23_1
           try clear hfz7_0
           try clear hfz7_1
           try clear hfz9_0
           try clear hfz9_1
           try clear hx326_0
           try clear p2
           try clear p326
           try clear q326
           obtain ⟨x7_2, x36_2, rfl, rfl, HA, HK2, HO_4, HO_34, BK321, HB⟩ := hrel
           cases gk with
           | zero => exact absurd HA.out (by simp [spec_SureDigits.l1])
           | succ k2 =>
            have H := HA.out
            clear HA
            simp only [spec_SureDigits.l1] at H
            by_cases c24 : x36_2 < (t323.length : Int)
            ·
             rw [if_pos c24] at H
             have c24b0 : decide (x36_2 < (t323.length : Int)) = true := decide_eq_true c24
             clear c24
             by_cases c25 : 0 ≤ x36_2
             ·
              rw [if_pos c25] at H
              have c25b0 : decide (0 ≤ x36_2) = true := decide_eq_true c25
              clear c25
              by_cases c26 : x36_2 < (t323.length : Int)
              ·
               rw [if_pos c26] at H
               have c26b0 : decide (x36_2 < (t323.length : Int)) = true := decide_eq_true c26
               clear c26
               by_cases c27 : 0 ≤ x6_1
               ·
                rw [if_pos c27] at H
                have c27b0 := eq_true c27
                have c27b1 : decide (0 ≤ x6_1) = true := decide_eq_true c27
                clear c27
                by_cases c28 : x6_1 ≤ (wrap64 (x6_1 + 1))
                ·
                 rw [if_pos c28] at H
                 have c28b0 := eq_true c28
                 have c28b1 : decide (x6_1 ≤ (wrap64 (x6_1 + 1))) = true := decide_eq_true c28
                 by_cases c29 : (wrap64 (x6_1 + 1)) ≤ ((rdOf ByteArray.empty t323 x36_2).size : Int)
                 ·
                  rw [if_pos c29] at H
                  have c29b0 := eq_true c29
                  have c29b1 : decide ((wrap64 (x6_1 + 1)) ≤ ((rdOf ByteArray.empty t323 x36_2).size : Int)) = true := decide_eq_true c29
                  by_cases c30 : ((rdOf ByteArray.empty t323 x36_2).extract (x6_1 : Int).toNat ((wrap64 (x6_1 + 1)) : Int).toNat).toList = x7_2.toList
                  ·
                   rw [if_pos c30] at H
                   have c30b0 : (((rdOf ByteArray.empty t323 x36_2).extract (x6_1 : Int).toNat ((wrap64 (x6_1 + 1)) : Int).toNat).toList == x7_2.toList) = true := beq_iff_eq.mpr c30
                   have c30b1 : (((rdOf ByteArray.empty t323 x36_2).extract (x6_1 : Int).toNat ((wrap64 (x6_1 + 1)) : Int).toNat).toList != x7_2.toList) = false := bne_eq_false_iff_eq.mpr c30
                   clear c30
                   have H' := Aside0.mk H
                   clear H
                   have p327 : 0 ≤ (x36_2 : Int) := of_decide_eq_true (by first | (with_reducible assumption) | assumption)
                   have q327 : x36_2 < (t323.length : Int) := of_decide_eq_true (by first | (with_reducible assumption) | assumption)
                   obtain ⟨ad327, e327, hx327_0⟩ := Kd.at_string (Kd.R_reads' HO_34.out).2.2 x36_2 p327 q327
                   obtain rfl : ad326 = ad327 := (by injection e327)
                   replace p327 := eq_true p327
                   replace q327 := eq_true q327
                   go_wp2
                   go_roundg k2
                   case measure => have := HK1.out; have := HK2.out; omega
                   case rel => exact ⟨(x7_2), (wrap64 (x36_2 + 1)), (by first | rfl | (simp; done) | (simp [*]; done) | (simp [isEmpty_bne]; done) | (simp [i64_w]; done) | (simp only [i64_w]; done)), (by first | rfl | (simp; done) | (simp [*]; done) | (simp [isEmpty_bne]; done) | (simp [i64_w]; done) | (simp only [i64_w]; done)), H', ⟨by have := HK1.out; have := HK2.out; omega⟩, ⟨by (with_reducible repeat (first | apply Kd.R_alloc | apply Kd.R_drewN | apply Kd.R_drew)); exact HO_4.out⟩, ⟨by (with_reducible repeat (first | apply Kd.R_alloc | apply Kd.R_drewN | apply Kd.R_drew)); exact HO_34.out⟩, ⟨by (with_reducible repeat (first | refine blk_drewN ?_ _ | refine blk_drew ?_ | refine blk_alloc ?_ _)); exact BK321.out⟩, ⟨by repeat (first | (with_reducible first | exact HB.out | apply below_alloc | apply pw_below_drewN | apply below_drew1 | refine below_set ?_ GE321.out) | exact HB.out)⟩⟩
                  ·
                   rw [if_neg c30] at H
                   have c30b0 : (((rdOf ByteArray.empty t323 x36_2).extract (x6_1 : Int).toNat ((wrap64 (x6_1 + 1)) : Int).toNat).toList == x7_2.toList) = false := beq_eq_false_iff_ne.mpr c30
                   have c30b1 : (((rdOf ByteArray.empty t323 x36_2).extract (x6_1 : Int).toNat ((wrap64 (x6_1 + 1)) : Int).toNat).toList != x7_2.toList) = true := bne_iff_ne.mpr c30
                   by_cases c31 : x5_1.size + 1 ≤ 9223372036854775807
                   ·
                    rw [if_pos c31] at H
                    have c31b0 := eq_true c31
                    have c31b1 : decide (x5_1.size + 1 ≤ 9223372036854775807) = true := decide_eq_true c31
                    try have c31b2 : (9223372036854775807 < x5_1.size + 1) = False := eq_false (Nat.not_lt.2 c31)
                    have H' := Aside0.mk H
                    clear H
                    have p327 : 0 ≤ (x36_2 : Int) := of_decide_eq_true (by first | (with_reducible assumption) | assumption)
                    have q327 : x36_2 < (t323.length : Int) := of_decide_eq_true (by first | (with_reducible assumption) | assumption)
                    obtain ⟨ad327, e327, hx327_0⟩ := Kd.at_string (Kd.R_reads' HO_34.out).2.2 x36_2 p327 q327
                    obtain rfl : ad326 = ad327 := (by injection e327)
                    replace p327 := eq_true p327
                    replace q327 := eq_true q327
                    go_wp2
                    go_roundg k2
                    case measure => have := HK1.out; have := HK2.out; omega
                    case rel => exact ⟨(x5_1 ++ (⟨#[63]⟩ : ByteArray)), (wrap64 (x6_1 + 1)), (by first | rfl | (simp; done) | (simp [*]; done) | (simp [isEmpty_bne]; done) | (simp [i64_w]; done) | (simp only [i64_w]; done)), (by first | rfl | (simp; done) | (simp [*]; done) | (simp [isEmpty_bne]; done) | (simp [i64_w]; done) | (simp only [i64_w]; done)), H', ⟨by have := HK1.out; have := HK2.out; omega⟩, ⟨by (with_reducible repeat (first | apply Kd.R_alloc | apply Kd.R_drewN | apply Kd.R_drew)); exact HO_4.out⟩, ⟨by (with_reducible repeat (first | refine blk_drewN ?_ _ | refine blk_drew ?_ | refine blk_alloc ?_ _)); exact BK321.out⟩, ⟨by repeat (first | (with_reducible first | exact HB.out | apply below_alloc | apply pw_below_drewN | apply below_drew1 | refine below_set ?_ GE321.out) | exact HB.out)⟩⟩
                   ·
                    rw [if_neg c31] at H
                    exact absurd H (by simp)
                 ·
                  rw [if_neg c29] at H
                  exact absurd H (by simp)
                ·
                 rw [if_neg c28] at H
                 exact absurd H (by simp)
               ·
                rw [if_neg c27] at H
                exact absurd H (by simp)
              ·
               rw [if_neg c26] at H
               exact absurd H (by simp)
             ·
              rw [if_neg c25] at H
              exact absurd H (by simp)
            ·
             rw [if_neg c24] at H
             have c24b0 : decide (x36_2 < (t323.length : Int)) = false := decide_eq_false c24
             clear c24
             by_cases c32 : x5_1.size + x7_2.size ≤ 9223372036854775807
             ·
              rw [if_pos c32] at H
              have c32b0 := eq_true c32
              have c32b1 : decide (x5_1.size + x7_2.size ≤ 9223372036854775807) = true := decide_eq_true c32
              try have c32b2 : (9223372036854775807 < x5_1.size + x7_2.size) = False := eq_false (Nat.not_lt.2 c32)
              have H' := Aside0.mk H
              clear H
              go_wp2
              go_roundg k2
              case measure => have := HK1.out; have := HK2.out; omega
              case rel => exact ⟨(x5_1 ++ x7_2), (wrap64 (x6_1 + 1)), (by first | rfl | (simp; done) | (simp [*]; done) | (simp [isEmpty_bne]; done) | (simp [i64_w]; done) | (simp only [i64_w]; done)), (by first | rfl | (simp; done) | (simp [*]; done) | (simp [isEmpty_bne]; done) | (simp [i64_w]; done) | (simp only [i64_w]; done)), H', ⟨by have := HK1.out; have := HK2.out; omega⟩, ⟨by (with_reducible repeat (first | apply Kd.R_alloc | apply Kd.R_drewN | apply Kd.R_drew)); exact HO_4.out⟩, ⟨by (with_reducible repeat (first | refine blk_drewN ?_ _ | refine blk_drew ?_ | refine blk_alloc ?_ _)); exact BK321.out⟩, ⟨by repeat (first | (with_reducible first | exact HB.out | apply below_alloc | apply pw_below_drewN | apply below_drew1 | refine below_set ?_ GE321.out) | exact HB.out)⟩⟩
             ·
              rw [if_neg c32] at H
              exact absurd H (by simp)
         ·
          rw [if_neg c22] at H
          exact absurd H (by simp)
        ·
         rw [if_neg c21] at H
         exact absurd H (by simp)
       ·
        rw [if_neg c20] at H
        exact absurd H (by simp)
      ·
       rw [if_neg c19] at H
       exact absurd H (by simp)
     ·
      rw [if_neg c18] at H
      have c18b0 : decide (x6_1 < a0_0) = false := decide_eq_false c18
      clear c18
      simp only [Option.some.injEq, Prod.mk.injEq] at H
      obtain ⟨rfl, rfl⟩ := H
      have hcz33_0 : wr.cell? ⟨gb321, 0, none⟩ = some (.int .i64 a0_0) := bc BK321 0
      have hcz33_1 : wr.cell? ⟨gb321, 1, none⟩ = some (.slice A0_1 l0_1.length c0_1) := bc BK321 1
      have hfz33_0 := blk_frozen BK321.out 0
      have hfz33_1 := blk_frozen BK321.out 1
      go_wp2
      go_ret2
      exact ⟨by first | rfl | (simp [errW_none, errW_some] <;> rfl) | (simp [*, errW_none, errW_some] <;> rfl), qw HB⟩
 ·
  replace c3 := Bool.eq_false_iff.mpr c3
  subst c3
  have H1 : (some ((⟨#[]⟩ : ByteArray), false)) = some (r1, r2) := by rw [if_neg (show ¬ (false = true) by decide)] at H; exact H
  clear H
  have H := H1
  clear H1
  simp only [Option.some.injEq, Prod.mk.injEq] at H
  obtain ⟨rfl, rfl⟩ := H
  go_enter Tryz.func23, Tryz.ntmps23
  go_wp2_with (first | ((with_reducible refine gate_dst (N := 1) rfl ?_); refine box_event ?hg (N := 1) ?hd (cs := #[.int .i64 a0_0, .slice A0_1 l0_1.length c0_1]) (t := 30) ?hr ?_; (case hd => rfl); (case hg => rfl); (case hr => first | (go_simp; done) | (go_simp; rfl)); intro gb321 hg w34 hbox hb; have n0_ := Aside0.mk (below_step (qw HB) hb); have n1_ := Aside0.mk (hbox); have n2_ := Aside0.mk ((by rw [hg]; exact (below_size (qw HB)) : w.heap.size ≤ gb321)); have n3_ := Aside0.mk ((by rw [hg]; exact (below_size (qw HB)) : w.heap.size ≤ gb321)); clear HB; have HB := n0_; have BK321 := n1_; have GW321 := n2_; have GE321 := n3_; clear n0_ n1_ n2_ n3_; clear hb hbox hg; have hcz35_0 : w34.cell? ⟨gb321, 0, none⟩ = some (.int .i64 a0_0) := bc BK321 0; have hcz35_1 : w34.cell? ⟨gb321, 1, none⟩ = some (.slice A0_1 l0_1.length c0_1) := bc BK321 1; have hfz35_0 := blk_frozen BK321.out 0; have hfz35_1 := blk_frozen BK321.out 1) | ((with_reducible refine gate_callee (f := 42) rfl ?_); refine goesL_ (some 11) rfl rfl Tryz.func42 (by kernel_rfl) rfl #[.agg #[.int .i64 a0_0, .slice A0_1 l0_1.length c0_1]] rfl (by (try simp only [List.map_toArray, List.map_cons, List.map_nil]); first | done | rfl | (simp only [List.length_drop, List.length_take]; rfl)) ?_; (with_reducible refine (spec_pzGood.calls k a0_0 _ _ l0_1 false _ ?side1 ?side2 A2.out).mono ?_); (case side1 => repeat (first | exact (Kd.C_below HR0_1.out HB.out) | (with_reducible refine Kd.C_alloc ?_ _) | (with_reducible refine Kd.C_drewN ?_ _) | (with_reducible refine Kd.C_drew ?_))); (case side2 => exact HC0_1.out); rintro e w36 ⟨rfl, hb⟩; refine ⟨_, rfl, ?_⟩; have n0_ := qbb BK321 hb; have n1_ := Aside0.mk (below_step (qw HB) hb); clear BK321; clear HB; have BK321 := n0_; have HB := n1_; clear n0_ n1_; (try clear hb); (try clear hb2); (try clear hk); (try clear hi)))
  go_ret2
  exact ⟨by first | rfl | (simp [errW_none, errW_some] <;> rfl) | (simp [*, errW_none, errW_some] <;> rfl), qw HB⟩


/-! ### impl_SureDigits: function 24 -/
def bytI (x : ByteArray) : List Int := x.data.toList.map fun b => (b.toNat : Int)
theorem bytI_len (x : ByteArray) : (bytI x).length = x.size := by unfold bytI; rw [List.length_map]; rfl
/-- what is left of the digits, a number more looked at -/
def stepO (x : ByteArray) (o : List Int) : List Int := List.zipWith (fun a b => if a = b then b else 63) (bytI x) o
theorem stepO_len (x : ByteArray) (o : List Int) (h : x.size = o.length) : (stepO x o).length = o.length := by unfold stepO; rw [List.length_zipWith, bytI_len]; omega
def sureO (l : List ByteArray) (o : List Int) : List Int := l.foldl (fun o x => stepO x o) o
theorem sureO_len (n : Nat) : ∀ (l : List ByteArray) (o : List Int), o.length = n → (∀ x ∈ l, x.size = n) → (sureO l o).length = n
  | [], o, h, _ => h
  | x :: l, o, h, hl => sureO_len n l (stepO x o) (by rw [stepO_len _ _ (by rw [hl x (by simp)]; omega)]; exact h) (fun y hy => hl y (List.mem_cons_of_mem _ hy))
theorem sureO_snoc (l : List ByteArray) (x : ByteArray) (o : List Int) : sureO (l ++ [x]) o = stepO x (sureO l o) := by unfold sureO; rw [List.foldl_append]; rfl
def impl_SureDigits.g (l : List ByteArray) : Option (ByteArray × Bool) := match l with
  | [] => some (⟨#[]⟩, false)
  | a :: t => if (a :: t).length ≤ 1048576 ∧ a.size ≤ 1000 ∧ ((a :: t).all fun x => decide (x.size = a.size)) = true then some (strOfNums (sureO (a :: t) (bytI a)), true) else none
def impl_SureDigits.f (k : Nat) (a0_0 : Int) (l0_1 : List S65) : Option (ByteArray × Bool) :=
  (impl_Solutions.f k a0_0 l0_1).bind fun r => if r.2 = true then impl_SureDigits.g r.1 else some (⟨#[]⟩, false)
theorem impl_SureDigits.mono : ∀ a0_0 l0_1 k, LeO (impl_SureDigits.f k a0_0 l0_1) (impl_SureDigits.f (k + 1) a0_0 l0_1) := by
  intro a b k
  unfold impl_SureDigits.f
  exact LeO.bind (impl_Solutions.mono _ _ _) (fun r => LeO.refl _)
theorem step_set {S dk : List Int} {j : Nat} (hS : S.length = dk.length) (hj : j < dk.length) (v : Int) (hv : S[j]? = some v) : S.take (j + 1) ++ dk.drop (j + 1) = (S.take j ++ dk.drop j).set j v := by
  have hl : (S.take j).length = j := by rw [List.length_take]; omega
  rw [List.take_add_one, hv, List.set_append_right _ _ (by omega), hl, Nat.sub_self, List.drop_eq_getElem_cons hj, List.set_cons_zero, List.append_assoc]
  rfl
theorem stepO_get {x : ByteArray} {o : List Int} {j : Nat} (hx : j < x.size) (ho : j < o.length) : (stepO x o)[j]? = some (if bt x (j : Int) = o[j] then o[j] else 63) := by
  unfold stepO
  rw [List.getElem?_zipWith]
  have h1 : (bytI x)[j]? = some (bt x (j : Int)) := by
    unfold bytI
    have hj : j < x.data.toList.length := hx
    rw [List.getElem?_map, List.getElem?_eq_getElem hj]
    simp [bt, hx]
    rfl
  rw [h1, List.getElem?_eq_getElem ho]
open Go.Sort in
theorem sure_row (w : World) (e : TypeId) (s : ByteArray) (cap : Nat) (hcap : s.size ≤ cap) : Holds (Value.int .u8) (w.drew.alloc (.cells (bytesRow s cap) e ((bytesRow s cap).size, (bytesRow s cap).size + 1))) w.heap.size 0 (bytI s).toArray := by
  have hb : (w.drew.alloc (.cells (bytesRow s cap) e ((bytesRow s cap).size, (bytesRow s cap).size + 1))).heap[w.heap.size]? = some (.cells (bytesRow s cap) e ((bytesRow s cap).size, (bytesRow s cap).size + 1)) := by
    show (w.heap.push _)[w.heap.size]? = _
    simp
  have hbz : (bytesRow s cap).size = cap := by unfold bytesRow; rw [Array.size_append, Array.size_map, Array.size_replicate]; show s.size + _ = _; omega
  intro j hj
  rw [List.size_toArray, bytI_len] at hj
  have hd : j < s.data.size := hj
  rw [Nat.zero_add]
  constructor
  · simp only [World.cell?, hb]
    unfold bytesRow bytI
    rw [getElem!_pos _ j (by rw [List.size_toArray, List.length_map]; exact hd)]
    simp [Array.getElem?_append, hd]
    rw [if_pos hj, Array.getElem?_eq_getElem hd]
    rfl
  · have hjc : ¬ cap ≤ j := by omega
    unfold World.frozen?
    rw [hb]
    simp [hbz, hjc]
open Go.Sort in
set_option maxHeartbeats 4000000 in
set_option maxRecDepth 100000 in
theorem impl_SureDigits.calls (k : Nat) (a0_0 : Int) (A0_1 : Option Addr) (c0_1 : Nat) (l0_1 : List S65) (r1 : ByteArray) (r2 : Bool) (w : World) (hr0_1 : Kd.C k65 w A0_1 l0_1.length l0_1) (hc0_1 : l0_1.length ≤ c0_1) (h : impl_SureDigits.f k a0_0 l0_1 = some (r1, r2)) (hglob : Glob w := by first | exact Glob.below HG.out (by repeat (first | (with_reducible first | exact HB.out | apply below_alloc | apply pw_below_drewN | apply below_drew1 | refine below_set ?_ (Aside0.out (by assumption))) | exact HB.out)) | assumption) :
    Calls Tryz.prog 24 #[.agg #[.int .i64 a0_0, .slice A0_1 l0_1.length c0_1]] w fun e w' => e = .returned (.tuple #[.string r1, .bool r2]) ∧ Below w.heap.size w w' := by
  unfold impl_SureDigits.f at h
  replace h := Option.bind_eq_some_iff.mp h
  obtain ⟨⟨l, ok⟩, hs, h⟩ := h
  have hb0 : Below w.heap.size w (w.alloc (.cells #[.int .i64 a0_0, .slice A0_1 l0_1.length c0_1] 30)) := (Below.refl _ w).alloc (Nat.le_refl _) _
  have hsol := impl_Solutions.calls k a0_0 A0_1 c0_1 l0_1 l ok (w.alloc (.cells #[.int .i64 a0_0, .slice A0_1 l0_1.length c0_1] 30)) (Kd.C_below hr0_1 hb0) hc0_1 hs (hglob.below hb0)
  have H := Aside0.mk h
  clear h hs hr0_1 hglob
  cases ok with
  | false =>
    go_enter Tryz.func24, Tryz.ntmps24
    go_wp2_with fail
    refine hsol.mono ?_
    rintro e w2 ⟨v, rfl, hR, hb2⟩
    clear hsol
    have h := H.out
    rw [if_neg (by simp)] at h
    have e := Option.some.inj h
    obtain ⟨rfl, rfl⟩ := Prod.mk.inj e
    obtain ⟨A2, c2, hv, hc2, hC2⟩ := Kd.R_reads hR
    subst hv
    clear hR hC2
    go_wp2
    go_ret2
    exact ⟨rfl, hb0.trans (hb2.mono hb0.size)⟩
  | true =>
    go_enter Tryz.func24, Tryz.ntmps24
    go_wp2_with fail
    refine hsol.mono ?_
    rintro e w2 ⟨v, rfl, hR, hb2⟩
    clear hsol
    have h := H.out
    replace h : _ = some (r1, r2) := h
    simp only [if_true] at h
    obtain ⟨A2, c2, hv, hc2, hC2⟩ := Kd.R_reads hR
    subst hv
    have hbw := hb0.trans (hb2.mono hb0.size)
    clear hR hb2 hb0
    have BW := Aside0.mk hbw
    clear hbw
    cases l with
    | nil =>
      have e := Option.some.inj h
      obtain ⟨rfl, rfl⟩ := Prod.mk.inj e
      clear hC2
      go_wp2
      go_ret2
      exact ⟨rfl, BW.out⟩
    | cons a t =>
      unfold impl_SureDigits.g at h
      dsimp only at h
      split at h
      · rename_i hcond
        obtain ⟨hbig, haz, hall⟩ := hcond
        have e := Option.some.inj h
        obtain ⟨rfl, rfl⟩ := Prod.mk.inj e
        have hsz : ∀ x ∈ a :: t, x.size = a.size := fun x hx => of_decide_eq_true (List.all_eq_true.mp hall x hx)
        have hlen : (sureO (a :: t) (bytI a)).length = a.size := sureO_len a.size _ _ (bytI_len a) hsz
        generalize hla : a :: t = l at hC2 hbig hsz hlen ⊢
        have hpn : 0 < l.length := by rw [← hla]; simp
        have hne : ((l.length : Int) == 0) = false := by simp; intro hh; rw [hh] at hpn; simp at hpn
        have hpos : (0 : Int) < (l.length : Int) := by omega
        obtain ⟨ad0, hA0, hx0⟩ := Kd.at_string hC2 (0 : Int) (by omega) hpos
        have hrd : rdOf ByteArray.empty l (0 : Int) = a := by rw [← hla]; rfl
        rw [hrd] at hx0
        subst hA0
        (try simp only [Int.reduceToNat, Nat.zero_mul, Nat.reduceMul, Nat.reduceEqDiff, Go.Addr.add, ↓reduceIte, Addr.add_zero'] at hx0)
        have hcap := grownCap_ge w2 a.size 0 5
        have hconv := run_bytes_of_string (P := Tryz.prog) w2 9 57 5 a (by kernel_rfl) (by kernel_rfl) (by kernel_rfl)
        generalize hcc : grownCap w2 a.size 0 5 = cap at hcap hconv
        have hH := sure_row w2 5 a cap hcap
        have hB3 : RowKit.Below w2.heap.size w2 (w2.drew.alloc (.cells (bytesRow a cap) 5 ((bytesRow a cap).size, (bytesRow a cap).size + 1))) := (Below.refl _ w2).drew.alloc (Nat.le_refl _) _
        generalize hw : w2.drew.alloc (.cells (bytesRow a cap) 5 ((bytesRow a cap).size, (bytesRow a cap).size + 1)) = w3 at hH hconv hB3
        have hput : ∀ (q : Nat) (d1 : List Int), RowKit.Below w2.heap.size w2 (putRow (Value.int .u8) (Sort.ahead w3 q) w2.heap.size 0 d1.toArray) := fun q d1 => by
          refine (pw_below_drewN hB3 q).trans ⟨rfl, rfl, rfl, by simp [putRow, mapBlock], fun k hk => ?_⟩
          simp [putRow, mapBlock, Array.getElem?_modify, show w2.heap.size ≠ k by omega]
        have hset : ∀ (q j : Nat) (dj : List Int), dj.length = a.size → j < a.size → (putRow (Value.int .u8) (Sort.ahead w3 q) w2.heap.size 0 dj.toArray).setCell ⟨w2.heap.size, j, none⟩ (.int .u8 63) = putRow (Value.int .u8) (Sort.ahead w3 q) w2.heap.size 0 (dj.set j 63).toArray := fun q j dj hd hj => by
          have := putRow_set (Value.int .u8) (Sort.ahead w3 q) w2.heap.size 0 dj.toArray j 63 (by simp; omega)
          rw [Nat.zero_add] at this
          rw [this]
          simp
        have HS := Aside0.mk hset
        have HP := Aside0.mk hput
        have HH := Aside0.mk hH
        have HC := Aside0.mk hC2
        have HZ := Aside0.mk hsz
        have HLEN := Aside0.mk hlen
        have HLA := Aside0.mk hla
        clear hset hput hH hC2 hsz hlen hall hcc hw hla hcap hB3 hrd H
        go_wp2_with fail
        go_loopg [28] l.length (fun gg s28 wr => ∃ (i q : Nat) (dk : List Int), s28 = .int .i64 i ∧ i ≤ l.length ∧ l.length - i ≤ gg ∧ wr = putRow (Value.int .u8) (Sort.ahead w3 q) w2.heap.size 0 dk.toArray ∧ Aside0 (dk = sureO (l.take i) (bytI a)))
        case atStart => exact ⟨0, 0, bytI a, rfl, Nat.zero_le _, by omega, (putRow_self _ _ _ _ _ HH.out).symm, ⟨rfl⟩⟩
        case round =>
          obtain ⟨i, q, dk, rfl, hi, hg, hwr, HK⟩ := hrel
          have hdl : dk.length = a.size := by rw [HK.out]; exact sureO_len a.size _ _ (bytI_len a) (fun x hx => HZ.out x (List.mem_of_mem_take hx))
          have hbw : RowKit.Below w2.heap.size w2 wr := by rw [hwr]; exact HP.out q dk
          have HW := Aside0.mk hwr
          have HBW := Aside0.mk hbw
          have HDL := Aside0.mk hdl
          clear hwr hbw hdl
          by_cases hlt : i < l.length
          · have hltz : (i : Int) < (l.length : Int) := by omega
            obtain ⟨ad, hA, hx⟩ := Kd.at_string (Kd.C_below HC.out HBW.out) (i : Int) (by omega) hltz
            cases hA
            have hrd : rdOf ByteArray.empty l (i : Int) = l[i] := by simp [rdOf, hlt]
            rw [hrd] at hx
            have hxs : (l[i]).size = a.size := HZ.out _ (List.getElem_mem hlt)
            have htake : l.take (i + 1) = l.take i ++ [l[i]] := by rw [List.take_add_one, List.getElem?_eq_getElem hlt]; rfl
            generalize l[i] = x at hx hxs htake
            have HXS := Aside0.mk hxs
            have HT := Aside0.mk htake
            clear hxs htake hrd
            simp only [Int.toNat_natCast] at hx
            go_wp2_with fail
            go_loopg [34] a.size (fun gg2 s34 wr2 => ∃ (j m : Nat) (dj : List Int), s34 = .int .i64 j ∧ j ≤ a.size ∧ a.size - j ≤ gg2 ∧ wr2 = putRow (Value.int .u8) (Sort.ahead w3 m) w2.heap.size 0 dj.toArray ∧ Aside0 (dj = (stepO x dk).take j ++ dk.drop j))
            case atStart => exact ⟨0, q, dk, rfl, Nat.zero_le _, by omega, HW.out, ⟨by simp⟩⟩
            case round =>
              obtain ⟨j, m, dj, rfl, hj0, hg2, hw2, HJ⟩ := hrel
              have hSl : (stepO x dk).length = dk.length := stepO_len x dk (by rw [HXS.out, HDL.out])
              have hdjl : dj.length = a.size := by rw [HJ.out, List.length_append, List.length_take, List.length_drop, hSl, HDL.out]; omega
              have HSL := Aside0.mk hSl
              have HDJ := Aside0.mk hdjl
              clear hSl hdjl
              by_cases hj : j < a.size
              · have hjz : (j : Int) < (a.size : Int) := by omega
                have hdj : j < dj.length := by rw [HDJ.out]; exact hj
                have hdk : j < dk.length := by rw [HDL.out]; exact hj
                have hjx : j < x.size := by rw [HXS.out]; exact hj
                have hge : dj[j]? = dk[j]? := by
                  rw [HJ.out, List.getElem?_append_right (by rw [List.length_take]; have := HSL.out; omega), List.length_take, Nat.min_eq_left (by have := HSL.out; omega), Nat.sub_self, List.getElem?_drop]
                  rfl
                obtain ⟨u, hu⟩ : ∃ u, dk[j]? = some u := ⟨dk[j], List.getElem?_eq_getElem hdk⟩
                have hcw : wr.cell? ⟨w2.heap.size, j, none⟩ = some (.int .u8 u) := by
                  have := cell?_putRow (Value.int .u8) (Sort.ahead w3 m) w2.heap.size 0 (bytI a).toArray dj.toArray (holds_ahead _ _ m _ _ _ HH.out) (by simp [bytI_len, HDJ.out]) j (by simp; omega)
                  rw [Nat.zero_add] at this
                  rw [hw2, this, getElem!_pos _ j (by simpa using hdj)]
                  have e2 : dj[j] = u := by have e3 := hge.trans hu; rw [List.getElem?_eq_getElem hdj] at e3; exact Option.some.inj e3
                  simp [e2]
                have hfw : wr.frozen? ⟨w2.heap.size, j, none⟩ = false := by
                  rw [hw2, frozen?_putRow]
                  have := ((holds_ahead _ _ m _ _ _ HH.out) j (by simp [bytI_len]; omega)).2
                  rw [Nat.zero_add] at this
                  exact this
                have hst := stepO_get (x := x) (o := dk) hjx hdk
                rw [show dk[j] = u by rw [List.getElem?_eq_getElem hdk] at hu; exact Option.some.inj hu] at hst
                have hbt := bt_at x (j : Int)
                have HW2 := Aside0.mk hw2
                have HST := Aside0.mk hst
                have HU := Aside0.mk (hge.trans hu)
                clear hw2 hst hge hu
                generalize hy : bt x (j : Int) = y at hbt HST
                clear hy
                have hjxz : (j : Int) < (x.size : Int) := by omega
                go_wp2_with fail
                have hxy : ((x[j]'hjx).toNat : Int) = y := hbt (by simpa using hjx)
                clear hbt
                have HXY := Aside0.mk hxy
                clear hxy
                go_region
                all_goals go_wp2
                · rename_i hb
                  have HBQ := Aside0.mk hb
                  clear hb
                  go_roundg (a.size - (j + 1))
                  case measure => omega
                  case rel =>
                    refine ⟨j + 1, m + 1, dj.set j 63, by go_num, by omega, Nat.le_refl _, ?_, ⟨?_⟩⟩
                    · rw [HW2.out]
                      refine (congrArg World.drew (HS.out m j dj HDJ.out hj)).trans ?_
                      exact putRow_drewN _ _ _ 1 _ _ _
                    · have hv := HST.out
                      have hq := HBQ.out
                      rw [HXY.out] at hq
                      rw [if_neg (by simpa using hq)] at hv
                      rw [step_set HSL.out hdk 63 hv, ← HJ.out]
                · rename_i hb
                  have HBQ := Aside0.mk hb
                  clear hb
                  go_roundg (a.size - (j + 1))
                  case measure => omega
                  case rel =>
                    refine ⟨j + 1, m + 1, dj, by go_num, by omega, Nat.le_refl _, ?_, ⟨?_⟩⟩
                    · rw [HW2.out]
                      exact putRow_drewN _ _ _ 1 _ _ _
                    · have hv := HST.out
                      have hq := HBQ.out
                      rw [HXY.out] at hq
                      rw [if_pos (by simpa using hq)] at hv
                      rw [step_set HSL.out hdk u hv, ← HJ.out]
                      have hu := HU.out
                      rw [List.getElem?_eq_getElem hdj] at hu
                      have hu := Option.some.inj hu
                      subst hu
                      exact (List.set_getElem_self hdj).symm
              · have hje : j = a.size := by omega
                subst hje
                have hjz : ¬ (a.size : Int) < (a.size : Int) := by omega
                have hfin : dj = stepO x dk := by rw [HJ.out, List.take_of_length_le (by have := HSL.out; have := HDL.out; omega), List.drop_of_length_le (by have := HDL.out; omega), List.append_nil]
                have HF := Aside0.mk hfin
                have HW2 := Aside0.mk hw2
                clear hfin hw2
                go_wp2_with fail
                go_roundg (l.length - (i + 1))
                case measure => omega
                case rel =>
                  refine ⟨i + 1, m, dj, by go_num, by omega, Nat.le_refl _, HW2.out, ⟨?_⟩⟩
                  rw [HT.out, sureO_snoc, ← HK.out]
                  exact HF.out
          · have hie : i = l.length := by omega
            subst hie
            have hltz : ¬ (l.length : Int) < (l.length : Int) := by omega
            have hdk : dk = sureO l (bytI a) := by rw [HK.out, List.take_length]
            have hbk : (convert 57 9 (.slice (some ⟨w2.heap.size, 0, none⟩) a.size cap)).run Tryz.prog wr = .ok (.string (strOfNums dk)) wr :=
              run_convert_bytes_arg (P := Tryz.prog) wr 57 5 (by kernel_rfl) (by kernel_rfl) w2.heap.size 0 a.size cap dk HDL.out (fun j hj => by
                have := cell?_putRow (Value.int .u8) (Sort.ahead w3 q) w2.heap.size 0 (bytI a).toArray dk.toArray (holds_ahead _ _ q _ _ _ HH.out) (by simp [bytI_len, HDL.out]) j (by simp; have := HDL.out; omega)
                have hjk : j < dk.length := by rw [HDL.out]; exact hj
                rw [HW.out, this, getElem!_pos _ j (by simpa using hjk)]
                simp [hjk]) 9 (by kernel_rfl)
            rw [hdk] at hbk
            clear hdk
            go_wp2
            go_ret2
            exact ⟨by rw [HLA.out]; rfl, BW.out.trans (HBW.out.mono BW.out.size)⟩
      · cases h

/-! ### laws_FnExactSureDigits: function 7 -/
def laws_FnExactSureDigits.f (k : Nat) (a0_0 : Int) (l0_1 : List (S72)) : Option (Bool) := (laws_szPuzzle.f a0_0 l0_1 1048576).bind fun t329 => (if t329 < 0 then (some true) else ((laws_toPuzzle.f k a0_0 l0_1).bind fun bt330 => ((spec_SureDigits.f k bt330.1 bt330.2).bind fun bt334 => ((laws_toPuzzle.f k a0_0 l0_1).bind fun bt336 => ((impl_SureDigits.f k bt336.1 bt336.2).bind fun bt341 => (if bt341.1.toList = bt334.1.toList then (if (bt341.2 != bt334.2) = true then (none) else ((laws_toPuzzle.f k a0_0 l0_1).bind fun bt343 => ((laws_eqPuzzle.f k bt336.1 bt336.2 bt343.1 bt343.2).bind fun t347 => (if t347 = true then (some true) else (none))))) else (none)))))))
theorem laws_FnExactSureDigits.mono : ∀ a0 a1 k, LeO (laws_FnExactSureDigits.f k a0 a1) (laws_FnExactSureDigits.f (k + 1) a0 a1) := by
 intro a0 a1 k
 unfold laws_FnExactSureDigits.f
 repeat' first
   | (with_reducible exact impl_SureDigits.mono _ _ _)
   | (with_reducible exact laws_eqPuzzle.mono _ _ _ _ _)
   | (with_reducible exact laws_toPuzzle.mono _ _ _)
   | (with_reducible exact spec_SureDigits.mono _ _ _)
   | (with_reducible exact LeO.refl _)
   | (with_reducible exact LeO.none _)
   | (with_reducible refine LeO.ite ?_ ?_)
   | (with_reducible refine LeO.bind ?_ (fun _ => ?_))
   | exact impl_SureDigits.mono _ _ _
   | exact laws_eqPuzzle.mono _ _ _ _ _
   | exact laws_toPuzzle.mono _ _ _
   | exact spec_SureDigits.mono _ _ _
   | exact LeO.none _
   | refine LeO.ite ?_ ?_
   | refine LeO.bind ?_ (fun _ => ?_)
set_option maxHeartbeats 8000000 in
set_option maxRecDepth 100000 in
theorem laws_FnExactSureDigits.calls (k : Nat) (a0_0 : Int) (A0_1 : Option Addr) (c0_1 : Nat) (l0_1 : List (S72)) (r : Bool) (w : World) (hr0_1 : Kd.C k72 w A0_1 l0_1.length l0_1) (hc0_1 : l0_1.length ≤ c0_1) (h : laws_FnExactSureDigits.f k a0_0 l0_1 = some r) (hglob : Glob w := by first | exact Glob.below HG.out (by repeat (first | (with_reducible first | exact HB.out | apply below_alloc | apply pw_below_drewN | apply below_drew1 | refine below_set ?_ (Aside0.out (by assumption))) | exact HB.out)) | assumption) :
  Calls Tryz.prog 7 #[.agg #[.int .i64 a0_0, .slice A0_1 l0_1.length c0_1]] w fun e w' => e = .returned (.bool r) ∧ Below w.heap.size w w' := by
 have HG := Aside0.mk hglob
 clear hglob
 have hu24 := Tryz.underlying24
 have hu30 := Tryz.underlying30
 have HR0_1 := Aside0.mk hr0_1
 have HC0_1 := Aside0.mk hc0_1
 clear hr0_1 hc0_1
 have HB := Aside0.mk (Below.refl w.heap.size w)
 have H : ((laws_szPuzzle.f a0_0 l0_1 1048576).bind fun t329 => (if t329 < 0 then (some true) else ((laws_toPuzzle.f k a0_0 l0_1).bind fun bt330 => ((spec_SureDigits.f k bt330.1 bt330.2).bind fun bt334 => ((laws_toPuzzle.f k a0_0 l0_1).bind fun bt336 => ((impl_SureDigits.f k bt336.1 bt336.2).bind fun bt341 => (if bt341.1.toList = bt334.1.toList then (if (bt341.2 != bt334.2) = true then (none) else ((laws_toPuzzle.f k a0_0 l0_1).bind fun bt343 => ((laws_eqPuzzle.f k bt336.1 bt336.2 bt343.1 bt343.2).bind fun t347 => (if t347 = true then (some true) else (none))))) else (none)))))))) = some r := h
 clear h
 replace H := Option.bind_eq_some_iff.mp H
 obtain ⟨t329, A20, H⟩ := H
 replace H : (if t329 < 0 then (some true) else ((laws_toPuzzle.f k a0_0 l0_1).bind fun bt330 => ((spec_SureDigits.f k bt330.1 bt330.2).bind fun bt334 => ((laws_toPuzzle.f k a0_0 l0_1).bind fun bt336 => ((impl_SureDigits.f k bt336.1 bt336.2).bind fun bt341 => (if bt341.1.toList = bt334.1.toList then (if (bt341.2 != bt334.2) = true then (none) else ((laws_toPuzzle.f k a0_0 l0_1).bind fun bt343 => ((laws_eqPuzzle.f k bt336.1 bt336.2 bt343.1 bt343.2).bind fun t347 => (if t347 = true then (some true) else (none))))) else (none))))))) = some r := H
 have A2 := Aside0.mk A20
 clear A20
 by_cases c3 : t329 < 0
 ·
  rw [if_pos c3] at H
  have c3b0 : decide (t329 < 0) = true := decide_eq_true c3
  clear c3
  obtain rfl := Option.some.inj H
  go_enter Tryz.func7, Tryz.ntmps7
  go_wp2_with (first | ((with_reducible refine gate_dst (N := 1) rfl ?_); refine box_event ?hg (N := 1) ?hd (cs := #[.int .i64 a0_0, .slice A0_1 l0_1.length c0_1]) (t := 24) ?hr ?_; (case hd => rfl); (case hg => rfl); (case hr => first | (go_simp; done) | (go_simp; rfl)); intro gb328 hg w4 hbox hb; have n0_ := Aside0.mk (below_step (qw HB) hb); have n1_ := Aside0.mk (hbox); have n2_ := Aside0.mk ((by rw [hg]; exact (below_size (qw HB)) : w.heap.size ≤ gb328)); have n3_ := Aside0.mk ((by rw [hg]; exact (below_size (qw HB)) : w.heap.size ≤ gb328)); clear HB; have HB := n0_; have BK328 := n1_; have GW328 := n2_; have GE328 := n3_; clear n0_ n1_ n2_ n3_; clear hb hbox hg; have hcz5_0 : w4.cell? ⟨gb328, 0, none⟩ = some (.int .i64 a0_0) := bc BK328 0; have hcz5_1 : w4.cell? ⟨gb328, 1, none⟩ = some (.slice A0_1 l0_1.length c0_1) := bc BK328 1; have hfz5_0 := blk_frozen BK328.out 0; have hfz5_1 := blk_frozen BK328.out 1) | ((with_reducible refine gate_callee (f := 12) rfl ?_); refine goesL_ (some 11) rfl rfl Tryz.func12 (by kernel_rfl) rfl #[.agg #[.int .i64 a0_0, .slice A0_1 l0_1.length c0_1], .int .i64 1048576] rfl (by (try simp only [List.map_toArray, List.map_cons, List.map_nil]); first | done | rfl | (simp only [List.length_drop, List.length_take]; rfl)) ?_; (with_reducible refine (laws_szPuzzle.calls a0_0 _ _ l0_1 1048576 t329 _ ?side1 ?side2 A2.out).mono ?_); (case side1 => repeat (first | exact (Kd.C_below HR0_1.out HB.out) | (with_reducible refine Kd.C_alloc ?_ _) | (with_reducible refine Kd.C_drewN ?_ _) | (with_reducible refine Kd.C_drew ?_))); (case side2 => exact HC0_1.out); rintro e w6 ⟨rfl, hb⟩; refine ⟨_, rfl, ?_⟩; have n0_ := qbb BK328 hb; have n1_ := Aside0.mk (below_step (qw HB) hb); clear BK328; clear HB; have BK328 := n0_; have HB := n1_; clear n0_ n1_; (try clear hb); (try clear hb2); (try clear hk); (try clear hi)))
  go_ret
  exact ⟨by first | rfl | (simp [errW_none, errW_some] <;> rfl) | (simp [*, errW_none, errW_some] <;> rfl), qw HB⟩
 ·
  rw [if_neg c3] at H
  have c3b0 : decide (t329 < 0) = false := decide_eq_false c3
  clear c3
  replace H := Option.bind_eq_some_iff.mp H
  obtain ⟨⟨t330, t331⟩, A70, H⟩ := H
  replace H : ((spec_SureDigits.f k t330 t331).bind fun bt334 => ((laws_toPuzzle.f k a0_0 l0_1).bind fun bt336 => ((impl_SureDigits.f k bt336.1 bt336.2).bind fun bt341 => (if bt341.1.toList = bt334.1.toList then (if (bt341.2 != bt334.2) = true then (none) else ((laws_toPuzzle.f k a0_0 l0_1).bind fun bt343 => ((laws_eqPuzzle.f k bt336.1 bt336.2 bt343.1 bt343.2).bind fun t347 => (if t347 = true then (some true) else (none))))) else (none))))) = some r := H
  have A7 := Aside0.mk A70
  clear A70
  replace H := Option.bind_eq_some_iff.mp H
  obtain ⟨⟨t334, t335⟩, A80, H⟩ := H
  replace H : ((laws_toPuzzle.f k a0_0 l0_1).bind fun bt336 => ((impl_SureDigits.f k bt336.1 bt336.2).bind fun bt341 => (if bt341.1.toList = t334.toList then (if (bt341.2 != t335) = true then (none) else ((laws_toPuzzle.f k a0_0 l0_1).bind fun bt343 => ((laws_eqPuzzle.f k bt336.1 bt336.2 bt343.1 bt343.2).bind fun t347 => (if t347 = true then (some true) else (none))))) else (none)))) = some r := H
  have A8 := Aside0.mk A80
  clear A80
  replace H := Option.bind_eq_some_iff.mp H
  obtain ⟨⟨t336, t337⟩, A90, H⟩ := H
  replace H : ((impl_SureDigits.f k t336 t337).bind fun bt341 => (if bt341.1.toList = t334.toList then (if (bt341.2 != t335) = true then (none) else ((laws_toPuzzle.f k a0_0 l0_1).bind fun bt343 => ((laws_eqPuzzle.f k t336 t337 bt343.1 bt343.2).bind fun t347 => (if t347 = true then (some true) else (none))))) else (none))) = some r := H
  have A9 := Aside0.mk A90
  clear A90
  replace H := Option.bind_eq_some_iff.mp H
  obtain ⟨⟨t341, t342⟩, A100, H⟩ := H
  replace H : (if t341.toList = t334.toList then (if (t342 != t335) = true then (none) else ((laws_toPuzzle.f k a0_0 l0_1).bind fun bt343 => ((laws_eqPuzzle.f k t336 t337 bt343.1 bt343.2).bind fun t347 => (if t347 = true then (some true) else (none))))) else (none)) = some r := H
  have A10 := Aside0.mk A100
  clear A100
  by_cases c11 : t341.toList = t334.toList
  ·
   rw [if_pos c11] at H
   have c11b0 : (t341.toList == t334.toList) = true := beq_iff_eq.mpr c11
   have c11b1 : (t341.toList != t334.toList) = false := bne_eq_false_iff_eq.mpr c11
   clear c11
   by_cases c12 : (t342 != t335) = true
   ·
    rw [if_pos c12] at H
    exact absurd H (by simp)
   ·
    rw [if_neg c12] at H
    have c12b0 : (t342 != t335) = false := by simpa using c12
    (try (have c12b1 : decide (t342 = t335) = true := by simpa using c12))
    (try (have c12b2 : (t342 == t335) = true := by simpa using c12))
    clear c12
    replace H := Option.bind_eq_some_iff.mp H
    obtain ⟨⟨t343, t344⟩, A130, H⟩ := H
    replace H : ((laws_eqPuzzle.f k t336 t337 t343 t344).bind fun t347 => (if t347 = true then (some true) else (none))) = some r := H
    have A13 := Aside0.mk A130
    clear A130
    replace H := Option.bind_eq_some_iff.mp H
    obtain ⟨t347, A140, H⟩ := H
    replace H : (if t347 = true then (some true) else (none)) = some r := H
    have A14 := Aside0.mk A140
    clear A140
    by_cases c15 : t347 = true
    ·
     subst c15
     have H1 : (some true) = some r := by rw [if_pos rfl] at H; exact H
     clear H
     have H := H1
     clear H1
     obtain rfl := Option.some.inj H
     go_enter Tryz.func7, Tryz.ntmps7
     try go_wp2_with (first | ((with_reducible refine gate_dst (N := 1) rfl ?_); refine box_event ?hg (N := 1) ?hd (cs := #[.int .i64 a0_0, .slice A0_1 l0_1.length c0_1]) (t := 24) ?hr ?_; (case hd => rfl); (case hg => rfl); (case hr => first | (go_simp; done) | (go_simp; rfl)); intro gb328 hg w16 hbox hb; have n0_ := Aside0.mk (below_step (qw HB) hb); have n1_ := Aside0.mk (hbox); have n2_ := Aside0.mk ((by rw [hg]; exact (below_size (qw HB)) : w.heap.size ≤ gb328)); have n3_ := Aside0.mk ((by rw [hg]; exact (below_size (qw HB)) : w.heap.size ≤ gb328)); clear HB; have HB := n0_; have BK328 := n1_; have GW328 := n2_; have GE328 := n3_; clear n0_ n1_ n2_ n3_; clear hb hbox hg; have hcz17_0 : w16.cell? ⟨gb328, 0, none⟩ = some (.int .i64 a0_0) := bc BK328 0; have hcz17_1 : w16.cell? ⟨gb328, 1, none⟩ = some (.slice A0_1 l0_1.length c0_1) := bc BK328 1; have hfz17_0 := blk_frozen BK328.out 0; have hfz17_1 := blk_frozen BK328.out 1) | ((with_reducible refine gate_callee (f := 12) rfl ?_); refine goesL_ (some 11) rfl rfl Tryz.func12 (by kernel_rfl) rfl #[.agg #[.int .i64 a0_0, .slice A0_1 l0_1.length c0_1], .int .i64 1048576] rfl (by (try simp only [List.map_toArray, List.map_cons, List.map_nil]); first | done | rfl | (simp only [List.length_drop, List.length_take]; rfl)) ?_; (with_reducible refine (laws_szPuzzle.calls a0_0 _ _ l0_1 1048576 t329 _ ?side1 ?side2 A2.out).mono ?_); (case side1 => repeat (first | exact (Kd.C_below HR0_1.out HB.out) | (with_reducible refine Kd.C_alloc ?_ _) | (with_reducible refine Kd.C_drewN ?_ _) | (with_reducible refine Kd.C_drew ?_))); (case side2 => exact HC0_1.out); rintro e w18 ⟨rfl, hb⟩; refine ⟨_, rfl, ?_⟩; have n0_ := qbb BK328 hb; have n1_ := Aside0.mk (below_step (qw HB) hb); clear BK328; clear HB; have BK328 := n0_; have HB := n1_; clear n0_ n1_; (try clear hb); (try clear hb2); (try clear hk); (try clear hi); have hcz19_0 : w18.cell? ⟨gb328, 0, none⟩ = some (.int .i64 a0_0) := bc BK328 0; have hcz19_1 : w18.cell? ⟨gb328, 1, none⟩ = some (.slice A0_1 l0_1.length c0_1) := bc BK328 1; have hfz19_0 := blk_frozen BK328.out 0; have hfz19_1 := blk_frozen BK328.out 1) | ((with_reducible refine gate_callee (f := 14) rfl ?_); refine goesL_ (some 16) rfl rfl Tryz.func14 (by kernel_rfl) rfl #[.agg #[.int .i64 a0_0, .slice A0_1 l0_1.length c0_1]] rfl (by (try simp only [List.map_toArray, List.map_cons, List.map_nil]); first | done | rfl | (simp only [List.length_drop, List.length_take]; rfl)) ?_; (with_reducible refine (laws_toPuzzle.calls k a0_0 _ _ l0_1 t330 t331 _ ?side1 ?side2 A7.out).mono ?_); (case side1 => repeat (first | exact (Kd.C_below HR0_1.out HB.out) | (with_reducible refine Kd.C_alloc ?_ _) | (with_reducible refine Kd.C_drewN ?_ _) | (with_reducible refine Kd.C_drew ?_))); (case side2 => exact HC0_1.out); rintro e w20 ⟨v332, rfl, ho0, hb⟩; refine ⟨_, rfl, ?_⟩; have n0_ := Aside0.mk (Kd.R_lower ho0 (below_size (qw HB))); have n1_ := qbb BK328 hb; have n2_ := Aside0.mk (below_step (qw HB) hb); clear BK328; clear HB; have HO333 := n0_; have BK328 := n1_; have HB := n2_; clear n0_ n1_ n2_; (try clear hb); (try clear hb2); (try clear hk); (try clear hi); (try clear ho0); obtain ⟨Ao21, co21, eo21⟩ := Kd.R_slice HO333.out; subst eo21) | ((with_reducible refine gate_callee (f := 23) rfl ?_); refine goesL_ (some 17) rfl rfl Tryz.func23 (by kernel_rfl) rfl #[.agg #[.int .i64 t330, .slice Ao21 t331.length co21]] rfl (by (try simp only [List.map_toArray, List.map_cons, List.map_nil]); first | done | rfl | (simp only [List.length_drop, List.length_take]; rfl)) ?_; (with_reducible refine (spec_SureDigits.calls k t330 _ _ t331 t334 t335 _ ?side1 ?side2 A8.out).mono ?_); (case side1 => repeat (first | exact (Kd.R_reads' HO333.out).2.2 | (with_reducible refine Kd.C_alloc ?_ _) | (with_reducible refine Kd.C_drewN ?_ _) | (with_reducible refine Kd.C_drew ?_))); (case side2 => exact (Kd.R_reads' HO333.out).2.1); rintro e w22 ⟨rfl, hb⟩; refine ⟨_, rfl, ?_⟩; have n0_ := Aside0.mk (Kd.R_below (qr HO333.out) hb); have n1_ := qbb BK328 hb; have n2_ := Aside0.mk (below_step (qw HB) hb); clear HO333; clear BK328; clear HB; have HO333 := n0_; have BK328 := n1_; have HB := n2_; clear n0_ n1_ n2_; (try clear hb); (try clear hb2); (try clear hk); (try clear hi); have hcz23_0 : w22.cell? ⟨gb328, 0, none⟩ = some (.int .i64 a0_0) := bc BK328 0; have hcz23_1 : w22.cell? ⟨gb328, 1, none⟩ = some (.slice A0_1 l0_1.length c0_1) := bc BK328 1; have hfz23_0 := blk_frozen BK328.out 0; have hfz23_1 := blk_frozen BK328.out 1) | ((with_reducible refine gate_callee (f := 14) rfl ?_); refine goesL_ (some 21) rfl rfl Tryz.func14 (by kernel_rfl) rfl #[.agg #[.int .i64 a0_0, .slice A0_1 l0_1.length c0_1]] rfl (by (try simp only [List.map_toArray, List.map_cons, List.map_nil]); first | done | rfl | (simp only [List.length_drop, List.length_take]; rfl)) ?_; (with_reducible refine (laws_toPuzzle.calls k a0_0 _ _ l0_1 t336 t337 _ ?side1 ?side2 A9.out).mono ?_); (case side1 => repeat (first | exact (Kd.C_below HR0_1.out HB.out) | (with_reducible refine Kd.C_alloc ?_ _) | (with_reducible refine Kd.C_drewN ?_ _) | (with_reducible refine Kd.C_drew ?_))); (case side2 => exact HC0_1.out); rintro e w24 ⟨v338, rfl, ho0, hb⟩; refine ⟨_, rfl, ?_⟩; have n0_ := Aside0.mk (Kd.R_elder' (qr HO333.out) (Kd.R_base ho0) hb); have n1_ := Aside0.mk (Kd.R_lower (Kd.R_new' ho0 (Kd.R_lt (qr HO333.out))) (below_size (qw HB))); have n2_ := qbb BK328 hb; have n3_ := Aside0.mk (below_step (qw HB) hb); clear HO333; clear BK328; clear HB; have HO333 := n0_; have HO339 := n1_; have BK328 := n2_; have HB := n3_; clear n0_ n1_ n2_ n3_; (try clear hb); (try clear hb2); (try clear hk); (try clear hi); (try clear ho0)) | ((with_reducible refine gate_dst (N := 6) rfl ?_); refine box_event ?hg (N := 6) ?hd (cs := #[.int .i64 0, .slice none 0 0]) (t := 30) ?hr ?_; (case hd => rfl); (case hg => rfl); (case hr => first | (go_simp; done) | (go_simp; rfl)); intro gb340 hg w25 hbox hb; have n0_ := Aside0.mk (Kd.R_below (qr HO333.out) hb); have n1_ := Aside0.mk (Kd.R_below (qr HO339.out) hb); have n2_ := qbb BK328 hb; have n3_ := Aside0.mk (below_step (qw HB) hb); have n4_ := Aside0.mk (hbox); have n5_ := Aside0.mk ((by rw [hg]; exact (below_size (qw HB)) : w.heap.size ≤ gb340)); have n6_ := Aside0.mk ((by rw [hg]; exact (below_size (qw HB)) : w.heap.size ≤ gb340)); have n7_ := Aside0.mk ((by rw [hg]; exact Nat.ne_of_lt (blk_lt (qb BK328)) : gb328 ≠ gb340)); have n8_ := Aside0.mk ((by rw [hg]; exact Nat.ne_of_gt (blk_lt (qb BK328)) : gb340 ≠ gb328)); clear HO333; clear HO339; clear BK328; clear HB; have HO333 := n0_; have HO339 := n1_; have BK328 := n2_; have HB := n3_; have BK340 := n4_; have GW340 := n5_; have GE340 := n6_; have NB328_340 := n7_; have NB340_328 := n8_; clear n0_ n1_ n2_ n3_ n4_ n5_ n6_ n7_ n8_; clear hb hbox hg; have hnb26 := NB340_328.out; have hnc26 := NB328_340.out; have hcz27_0 : w25.cell? ⟨gb340, 0, none⟩ = some (.int .i64 0) := bc BK340 0; have hcz27_1 : w25.cell? ⟨gb340, 1, none⟩ = some (.slice none 0 0) := bc BK340 1; have hfz27_0 := blk_frozen BK340.out 0; have hfz27_1 := blk_frozen BK340.out 1; obtain ⟨Ao28, co28, eo28⟩ := Kd.R_slice HO339.out; subst eo28) | ((with_reducible refine gate_callee (f := 24) rfl ?_); refine goesL_ (some 24) rfl rfl Tryz.func24 (by kernel_rfl) rfl #[.agg #[.int .i64 t336, .slice Ao28 t337.length co28]] rfl (by (try simp only [List.map_toArray, List.map_cons, List.map_nil]); first | done | rfl | (simp only [List.length_drop, List.length_take]; rfl)) ?_; (with_reducible refine (impl_SureDigits.calls k t336 _ _ t337 t341 t342 _ ?side1 ?side2 A10.out).mono ?_); (case side1 => refine (Kd.R_reads' (e := 65) (base := w.heap.size) (ok := fun k_ => (True ∧ some k_ ≠ (.slice Ao21 t331.length co21 : Value).ownBlock)) (n := t337.length) (c := co28) ?_).2.2; exact (qr (Kd.R_mono (Kd.R_far (p := ⟨gb340, 1, none⟩) (Kd.R_far (p := ⟨gb340, 0, none⟩) (Kd.R_types HO339.out BK340.out (by decide)) (fun _ hk => hk.2) (.int .i64 t336)) (fun _ hk => hk.2) (.slice Ao28 t337.length co28)) (fun _ h_ => h_.1)))); (case side2 => exact (Kd.R_reads' HO339.out).2.1); rintro e w29 ⟨rfl, hb⟩; refine ⟨_, rfl, ?_⟩; have n0_ := Aside0.mk (Kd.R_below (qr (Kd.R_mono (Kd.R_far (p := ⟨gb340, 1, none⟩) (Kd.R_far (p := ⟨gb340, 0, none⟩) (Kd.R_types HO333.out BK340.out (by decide)) (fun _ hk => hk.2) (.int .i64 t336)) (fun _ hk => hk.2) (.slice Ao28 t337.length co28)) (fun _ h_ => h_.1))) hb); have n1_ := Aside0.mk (Kd.R_below (qr (Kd.R_mono (Kd.R_far (p := ⟨gb340, 1, none⟩) (Kd.R_far (p := ⟨gb340, 0, none⟩) (Kd.R_types HO339.out BK340.out (by decide)) (fun _ hk => hk.2) (.int .i64 t336)) (fun _ hk => hk.2) (.slice Ao28 t337.length co28)) (fun _ h_ => h_.1))) hb); have n2_ := Aside0.mk (blk_below (g := gb328) (o := .cells #[.int .i64 a0_0, .slice A0_1 l0_1.length c0_1] 24 (0, 0)) (by (with_reducible repeat (first | refine blk_drewN ?_ _ | refine blk_drew ?_ | refine blk_alloc ?_ _)); refine blk_far ?_ NB328_340.out _; (with_reducible repeat (first | refine blk_drewN ?_ _ | refine blk_drew ?_ | refine blk_alloc ?_ _)); refine blk_far ?_ NB328_340.out _; (with_reducible repeat (first | refine blk_drewN ?_ _ | refine blk_drew ?_ | refine blk_alloc ?_ _)); exact BK328.out) hb); have n3_ := Aside0.mk (blk_below (g := gb340) (o := .cells #[.int .i64 t336, .slice Ao28 t337.length co28] 30 (0, 0)) (by (with_reducible repeat (first | refine blk_drewN ?_ _ | refine blk_drew ?_ | refine blk_alloc ?_ _)); refine blk_put (cs := #[.int .i64 t336, .slice none 0 0]) ?_ 1 _ rfl; (with_reducible repeat (first | refine blk_drewN ?_ _ | refine blk_drew ?_ | refine blk_alloc ?_ _)); refine blk_put (cs := #[.int .i64 0, .slice none 0 0]) ?_ 0 _ rfl; (with_reducible repeat (first | refine blk_drewN ?_ _ | refine blk_drew ?_ | refine blk_alloc ?_ _)); exact BK340.out) hb); have n4_ := Aside0.mk (below_step (qw HB) hb); clear HO333; clear HO339; clear BK328; clear BK340; clear HB; have HO333 := n0_; have HO339 := n1_; have BK328 := n2_; have BK340 := n3_; have HB := n4_; clear n0_ n1_ n2_ n3_ n4_; (try clear hb); (try clear hb2); (try clear hk); (try clear hi)))
     have n0_ := Aside0.mk (Kd.R_drew HO333.out)
     have n1_ := Aside0.mk (Kd.R_drew HO339.out)
     have n2_ := Aside0.mk (blk_drew BK328.out)
     have n3_ := Aside0.mk (blk_drew BK340.out)
     have n4_ := Aside0.mk (below_drew1 HB.out)
     clear HO333
     clear HO339
     clear BK328
     clear BK340
     clear HB
     have HO333 := n0_
     have HO339 := n1_
     have BK328 := n2_
     have BK340 := n3_
     have HB := n4_
     clear n0_ n1_ n2_ n3_ n4_
     refine start_ (n := 5) (S := fun w' => w'.cell? ⟨gb340, 0, none⟩ = some (.int .i64 t336) ∧ w'.cell? ⟨gb340, 1, none⟩ = some (.slice Ao28 t337.length co28) ∧ w'.cell? ⟨gb328, 0, none⟩ = some (.int .i64 a0_0) ∧ w'.cell? ⟨gb328, 1, none⟩ = some (.slice A0_1 l0_1.length c0_1)) (ds := []) #[false, false, false, false, false] (by kernel_rfl) rfl rfl ⟨bc BK340 0, bc BK340 1, bc BK328 0, bc BK328 1⟩ (fun hHeld => ?_)
     generalize w29.drew = w30 at HO333 HO339 BK328 BK340 HB hHeld ⊢
     refine take_ (i := 0) (N := some 35) (v := ?_) (a' := ?_) #[true, false, false, false, false] rfl rfl (by kernel_rfl) (fun _ _ _ h => h) (Or.inl ⟨by rfl, ?_⟩) hHeld ?_ ?_
     rotate_left
     ·
      rintro w' ⟨s0, s1, s2, s3⟩
      go_simp
      with_reducible rfl
     rotate_left
     ·
      simp only [Act.put, List.setIfInBounds_toArray, List.set_cons_zero, List.set_cons_succ, i64_w, i32_w]
      rfl
     refine take_ (i := 1) (N := some 36) (v := ?_) (a' := ?_) #[true, true, false, false, false] rfl rfl (by kernel_rfl) (fun _ _ _ h => h) (Or.inl ⟨by rfl, ?_⟩) hHeld ?_ ?_
     rotate_left
     ·
      rintro w' ⟨s0, s1, s2, s3⟩
      go_simp
      with_reducible rfl
     rotate_left
     ·
      simp only [Act.put, List.setIfInBounds_toArray, List.set_cons_zero, List.set_cons_succ, i64_w, i32_w]
      rfl
     refine one_ (i := 2) (N := some 37) #[true, true, true, false, false] rfl rfl (by kernel_rfl) (by decide) (fun K hK => ?_)
     refine goes_ Tryz.func14 (by kernel_rfl) rfl #[.agg #[.int .i64 a0_0, .slice A0_1 l0_1.length c0_1]] (by rfl) rfl rfl (by (try simp only [List.map_toArray, List.map_cons, List.map_nil]); first | done | rfl | (simp only [List.length_drop, List.length_take]; rfl)) ?_
     with_reducible refine (laws_toPuzzle.calls k a0_0 _ _ l0_1 t343 t344 _ ?side1 ?side2 A13.out).mono ?_
     (case side1 => repeat (first | exact (Kd.C_below HR0_1.out HB.out) | (with_reducible refine Kd.C_alloc ?_ _) | (with_reducible refine Kd.C_drewN ?_ _) | (with_reducible refine Kd.C_drew ?_)))
     (case side2 => exact HC0_1.out)
     rintro e w31 ⟨v345, rfl, ho0, hb⟩
     refine ⟨_, rfl, ?_⟩
     have n0_ := Aside0.mk (Kd.R_elder' (qr HO333.out) (Kd.R_base ho0) hb)
     have n1_ := Aside0.mk (Kd.R_elder' (qr HO339.out) (Kd.R_base ho0) hb)
     have n2_ := Aside0.mk (Kd.R_lower (Kd.R_new' (Kd.R_new' ho0 (Kd.R_lt (qr HO333.out))) (Kd.R_lt (qr HO339.out))) (below_size (qw HB)))
     have n3_ := qbb BK328 hb
     have n4_ := qbb BK340 hb
     have n5_ := Aside0.mk (below_step (qw HB) hb)
     clear HO333
     clear HO339
     clear BK328
     clear BK340
     clear HB
     have HO333 := n0_
     have HO339 := n1_
     have HO346 := n2_
     have BK328 := n3_
     have BK340 := n4_
     have HB := n5_
     clear n0_ n1_ n2_ n3_ n4_ n5_
     (try clear hb)
     (try clear hb2)
     (try clear hk)
     (try clear hi)
     (try clear ho0)
     obtain ⟨Ao32, co32, eo32⟩ := Kd.R_slice HO346.out
     (first | subst eo32 | (injection eo32 with f1_ f2_ f3_; have f4_ := f1_.symm; have f5_ := f3_.symm; clear f1_ f2_ f3_; subst f4_; subst f5_))
     refine hK.out _ _ ⟨bc BK340 0, bc BK340 1, bc BK328 0, bc BK328 1⟩ (fun hHeld => ?_)
     clear hK K
     refine norm_ (a' := ?_) ?_ ?_
     rotate_left
     ·
      show Act.put _ (some 37) _ = _
      simp only [Act.put, List.setIfInBounds_toArray, List.set_cons_zero, List.set_cons_succ, i64_w, i32_w]
      rfl
     refine one_ (i := 3) (N := some 38) #[true, true, true, true, false] rfl rfl (by kernel_rfl) (by decide) (fun K hK => ?_)
     refine goes_ Tryz.func16 (by kernel_rfl) rfl #[.agg #[.int .i64 t336, .slice Ao28 t337.length co28], .agg #[.int .i64 t343, .slice Ao32 t344.length co32]] (by rfl) rfl rfl (by (try simp only [List.map_toArray, List.map_cons, List.map_nil]); first | done | rfl | (simp only [List.length_drop, List.length_take]; rfl)) ?_
     with_reducible refine (laws_eqPuzzle.calls k t336 _ _ t337 t343 _ _ t344 true _ ?side1 ?side2 ?side3 ?side4 A14.out).mono ?_
     (case side1 => repeat (first | exact (Kd.R_reads' HO339.out).2.2 | (with_reducible refine Kd.C_alloc ?_ _) | (with_reducible refine Kd.C_drewN ?_ _) | (with_reducible refine Kd.C_drew ?_)))
     (case side2 => exact (Kd.R_reads' HO339.out).2.1)
     (case side3 => repeat (first | exact (Kd.R_reads' HO346.out).2.2 | (with_reducible refine Kd.C_alloc ?_ _) | (with_reducible refine Kd.C_drewN ?_ _) | (with_reducible refine Kd.C_drew ?_)))
     (case side4 => exact (Kd.R_reads' HO346.out).2.1)
     rintro e w33 ⟨rfl, hb⟩
     refine ⟨_, rfl, ?_⟩
     have n0_ := Aside0.mk (Kd.R_below (qr HO333.out) hb)
     have n1_ := Aside0.mk (Kd.R_below (qr HO339.out) hb)
     have n2_ := Aside0.mk (Kd.R_below (qr HO346.out) hb)
     have n3_ := qbb BK328 hb
     have n4_ := qbb BK340 hb
     have n5_ := Aside0.mk (below_step (qw HB) hb)
     clear HO333
     clear HO339
     clear HO346
     clear BK328
     clear BK340
     clear HB
     have HO333 := n0_
     have HO339 := n1_
     have HO346 := n2_
     have BK328 := n3_
     have BK340 := n4_
     have HB := n5_
     clear n0_ n1_ n2_ n3_ n4_ n5_
     (try clear hb)
     (try clear hb2)
     (try clear hk)
     (try clear hi)
     refine hK.out _ _ ⟨bc BK340 0, bc BK340 1, bc BK328 0, bc BK328 1⟩ (fun hHeld => ?_)
     clear hK K
     refine norm_ (a' := ?_) ?_ ?_
     rotate_left
     ·
      show Act.put _ (some 38) _ = _
      simp only [Act.put, List.setIfInBounds_toArray, List.set_cons_zero, List.set_cons_succ, i64_w, i32_w]
      rfl
     refine pure_ (i := 4) (N := some 39) (v := ?_) (a' := ?_) #[true, true, true, true, true] rfl rfl (by kernel_rfl) (fun _ _ _ h => h) (Or.inl ⟨by rfl, ?_⟩) ?_ ?_
     rotate_left
     ·
      intro w'
      go_simp
      with_reducible rfl
     rotate_left
     ·
      simp only [Act.put, List.setIfInBounds_toArray, List.set_cons_zero, List.set_cons_succ, i64_w, i32_w]
      rfl
     refine done_ (by kernel_rfl) ?_
     try go_wp2
     go_ret
     exact ⟨by first | rfl | (simp [errW_none, errW_some] <;> rfl) | (simp [*, errW_none, errW_some] <;> rfl), qw HB⟩
    ·
     replace c15 := Bool.eq_false_iff.mpr c15
     subst c15
     have H1 : (none) = some r := by rw [if_neg (show ¬ (false = true) by decide)] at H; exact H
     clear H
     have H := H1
     clear H1
     exact absurd H (by simp)
  ·
   rw [if_neg c11] at H
   exact absurd H (by simp)

end Go.Proofs.YtbgkaabbpdhhlaaGreatDoor.PA
