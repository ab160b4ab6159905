-- printed by xprint.py: the kit's print.py with given contracts
import Derived.Test.YtbgkaabbpdhhlaaGreatDoorPAx0
import Derived.Test.YtbgkaabbpdhhlaaGreatDoorPAx1
import Derived.Test.YtbgkaabbpdhhlaaGreatDoorPAx3
import Derived.Test.YtbgkaabbpdhhlaaGreatDoorPAx7
namespace Go.Proofs.YtbgkaabbpdhhlaaGreatDoor.PA
open Go.RowKit Go.Proofs.YtbgkaabbpdhhlaaGreatDoorW.PrintWords Go.Proofs.YtbgkaabbpdhhlaaGreatDoorW.PrintLast Go.Proofs.YtbgkaabbpdhhlaaGreatDoorW.PrintMore
attribute [local go_sem] max2_int min2_int max_two min_two max_three min_three max_four min_four   -- for this text's walks alone
set_option linter.unusedVariables false
set_option linter.unusedSimpArgs false

/-! ### spec_FirstSolution: function 19 -/
def spec_FirstSolution.f (k : Nat) (a0_0 : Int) (l0_1 : List (S65)) : Option (ByteArray × Bool) := (spec_pzGood.f k a0_0 l0_1).bind fun t462 => (if t462 = true then ((spec_pzAll.f k a0_0 l0_1).bind fun t463 => (if (t463.length : Int) = 0 then (some ((⟨#[]⟩ : ByteArray), false)) else (if 0 < (t463.length : Int) then (some (rdOf ByteArray.empty t463 0, true)) else (none)))) else (some ((⟨#[]⟩ : ByteArray), false)))
theorem spec_FirstSolution.mono : ∀ a0 a1 k, LeO (spec_FirstSolution.f k a0 a1) (spec_FirstSolution.f (k + 1) a0 a1) := by
 intro a0 a1 k
 unfold spec_FirstSolution.f
 repeat' first
   | (with_reducible exact spec_pzAll.mono _ _ _)
   | (with_reducible exact spec_pzGood.mono _ _ _)
   | (with_reducible exact LeO.refl _)
   | (with_reducible exact LeO.none _)
   | (with_reducible refine LeO.ite ?_ ?_)
   | (with_reducible refine LeO.bind ?_ (fun _ => ?_))
   | exact spec_pzAll.mono _ _ _
   | exact spec_pzGood.mono _ _ _
   | exact LeO.none _
   | refine LeO.ite ?_ ?_
   | refine LeO.bind ?_ (fun _ => ?_)
set_option maxHeartbeats 8000000 in
set_option maxRecDepth 100000 in
theorem spec_FirstSolution.calls (k : Nat) (a0_0 : Int) (A0_1 : Option Addr) (c0_1 : Nat) (l0_1 : List (S65)) (r1 : ByteArray) (r2 : Bool) (w : World) (hr0_1 : Kd.C k65 w A0_1 l0_1.length l0_1) (hc0_1 : l0_1.length ≤ c0_1) (h : spec_FirstSolution.f k a0_0 l0_1 = some (r1, r2)) :
  Calls Tryz.prog 19 #[.agg #[.int .i64 a0_0, .slice A0_1 l0_1.length c0_1]] w fun e w' => e = .returned (.tuple #[.string r1, .bool r2]) ∧ Below w.heap.size w w' := by
 have hu30 := Tryz.underlying30
 have HR0_1 := Aside0.mk hr0_1
 have HC0_1 := Aside0.mk hc0_1
 clear hr0_1 hc0_1
 have HB := Aside0.mk (Below.refl w.heap.size w)
 have H : ((spec_pzGood.f k a0_0 l0_1).bind fun t462 => (if t462 = true then ((spec_pzAll.f k a0_0 l0_1).bind fun t463 => (if (t463.length : Int) = 0 then (some ((⟨#[]⟩ : ByteArray), false)) else (if 0 < (t463.length : Int) then (some (rdOf ByteArray.empty t463 0, true)) else (none)))) else (some ((⟨#[]⟩ : ByteArray), false)))) = some (r1, r2) := h
 clear h
 replace H := Option.bind_eq_some_iff.mp H
 obtain ⟨t462, A20, H⟩ := H
 replace H : (if t462 = true then ((spec_pzAll.f k a0_0 l0_1).bind fun t463 => (if (t463.length : Int) = 0 then (some ((⟨#[]⟩ : ByteArray), false)) else (if 0 < (t463.length : Int) then (some (rdOf ByteArray.empty t463 0, true)) else (none)))) else (some ((⟨#[]⟩ : ByteArray), false))) = some (r1, r2) := H
 have A2 := Aside0.mk A20
 clear A20
 by_cases c3 : t462 = true
 ·
  subst c3
  have H1 : ((spec_pzAll.f k a0_0 l0_1).bind fun t463 => (if (t463.length : Int) = 0 then (some ((⟨#[]⟩ : ByteArray), false)) else (if 0 < (t463.length : Int) then (some (rdOf ByteArray.empty t463 0, true)) else (none)))) = some (r1, r2) := by rw [if_pos rfl] at H; exact H
  clear H
  have H := H1
  clear H1
  replace H := Option.bind_eq_some_iff.mp H
  obtain ⟨t463, A40, H⟩ := H
  replace H : (if (t463.length : Int) = 0 then (some ((⟨#[]⟩ : ByteArray), false)) else (if 0 < (t463.length : Int) then (some (rdOf ByteArray.empty t463 0, true)) else (none))) = some (r1, r2) := H
  have A4 := Aside0.mk A40
  clear A40
  by_cases c5 : (t463.length : Int) = 0
  ·
   rw [if_pos c5] at H
   have c5b0 : ((t463.length : Int) == 0) = true := beq_iff_eq.mpr c5
   have c5b1 : ((t463.length : Int) != 0) = false := bne_eq_false_iff_eq.mpr c5
   clear c5
   simp only [Option.some.injEq, Prod.mk.injEq] at H
   obtain ⟨rfl, rfl⟩ := H
   go_enter Tryz.func19, Tryz.ntmps19
   go_wp2_with (first | ((with_reducible refine gate_dst (N := 1) rfl ?_); refine box_event ?hg (N := 1) ?hd (cs := #[.int .i64 a0_0, .slice A0_1 l0_1.length c0_1]) (t := 30) ?hr ?_; (case hd => rfl); (case hg => rfl); (case hr => first | (go_simp; done) | (go_simp; rfl)); intro gb461 hg w6 hbox hb; have n0_ := Aside0.mk (below_step (qw HB) hb); have n1_ := Aside0.mk (hbox); have n2_ := Aside0.mk ((by rw [hg]; exact (below_size (qw HB)) : w.heap.size ≤ gb461)); have n3_ := Aside0.mk ((by rw [hg]; exact (below_size (qw HB)) : w.heap.size ≤ gb461)); clear HB; have HB := n0_; have BK461 := n1_; have GW461 := n2_; have GE461 := n3_; clear n0_ n1_ n2_ n3_; clear hb hbox hg; have hcz7_0 : w6.cell? ⟨gb461, 0, none⟩ = some (.int .i64 a0_0) := bc BK461 0; have hcz7_1 : w6.cell? ⟨gb461, 1, none⟩ = some (.slice A0_1 l0_1.length c0_1) := bc BK461 1; have hfz7_0 := blk_frozen BK461.out 0; have hfz7_1 := blk_frozen BK461.out 1) | ((with_reducible refine gate_callee (f := 42) rfl ?_); refine goesL_ (some 6) rfl rfl Tryz.func42 (by kernel_rfl) rfl #[.agg #[.int .i64 a0_0, .slice A0_1 l0_1.length c0_1]] rfl (by (try simp only [List.map_toArray, List.map_cons, List.map_nil]); first | done | rfl | (simp only [List.length_drop, List.length_take]; rfl)) ?_; (with_reducible refine (spec_pzGood.calls k a0_0 _ _ l0_1 true _ ?side1 ?side2 A2.out).mono ?_); (case side1 => repeat (first | exact (Kd.C_below HR0_1.out HB.out) | (with_reducible refine Kd.C_alloc ?_ _) | (with_reducible refine Kd.C_drewN ?_ _) | (with_reducible refine Kd.C_drew ?_))); (case side2 => exact HC0_1.out); rintro e w8 ⟨rfl, hb⟩; refine ⟨_, rfl, ?_⟩; have n0_ := qbb BK461 hb; have n1_ := Aside0.mk (below_step (qw HB) hb); clear BK461; clear HB; have BK461 := n0_; have HB := n1_; clear n0_ n1_; (try clear hb); (try clear hb2); (try clear hk); (try clear hi); have hcz9_0 : w8.cell? ⟨gb461, 0, none⟩ = some (.int .i64 a0_0) := bc BK461 0; have hcz9_1 : w8.cell? ⟨gb461, 1, none⟩ = some (.slice A0_1 l0_1.length c0_1) := bc BK461 1; have hfz9_0 := blk_frozen BK461.out 0; have hfz9_1 := blk_frozen BK461.out 1) | ((with_reducible refine gate_callee (f := 43) rfl ?_); refine goesL_ (some 12) rfl rfl Tryz.func43 (by kernel_rfl) rfl #[.int .i64 a0_0, .slice A0_1 l0_1.length c0_1] rfl (by (try simp only [List.map_toArray, List.map_cons, List.map_nil]); first | done | rfl | (simp only [List.length_drop, List.length_take]; rfl)) ?_; (with_reducible refine (spec_pzAll.calls k a0_0 _ _ l0_1 t463 _ ?side1 ?side2 A4.out).mono ?_); (case side1 => repeat (first | exact (Kd.C_below HR0_1.out HB.out) | (with_reducible refine Kd.C_alloc ?_ _) | (with_reducible refine Kd.C_drewN ?_ _) | (with_reducible refine Kd.C_drew ?_))); (case side2 => exact HC0_1.out); rintro e w10 ⟨v464, rfl, ho0, hb⟩; refine ⟨_, rfl, ?_⟩; have n0_ := Aside0.mk (Kd.R_lower ho0 (below_size (qw HB))); have n1_ := qbb BK461 hb; have n2_ := Aside0.mk (below_step (qw HB) hb); clear BK461; clear HB; have HO465 := n0_; have BK461 := n1_; have HB := n2_; clear n0_ n1_ n2_; (try clear hb); (try clear hb2); (try clear hk); (try clear hi); (try clear ho0); obtain ⟨Ao11, co11, eo11⟩ := Kd.R_slice HO465.out; subst eo11))
   go_ret2
   exact ⟨by first | rfl | (simp [errW_none, errW_some] <;> rfl) | (simp [*, errW_none, errW_some] <;> rfl), qw HB⟩
  ·
   rw [if_neg c5] at H
   have c5b0 : ((t463.length : Int) == 0) = false := beq_eq_false_iff_ne.mpr c5
   have c5b1 : ((t463.length : Int) != 0) = true := bne_iff_ne.mpr c5
   have c5b2 : ¬ (t463 = []) := fun h_ => c5 (by rw [h_]; rfl)
   by_cases c12 : 0 < (t463.length : Int)
   ·
    rw [if_pos c12] at H
    have c12b0 : decide (0 < (t463.length : Int)) = true := decide_eq_true c12
    have c12b1 : decide (0 < t463.length) = true := decide_eq_true (by omega)
    clear c12
    simp only [Option.some.injEq, Prod.mk.injEq] at H
    obtain ⟨rfl, rfl⟩ := H
    go_enter Tryz.func19, Tryz.ntmps19
    go_wp2_with (first | ((with_reducible refine gate_dst (N := 1) rfl ?_); refine box_event ?hg (N := 1) ?hd (cs := #[.int .i64 a0_0, .slice A0_1 l0_1.length c0_1]) (t := 30) ?hr ?_; (case hd => rfl); (case hg => rfl); (case hr => first | (go_simp; done) | (go_simp; rfl)); intro gb461 hg w13 hbox hb; have n0_ := Aside0.mk (below_step (qw HB) hb); have n1_ := Aside0.mk (hbox); have n2_ := Aside0.mk ((by rw [hg]; exact (below_size (qw HB)) : w.heap.size ≤ gb461)); have n3_ := Aside0.mk ((by rw [hg]; exact (below_size (qw HB)) : w.heap.size ≤ gb461)); clear HB; have HB := n0_; have BK461 := n1_; have GW461 := n2_; have GE461 := n3_; clear n0_ n1_ n2_ n3_; clear hb hbox hg; have hcz14_0 : w13.cell? ⟨gb461, 0, none⟩ = some (.int .i64 a0_0) := bc BK461 0; have hcz14_1 : w13.cell? ⟨gb461, 1, none⟩ = some (.slice A0_1 l0_1.length c0_1) := bc BK461 1; have hfz14_0 := blk_frozen BK461.out 0; have hfz14_1 := blk_frozen BK461.out 1) | ((with_reducible refine gate_callee (f := 42) rfl ?_); refine goesL_ (some 6) rfl rfl Tryz.func42 (by kernel_rfl) rfl #[.agg #[.int .i64 a0_0, .slice A0_1 l0_1.length c0_1]] rfl (by (try simp only [List.map_toArray, List.map_cons, List.map_nil]); first | done | rfl | (simp only [List.length_drop, List.length_take]; rfl)) ?_; (with_reducible refine (spec_pzGood.calls k a0_0 _ _ l0_1 true _ ?side1 ?side2 A2.out).mono ?_); (case side1 => repeat (first | exact (Kd.C_below HR0_1.out HB.out) | (with_reducible refine Kd.C_alloc ?_ _) | (with_reducible refine Kd.C_drewN ?_ _) | (with_reducible refine Kd.C_drew ?_))); (case side2 => exact HC0_1.out); rintro e w15 ⟨rfl, hb⟩; refine ⟨_, rfl, ?_⟩; have n0_ := qbb BK461 hb; have n1_ := Aside0.mk (below_step (qw HB) hb); clear BK461; clear HB; have BK461 := n0_; have HB := n1_; clear n0_ n1_; (try clear hb); (try clear hb2); (try clear hk); (try clear hi); have hcz16_0 : w15.cell? ⟨gb461, 0, none⟩ = some (.int .i64 a0_0) := bc BK461 0; have hcz16_1 : w15.cell? ⟨gb461, 1, none⟩ = some (.slice A0_1 l0_1.length c0_1) := bc BK461 1; have hfz16_0 := blk_frozen BK461.out 0; have hfz16_1 := blk_frozen BK461.out 1) | ((with_reducible refine gate_callee (f := 43) rfl ?_); refine goesL_ (some 12) rfl rfl Tryz.func43 (by kernel_rfl) rfl #[.int .i64 a0_0, .slice A0_1 l0_1.length c0_1] rfl (by (try simp only [List.map_toArray, List.map_cons, List.map_nil]); first | done | rfl | (simp only [List.length_drop, List.length_take]; rfl)) ?_; (with_reducible refine (spec_pzAll.calls k a0_0 _ _ l0_1 t463 _ ?side1 ?side2 A4.out).mono ?_); (case side1 => repeat (first | exact (Kd.C_below HR0_1.out HB.out) | (with_reducible refine Kd.C_alloc ?_ _) | (with_reducible refine Kd.C_drewN ?_ _) | (with_reducible refine Kd.C_drew ?_))); (case side2 => exact HC0_1.out); rintro e w17 ⟨v464, rfl, ho0, hb⟩; refine ⟨_, rfl, ?_⟩; have n0_ := Aside0.mk (Kd.R_lower ho0 (below_size (qw HB))); have n1_ := qbb BK461 hb; have n2_ := Aside0.mk (below_step (qw HB) hb); clear BK461; clear HB; have HO465 := n0_; have BK461 := n1_; have HB := n2_; clear n0_ n1_ n2_; (try clear hb); (try clear hb2); (try clear hk); (try clear hi); (try clear ho0); obtain ⟨Ao18, co18, eo18⟩ := Kd.R_slice HO465.out; subst eo18; have p466 : 0 ≤ (0 : Int) := (by omega); have q466 : 0 < (t463.length : Int) := of_decide_eq_true (by first | (with_reducible assumption) | assumption); obtain ⟨ad466, e466, hx466_0⟩ := Kd.at_string (Kd.R_reads' HO465.out).2.2 0 p466 q466; cases e466; have qi466 : (0 < t463.length) = True := eq_true (by omega); (try rw [show ((0 : Int)).toNat = 0 from rfl] at hx466_0); (try rw [Addr.add_zero'] at hx466_0); replace p466 := eq_true p466; replace q466 := eq_true q466))
    go_ret2
    exact ⟨by first | rfl | (simp [errW_none, errW_some] <;> rfl) | (simp [*, errW_none, errW_some] <;> rfl), qw HB⟩
   ·
    rw [if_neg c12] at H
    exact absurd H (by simp)
 ·
  replace c3 := Bool.eq_false_iff.mpr c3
  subst c3
  have H1 : (some ((⟨#[]⟩ : ByteArray), false)) = some (r1, r2) := by rw [if_neg (show ¬ (false = true) by decide)] at H; exact H
  clear H
  have H := H1
  clear H1
  simp only [Option.some.injEq, Prod.mk.injEq] at H
  obtain ⟨rfl, rfl⟩ := H
  go_enter Tryz.func19, Tryz.ntmps19
  go_wp2_with (first | ((with_reducible refine gate_dst (N := 1) rfl ?_); refine box_event ?hg (N := 1) ?hd (cs := #[.int .i64 a0_0, .slice A0_1 l0_1.length c0_1]) (t := 30) ?hr ?_; (case hd => rfl); (case hg => rfl); (case hr => first | (go_simp; done) | (go_simp; rfl)); intro gb461 hg w19 hbox hb; have n0_ := Aside0.mk (below_step (qw HB) hb); have n1_ := Aside0.mk (hbox); have n2_ := Aside0.mk ((by rw [hg]; exact (below_size (qw HB)) : w.heap.size ≤ gb461)); have n3_ := Aside0.mk ((by rw [hg]; exact (below_size (qw HB)) : w.heap.size ≤ gb461)); clear HB; have HB := n0_; have BK461 := n1_; have GW461 := n2_; have GE461 := n3_; clear n0_ n1_ n2_ n3_; clear hb hbox hg; have hcz20_0 : w19.cell? ⟨gb461, 0, none⟩ = some (.int .i64 a0_0) := bc BK461 0; have hcz20_1 : w19.cell? ⟨gb461, 1, none⟩ = some (.slice A0_1 l0_1.length c0_1) := bc BK461 1; have hfz20_0 := blk_frozen BK461.out 0; have hfz20_1 := blk_frozen BK461.out 1) | ((with_reducible refine gate_callee (f := 42) rfl ?_); refine goesL_ (some 6) rfl rfl Tryz.func42 (by kernel_rfl) rfl #[.agg #[.int .i64 a0_0, .slice A0_1 l0_1.length c0_1]] rfl (by (try simp only [List.map_toArray, List.map_cons, List.map_nil]); first | done | rfl | (simp only [List.length_drop, List.length_take]; rfl)) ?_; (with_reducible refine (spec_pzGood.calls k a0_0 _ _ l0_1 false _ ?side1 ?side2 A2.out).mono ?_); (case side1 => repeat (first | exact (Kd.C_below HR0_1.out HB.out) | (with_reducible refine Kd.C_alloc ?_ _) | (with_reducible refine Kd.C_drewN ?_ _) | (with_reducible refine Kd.C_drew ?_))); (case side2 => exact HC0_1.out); rintro e w21 ⟨rfl, hb⟩; refine ⟨_, rfl, ?_⟩; have n0_ := qbb BK461 hb; have n1_ := Aside0.mk (below_step (qw HB) hb); clear BK461; clear HB; have BK461 := n0_; have HB := n1_; clear n0_ n1_; (try clear hb); (try clear hb2); (try clear hk); (try clear hi)))
  go_ret2
  exact ⟨by first | rfl | (simp [errW_none, errW_some] <;> rfl) | (simp [*, errW_none, errW_some] <;> rfl), qw HB⟩

/-! ### impl_FirstSolution: function 20 -/
def impl_FirstSolution.f (k : Nat) (a0_0 : Int) (l0_1 : List (S65)) : Option (ByteArray × Bool) := (impl_Solutions.f k a0_0 l0_1).bind fun bt468 => (if bt468.2 = true then (if (bt468.1.length : Int) = 0 then (some ((⟨#[]⟩ : ByteArray), false)) else (if 0 < (bt468.1.length : Int) then (some (rdOf ByteArray.empty bt468.1 0, true)) else (none))) else (some ((⟨#[]⟩ : ByteArray), false)))
theorem impl_FirstSolution.mono : ∀ a0 a1 k, LeO (impl_FirstSolution.f k a0 a1) (impl_FirstSolution.f (k + 1) a0 a1) := by
 intro a0 a1 k
 unfold impl_FirstSolution.f
 repeat' first
   | (with_reducible exact impl_Solutions.mono _ _ _)
   | (with_reducible exact LeO.refl _)
   | (with_reducible exact LeO.none _)
   | (with_reducible refine LeO.ite ?_ ?_)
   | (with_reducible refine LeO.bind ?_ (fun _ => ?_))
   | exact impl_Solutions.mono _ _ _
   | exact LeO.none _
   | refine LeO.ite ?_ ?_
   | refine LeO.bind ?_ (fun _ => ?_)
set_option maxHeartbeats 8000000 in
set_option maxRecDepth 100000 in
theorem impl_FirstSolution.calls (k : Nat) (a0_0 : Int) (A0_1 : Option Addr) (c0_1 : Nat) (l0_1 : List (S65)) (r1 : ByteArray) (r2 : Bool) (w : World) (hr0_1 : Kd.C k65 w A0_1 l0_1.length l0_1) (hc0_1 : l0_1.length ≤ c0_1) (h : impl_FirstSolution.f k a0_0 l0_1 = some (r1, r2)) (hglob : Glob w := by first | exact Glob.below HG.out (by repeat (first | (with_reducible first | exact HB.out | apply below_alloc | apply pw_below_drewN | apply below_drew1 | refine below_set ?_ (Aside0.out (by assumption))) | exact HB.out)) | assumption) :
  Calls Tryz.prog 20 #[.agg #[.int .i64 a0_0, .slice A0_1 l0_1.length c0_1]] w fun e w' => e = .returned (.tuple #[.string r1, .bool r2]) ∧ Below w.heap.size w w' := by
 have HG := Aside0.mk hglob
 clear hglob
 have hu30 := Tryz.underlying30
 have HR0_1 := Aside0.mk hr0_1
 have HC0_1 := Aside0.mk hc0_1
 clear hr0_1 hc0_1
 have HB := Aside0.mk (Below.refl w.heap.size w)
 have H : ((impl_Solutions.f k a0_0 l0_1).bind fun bt468 => (if bt468.2 = true then (if (bt468.1.length : Int) = 0 then (some ((⟨#[]⟩ : ByteArray), false)) else (if 0 < (bt468.1.length : Int) then (some (rdOf ByteArray.empty bt468.1 0, true)) else (none))) else (some ((⟨#[]⟩ : ByteArray), false)))) = some (r1, r2) := h
 clear h
 replace H := Option.bind_eq_some_iff.mp H
 obtain ⟨⟨t468, t471⟩, A20, H⟩ := H
 replace H : (if t471 = true then (if (t468.length : Int) = 0 then (some ((⟨#[]⟩ : ByteArray), false)) else (if 0 < (t468.length : Int) then (some (rdOf ByteArray.empty t468 0, true)) else (none))) else (some ((⟨#[]⟩ : ByteArray), false))) = some (r1, r2) := H
 have A2 := Aside0.mk A20
 clear A20
 by_cases c3 : t471 = true
 ·
  subst c3
  have H1 : (if (t468.length : Int) = 0 then (some ((⟨#[]⟩ : ByteArray), false)) else (if 0 < (t468.length : Int) then (some (rdOf ByteArray.empty t468 0, true)) else (none))) = some (r1, r2) := by rw [if_pos rfl] at H; exact H
  clear H
  have H := H1
  clear H1
  by_cases c4 : (t468.length : Int) = 0
  ·
   rw [if_pos c4] at H
   have c4b0 : ((t468.length : Int) == 0) = true := beq_iff_eq.mpr c4
   have c4b1 : ((t468.length : Int) != 0) = false := bne_eq_false_iff_eq.mpr c4
   clear c4
   simp only [Option.some.injEq, Prod.mk.injEq] at H
   obtain ⟨rfl, rfl⟩ := H
   go_enter Tryz.func20, Tryz.ntmps20
   go_wp2_with (first | ((with_reducible refine gate_dst (N := 1) rfl ?_); (try (refine gate_guard (by rfl) ?_; dsimp only)); refine box_event ?hg (N := 1) ?hd (cs := #[.int .i64 a0_0, .slice A0_1 l0_1.length c0_1]) (t := 30) ?hr ?_; (case hd => rfl); (case hg => rfl); (case hr => first | (go_simp; done) | (go_simp; rfl)); intro gb467 hg w5 hbox hb; have n0_ := Aside0.mk (below_step (qw HB) hb); have n1_ := Aside0.mk (hbox); have n2_ := Aside0.mk ((by rw [hg]; exact (below_size (qw HB)) : w.heap.size ≤ gb467)); have n3_ := Aside0.mk ((by rw [hg]; exact (below_size (qw HB)) : w.heap.size ≤ gb467)); clear HB; have HB := n0_; have BK467 := n1_; have GW467 := n2_; have GE467 := n3_; clear n0_ n1_ n2_ n3_; clear hb hbox hg; have hcz6_0 : w5.cell? ⟨gb467, 0, none⟩ = some (.int .i64 a0_0) := bc BK467 0; have hcz6_1 : w5.cell? ⟨gb467, 1, none⟩ = some (.slice A0_1 l0_1.length c0_1) := bc BK467 1; have hfz6_0 := blk_frozen BK467.out 0; have hfz6_1 := blk_frozen BK467.out 1) | ((with_reducible refine gate_callee (f := 32) rfl ?_); refine goesL_ (some 8) rfl rfl Tryz.func32 (by kernel_rfl) rfl #[.agg #[.int .i64 a0_0, .slice A0_1 l0_1.length c0_1]] rfl (by (try simp only [List.map_toArray, List.map_cons, List.map_nil]); first | done | rfl | (simp only [List.length_drop, List.length_take]; rfl)) ?_; (with_reducible refine (impl_Solutions.calls k a0_0 _ _ l0_1 t468 true _ ?side1 ?side2 A2.out).mono ?_); (case side1 => repeat (first | exact (Kd.C_below HR0_1.out HB.out) | (with_reducible refine Kd.C_alloc ?_ _) | (with_reducible refine Kd.C_drewN ?_ _) | (with_reducible refine Kd.C_drew ?_))); (case side2 => exact HC0_1.out); rintro e w7 ⟨v469, rfl, ho0, hb⟩; refine ⟨_, rfl, ?_⟩; have n0_ := Aside0.mk (Kd.R_lower ho0 (below_size (qw HB))); have n1_ := qbb BK467 hb; have n2_ := Aside0.mk (below_step (qw HB) hb); clear BK467; clear HB; have HO470 := n0_; have BK467 := n1_; have HB := n2_; clear n0_ n1_ n2_; (try clear hb); (try clear hb2); (try clear hk); (try clear hi); (try clear ho0); obtain ⟨Ao8, co8, eo8⟩ := Kd.R_slice HO470.out; subst eo8))
   go_ret2
   exact ⟨by first | rfl | (simp [errW_none, errW_some] <;> rfl) | (simp [*, errW_none, errW_some] <;> rfl), qw HB⟩
  ·
   rw [if_neg c4] at H
   have c4b0 : ((t468.length : Int) == 0) = false := beq_eq_false_iff_ne.mpr c4
   have c4b1 : ((t468.length : Int) != 0) = true := bne_iff_ne.mpr c4
   have c4b2 : ¬ (t468 = []) := fun h_ => c4 (by rw [h_]; rfl)
   by_cases c9 : 0 < (t468.length : Int)
   ·
    rw [if_pos c9] at H
    have c9b0 : decide (0 < (t468.length : Int)) = true := decide_eq_true c9
    have c9b1 : decide (0 < t468.length) = true := decide_eq_true (by omega)
    clear c9
    simp only [Option.some.injEq, Prod.mk.injEq] at H
    obtain ⟨rfl, rfl⟩ := H
    go_enter Tryz.func20, Tryz.ntmps20
    go_wp2_with (first | ((with_reducible refine gate_dst (N := 1) rfl ?_); (try (refine gate_guard (by rfl) ?_; dsimp only)); refine box_event ?hg (N := 1) ?hd (cs := #[.int .i64 a0_0, .slice A0_1 l0_1.length c0_1]) (t := 30) ?hr ?_; (case hd => rfl); (case hg => rfl); (case hr => first | (go_simp; done) | (go_simp; rfl)); intro gb467 hg w10 hbox hb; have n0_ := Aside0.mk (below_step (qw HB) hb); have n1_ := Aside0.mk (hbox); have n2_ := Aside0.mk ((by rw [hg]; exact (below_size (qw HB)) : w.heap.size ≤ gb467)); have n3_ := Aside0.mk ((by rw [hg]; exact (below_size (qw HB)) : w.heap.size ≤ gb467)); clear HB; have HB := n0_; have BK467 := n1_; have GW467 := n2_; have GE467 := n3_; clear n0_ n1_ n2_ n3_; clear hb hbox hg; have hcz11_0 : w10.cell? ⟨gb467, 0, none⟩ = some (.int .i64 a0_0) := bc BK467 0; have hcz11_1 : w10.cell? ⟨gb467, 1, none⟩ = some (.slice A0_1 l0_1.length c0_1) := bc BK467 1; have hfz11_0 := blk_frozen BK467.out 0; have hfz11_1 := blk_frozen BK467.out 1) | ((with_reducible refine gate_callee (f := 32) rfl ?_); refine goesL_ (some 8) rfl rfl Tryz.func32 (by kernel_rfl) rfl #[.agg #[.int .i64 a0_0, .slice A0_1 l0_1.length c0_1]] rfl (by (try simp only [List.map_toArray, List.map_cons, List.map_nil]); first | done | rfl | (simp only [List.length_drop, List.length_take]; rfl)) ?_; (with_reducible refine (impl_Solutions.calls k a0_0 _ _ l0_1 t468 true _ ?side1 ?side2 A2.out).mono ?_); (case side1 => repeat (first | exact (Kd.C_below HR0_1.out HB.out) | (with_reducible refine Kd.C_alloc ?_ _) | (with_reducible refine Kd.C_drewN ?_ _) | (with_reducible refine Kd.C_drew ?_))); (case side2 => exact HC0_1.out); rintro e w12 ⟨v469, rfl, ho0, hb⟩; refine ⟨_, rfl, ?_⟩; have n0_ := Aside0.mk (Kd.R_lower ho0 (below_size (qw HB))); have n1_ := qbb BK467 hb; have n2_ := Aside0.mk (below_step (qw HB) hb); clear BK467; clear HB; have HO470 := n0_; have BK467 := n1_; have HB := n2_; clear n0_ n1_ n2_; (try clear hb); (try clear hb2); (try clear hk); (try clear hi); (try clear ho0); obtain ⟨Ao13, co13, eo13⟩ := Kd.R_slice HO470.out; subst eo13; have p472 : 0 ≤ (0 : Int) := (by omega); have q472 : 0 < (t468.length : Int) := of_decide_eq_true (by first | (with_reducible assumption) | assumption); obtain ⟨ad472, e472, hx472_0⟩ := Kd.at_string (Kd.R_reads' HO470.out).2.2 0 p472 q472; cases e472; have qi472 : (0 < t468.length) = True := eq_true (by omega); (try rw [show ((0 : Int)).toNat = 0 from rfl] at hx472_0); (try rw [Addr.add_zero'] at hx472_0); replace p472 := eq_true p472; replace q472 := eq_true q472))
    go_ret2
    exact ⟨by first | rfl | (simp [errW_none, errW_some] <;> rfl) | (simp [*, errW_none, errW_some] <;> rfl), qw HB⟩
   ·
    rw [if_neg c9] at H
    exact absurd H (by simp)
 ·
  replace c3 := Bool.eq_false_iff.mpr c3
  subst c3
  have H1 : (some ((⟨#[]⟩ : ByteArray), false)) = some (r1, r2) := by rw [if_neg (show ¬ (false = true) by decide)] at H; exact H
  clear H
  have H := H1
  clear H1
  simp only [Option.some.injEq, Prod.mk.injEq] at H
  obtain ⟨rfl, rfl⟩ := H
  go_enter Tryz.func20, Tryz.ntmps20
  go_wp2_with (first | ((with_reducible refine gate_dst (N := 1) rfl ?_); (try (refine gate_guard (by rfl) ?_; dsimp only)); refine box_event ?hg (N := 1) ?hd (cs := #[.int .i64 a0_0, .slice A0_1 l0_1.length c0_1]) (t := 30) ?hr ?_; (case hd => rfl); (case hg => rfl); (case hr => first | (go_simp; done) | (go_simp; rfl)); intro gb467 hg w14 hbox hb; have n0_ := Aside0.mk (below_step (qw HB) hb); have n1_ := Aside0.mk (hbox); have n2_ := Aside0.mk ((by rw [hg]; exact (below_size (qw HB)) : w.heap.size ≤ gb467)); have n3_ := Aside0.mk ((by rw [hg]; exact (below_size (qw HB)) : w.heap.size ≤ gb467)); clear HB; have HB := n0_; have BK467 := n1_; have GW467 := n2_; have GE467 := n3_; clear n0_ n1_ n2_ n3_; clear hb hbox hg; have hcz15_0 : w14.cell? ⟨gb467, 0, none⟩ = some (.int .i64 a0_0) := bc BK467 0; have hcz15_1 : w14.cell? ⟨gb467, 1, none⟩ = some (.slice A0_1 l0_1.length c0_1) := bc BK467 1; have hfz15_0 := blk_frozen BK467.out 0; have hfz15_1 := blk_frozen BK467.out 1) | ((with_reducible refine gate_callee (f := 32) rfl ?_); refine goesL_ (some 8) rfl rfl Tryz.func32 (by kernel_rfl) rfl #[.agg #[.int .i64 a0_0, .slice A0_1 l0_1.length c0_1]] rfl (by (try simp only [List.map_toArray, List.map_cons, List.map_nil]); first | done | rfl | (simp only [List.length_drop, List.length_take]; rfl)) ?_; (with_reducible refine (impl_Solutions.calls k a0_0 _ _ l0_1 t468 false _ ?side1 ?side2 A2.out).mono ?_); (case side1 => repeat (first | exact (Kd.C_below HR0_1.out HB.out) | (with_reducible refine Kd.C_alloc ?_ _) | (with_reducible refine Kd.C_drewN ?_ _) | (with_reducible refine Kd.C_drew ?_))); (case side2 => exact HC0_1.out); rintro e w16 ⟨v469, rfl, ho0, hb⟩; refine ⟨_, rfl, ?_⟩; have n0_ := Aside0.mk (Kd.R_lower ho0 (below_size (qw HB))); have n1_ := qbb BK467 hb; have n2_ := Aside0.mk (below_step (qw HB) hb); clear BK467; clear HB; have HO470 := n0_; have BK467 := n1_; have HB := n2_; clear n0_ n1_ n2_; (try clear hb); (try clear hb2); (try clear hk); (try clear hi); (try clear ho0)))
  go_ret2
  exact ⟨by first | rfl | (simp [errW_none, errW_some] <;> rfl) | (simp [*, errW_none, errW_some] <;> rfl), qw HB⟩

/-! ### laws_FnExactFirstSolution: function 5 -/
def laws_FnExactFirstSolution.f (k : Nat) (a0_0 : Int) (l0_1 : List (S72)) : Option (Bool) := (laws_szPuzzle.f a0_0 l0_1 1048576).bind fun t474 => (if t474 < 0 then (some true) else ((laws_toPuzzle.f k a0_0 l0_1).bind fun bt475 => ((spec_FirstSolution.f k bt475.1 bt475.2).bind fun bt479 => ((laws_toPuzzle.f k a0_0 l0_1).bind fun bt481 => ((impl_FirstSolution.f k bt481.1 bt481.2).bind fun bt486 => (if bt486.1.toList = bt479.1.toList then (if (bt486.2 != bt479.2) = true then (none) else ((laws_toPuzzle.f k a0_0 l0_1).bind fun bt488 => ((laws_eqPuzzle.f k bt481.1 bt481.2 bt488.1 bt488.2).bind fun t492 => (if t492 = true then (some true) else (none))))) else (none)))))))
theorem laws_FnExactFirstSolution.mono : ∀ a0 a1 k, LeO (laws_FnExactFirstSolution.f k a0 a1) (laws_FnExactFirstSolution.f (k + 1) a0 a1) := by
 intro a0 a1 k
 unfold laws_FnExactFirstSolution.f
 repeat' first
   | (with_reducible exact impl_FirstSolution.mono _ _ _)
   | (with_reducible exact laws_eqPuzzle.mono _ _ _ _ _)
   | (with_reducible exact laws_toPuzzle.mono _ _ _)
   | (with_reducible exact spec_FirstSolution.mono _ _ _)
   | (with_reducible exact LeO.refl _)
   | (with_reducible exact LeO.none _)
   | (with_reducible refine LeO.ite ?_ ?_)
   | (with_reducible refine LeO.bind ?_ (fun _ => ?_))
   | exact impl_FirstSolution.mono _ _ _
   | exact laws_eqPuzzle.mono _ _ _ _ _
   | exact laws_toPuzzle.mono _ _ _
   | exact spec_FirstSolution.mono _ _ _
   | exact LeO.none _
   | refine LeO.ite ?_ ?_
   | refine LeO.bind ?_ (fun _ => ?_)
set_option maxHeartbeats 8000000 in
set_option maxRecDepth 100000 in
theorem laws_FnExactFirstSolution.calls (k : Nat) (a0_0 : Int) (A0_1 : Option Addr) (c0_1 : Nat) (l0_1 : List (S72)) (r : Bool) (w : World) (hr0_1 : Kd.C k72 w A0_1 l0_1.length l0_1) (hc0_1 : l0_1.length ≤ c0_1) (h : laws_FnExactFirstSolution.f k a0_0 l0_1 = some r) (hglob : Glob w := by first | exact Glob.below HG.out (by repeat (first | (with_reducible first | exact HB.out | apply below_alloc | apply pw_below_drewN | apply below_drew1 | refine below_set ?_ (Aside0.out (by assumption))) | exact HB.out)) | assumption) :
  Calls Tryz.prog 5 #[.agg #[.int .i64 a0_0, .slice A0_1 l0_1.length c0_1]] w fun e w' => e = .returned (.bool r) ∧ Below w.heap.size w w' := by
 have HG := Aside0.mk hglob
 clear hglob
 have hu24 := Tryz.underlying24
 have hu30 := Tryz.underlying30
 have HR0_1 := Aside0.mk hr0_1
 have HC0_1 := Aside0.mk hc0_1
 clear hr0_1 hc0_1
 have HB := Aside0.mk (Below.refl w.heap.size w)
 have H : ((laws_szPuzzle.f a0_0 l0_1 1048576).bind fun t474 => (if t474 < 0 then (some true) else ((laws_toPuzzle.f k a0_0 l0_1).bind fun bt475 => ((spec_FirstSolution.f k bt475.1 bt475.2).bind fun bt479 => ((laws_toPuzzle.f k a0_0 l0_1).bind fun bt481 => ((impl_FirstSolution.f k bt481.1 bt481.2).bind fun bt486 => (if bt486.1.toList = bt479.1.toList then (if (bt486.2 != bt479.2) = true then (none) else ((laws_toPuzzle.f k a0_0 l0_1).bind fun bt488 => ((laws_eqPuzzle.f k bt481.1 bt481.2 bt488.1 bt488.2).bind fun t492 => (if t492 = true then (some true) else (none))))) else (none)))))))) = some r := h
 clear h
 replace H := Option.bind_eq_some_iff.mp H
 obtain ⟨t474, A20, H⟩ := H
 replace H : (if t474 < 0 then (some true) else ((laws_toPuzzle.f k a0_0 l0_1).bind fun bt475 => ((spec_FirstSolution.f k bt475.1 bt475.2).bind fun bt479 => ((laws_toPuzzle.f k a0_0 l0_1).bind fun bt481 => ((impl_FirstSolution.f k bt481.1 bt481.2).bind fun bt486 => (if bt486.1.toList = bt479.1.toList then (if (bt486.2 != bt479.2) = true then (none) else ((laws_toPuzzle.f k a0_0 l0_1).bind fun bt488 => ((laws_eqPuzzle.f k bt481.1 bt481.2 bt488.1 bt488.2).bind fun t492 => (if t492 = true then (some true) else (none))))) else (none))))))) = some r := H
 have A2 := Aside0.mk A20
 clear A20
 by_cases c3 : t474 < 0
 ·
  rw [if_pos c3] at H
  have c3b0 : decide (t474 < 0) = true := decide_eq_true c3
  clear c3
  obtain rfl := Option.some.inj H
  go_enter Tryz.func5, Tryz.ntmps5
  go_wp2_with (first | ((with_reducible refine gate_dst (N := 1) rfl ?_); refine box_event ?hg (N := 1) ?hd (cs := #[.int .i64 a0_0, .slice A0_1 l0_1.length c0_1]) (t := 24) ?hr ?_; (case hd => rfl); (case hg => rfl); (case hr => first | (go_simp; done) | (go_simp; rfl)); intro gb473 hg w4 hbox hb; have n0_ := Aside0.mk (below_step (qw HB) hb); have n1_ := Aside0.mk (hbox); have n2_ := Aside0.mk ((by rw [hg]; exact (below_size (qw HB)) : w.heap.size ≤ gb473)); have n3_ := Aside0.mk ((by rw [hg]; exact (below_size (qw HB)) : w.heap.size ≤ gb473)); clear HB; have HB := n0_; have BK473 := n1_; have GW473 := n2_; have GE473 := n3_; clear n0_ n1_ n2_ n3_; clear hb hbox hg; have hcz5_0 : w4.cell? ⟨gb473, 0, none⟩ = some (.int .i64 a0_0) := bc BK473 0; have hcz5_1 : w4.cell? ⟨gb473, 1, none⟩ = some (.slice A0_1 l0_1.length c0_1) := bc BK473 1; have hfz5_0 := blk_frozen BK473.out 0; have hfz5_1 := blk_frozen BK473.out 1) | ((with_reducible refine gate_callee (f := 12) rfl ?_); refine goesL_ (some 11) rfl rfl Tryz.func12 (by kernel_rfl) rfl #[.agg #[.int .i64 a0_0, .slice A0_1 l0_1.length c0_1], .int .i64 1048576] rfl (by (try simp only [List.map_toArray, List.map_cons, List.map_nil]); first | done | rfl | (simp only [List.length_drop, List.length_take]; rfl)) ?_; (with_reducible refine (laws_szPuzzle.calls a0_0 _ _ l0_1 1048576 t474 _ ?side1 ?side2 A2.out).mono ?_); (case side1 => repeat (first | exact (Kd.C_below HR0_1.out HB.out) | (with_reducible refine Kd.C_alloc ?_ _) | (with_reducible refine Kd.C_drewN ?_ _) | (with_reducible refine Kd.C_drew ?_))); (case side2 => exact HC0_1.out); rintro e w6 ⟨rfl, hb⟩; refine ⟨_, rfl, ?_⟩; have n0_ := qbb BK473 hb; have n1_ := Aside0.mk (below_step (qw HB) hb); clear BK473; clear HB; have BK473 := n0_; have HB := n1_; clear n0_ n1_; (try clear hb); (try clear hb2); (try clear hk); (try clear hi)))
  go_ret
  exact ⟨by first | rfl | (simp [errW_none, errW_some] <;> rfl) | (simp [*, errW_none, errW_some] <;> rfl), qw HB⟩
 ·
  rw [if_neg c3] at H
  have c3b0 : decide (t474 < 0) = false := decide_eq_false c3
  clear c3
  replace H := Option.bind_eq_some_iff.mp H
  obtain ⟨⟨t475, t476⟩, A70, H⟩ := H
  replace H : ((spec_FirstSolution.f k t475 t476).bind fun bt479 => ((laws_toPuzzle.f k a0_0 l0_1).bind fun bt481 => ((impl_FirstSolution.f k bt481.1 bt481.2).bind fun bt486 => (if bt486.1.toList = bt479.1.toList then (if (bt486.2 != bt479.2) = true then (none) else ((laws_toPuzzle.f k a0_0 l0_1).bind fun bt488 => ((laws_eqPuzzle.f k bt481.1 bt481.2 bt488.1 bt488.2).bind fun t492 => (if t492 = true then (some true) else (none))))) else (none))))) = some r := H
  have A7 := Aside0.mk A70
  clear A70
  replace H := Option.bind_eq_some_iff.mp H
  obtain ⟨⟨t479, t480⟩, A80, H⟩ := H
  replace H : ((laws_toPuzzle.f k a0_0 l0_1).bind fun bt481 => ((impl_FirstSolution.f k bt481.1 bt481.2).bind fun bt486 => (if bt486.1.toList = t479.toList then (if (bt486.2 != t480) = true then (none) else ((laws_toPuzzle.f k a0_0 l0_1).bind fun bt488 => ((laws_eqPuzzle.f k bt481.1 bt481.2 bt488.1 bt488.2).bind fun t492 => (if t492 = true then (some true) else (none))))) else (none)))) = some r := H
  have A8 := Aside0.mk A80
  clear A80
  replace H := Option.bind_eq_some_iff.mp H
  obtain ⟨⟨t481, t482⟩, A90, H⟩ := H
  replace H : ((impl_FirstSolution.f k t481 t482).bind fun bt486 => (if bt486.1.toList = t479.toList then (if (bt486.2 != t480) = true then (none) else ((laws_toPuzzle.f k a0_0 l0_1).bind fun bt488 => ((laws_eqPuzzle.f k t481 t482 bt488.1 bt488.2).bind fun t492 => (if t492 = true then (some true) else (none))))) else (none))) = some r := H
  have A9 := Aside0.mk A90
  clear A90
  replace H := Option.bind_eq_some_iff.mp H
  obtain ⟨⟨t486, t487⟩, A100, H⟩ := H
  replace H : (if t486.toList = t479.toList then (if (t487 != t480) = true then (none) else ((laws_toPuzzle.f k a0_0 l0_1).bind fun bt488 => ((laws_eqPuzzle.f k t481 t482 bt488.1 bt488.2).bind fun t492 => (if t492 = true then (some true) else (none))))) else (none)) = some r := H
  have A10 := Aside0.mk A100
  clear A100
  by_cases c11 : t486.toList = t479.toList
  ·
   rw [if_pos c11] at H
   have c11b0 : (t486.toList == t479.toList) = true := beq_iff_eq.mpr c11
   have c11b1 : (t486.toList != t479.toList) = false := bne_eq_false_iff_eq.mpr c11
   clear c11
   by_cases c12 : (t487 != t480) = true
   ·
    rw [if_pos c12] at H
    exact absurd H (by simp)
   ·
    rw [if_neg c12] at H
    have c12b0 : (t487 != t480) = false := by simpa using c12
    (try (have c12b1 : decide (t487 = t480) = true := by simpa using c12))
    (try (have c12b2 : (t487 == t480) = true := by simpa using c12))
    clear c12
    replace H := Option.bind_eq_some_iff.mp H
    obtain ⟨⟨t488, t489⟩, A130, H⟩ := H
    replace H : ((laws_eqPuzzle.f k t481 t482 t488 t489).bind fun t492 => (if t492 = true then (some true) else (none))) = some r := H
    have A13 := Aside0.mk A130
    clear A130
    replace H := Option.bind_eq_some_iff.mp H
    obtain ⟨t492, A140, H⟩ := H
    replace H : (if t492 = true then (some true) else (none)) = some r := H
    have A14 := Aside0.mk A140
    clear A140
    by_cases c15 : t492 = true
    ·
     subst c15
     have H1 : (some true) = some r := by rw [if_pos rfl] at H; exact H
     clear H
     have H := H1
     clear H1
     obtain rfl := Option.some.inj H
     go_enter Tryz.func5, Tryz.ntmps5
     try go_wp2_with (first | ((with_reducible refine gate_dst (N := 1) rfl ?_); refine box_event ?hg (N := 1) ?hd (cs := #[.int .i64 a0_0, .slice A0_1 l0_1.length c0_1]) (t := 24) ?hr ?_; (case hd => rfl); (case hg => rfl); (case hr => first | (go_simp; done) | (go_simp; rfl)); intro gb473 hg w16 hbox hb; have n0_ := Aside0.mk (below_step (qw HB) hb); have n1_ := Aside0.mk (hbox); have n2_ := Aside0.mk ((by rw [hg]; exact (below_size (qw HB)) : w.heap.size ≤ gb473)); have n3_ := Aside0.mk ((by rw [hg]; exact (below_size (qw HB)) : w.heap.size ≤ gb473)); clear HB; have HB := n0_; have BK473 := n1_; have GW473 := n2_; have GE473 := n3_; clear n0_ n1_ n2_ n3_; clear hb hbox hg; have hcz17_0 : w16.cell? ⟨gb473, 0, none⟩ = some (.int .i64 a0_0) := bc BK473 0; have hcz17_1 : w16.cell? ⟨gb473, 1, none⟩ = some (.slice A0_1 l0_1.length c0_1) := bc BK473 1; have hfz17_0 := blk_frozen BK473.out 0; have hfz17_1 := blk_frozen BK473.out 1) | ((with_reducible refine gate_callee (f := 12) rfl ?_); refine goesL_ (some 11) rfl rfl Tryz.func12 (by kernel_rfl) rfl #[.agg #[.int .i64 a0_0, .slice A0_1 l0_1.length c0_1], .int .i64 1048576] rfl (by (try simp only [List.map_toArray, List.map_cons, List.map_nil]); first | done | rfl | (simp only [List.length_drop, List.length_take]; rfl)) ?_; (with_reducible refine (laws_szPuzzle.calls a0_0 _ _ l0_1 1048576 t474 _ ?side1 ?side2 A2.out).mono ?_); (case side1 => repeat (first | exact (Kd.C_below HR0_1.out HB.out) | (with_reducible refine Kd.C_alloc ?_ _) | (with_reducible refine Kd.C_drewN ?_ _) | (with_reducible refine Kd.C_drew ?_))); (case side2 => exact HC0_1.out); rintro e w18 ⟨rfl, hb⟩; refine ⟨_, rfl, ?_⟩; have n0_ := qbb BK473 hb; have n1_ := Aside0.mk (below_step (qw HB) hb); clear BK473; clear HB; have BK473 := n0_; have HB := n1_; clear n0_ n1_; (try clear hb); (try clear hb2); (try clear hk); (try clear hi); have hcz19_0 : w18.cell? ⟨gb473, 0, none⟩ = some (.int .i64 a0_0) := bc BK473 0; have hcz19_1 : w18.cell? ⟨gb473, 1, none⟩ = some (.slice A0_1 l0_1.length c0_1) := bc BK473 1; have hfz19_0 := blk_frozen BK473.out 0; have hfz19_1 := blk_frozen BK473.out 1) | ((with_reducible refine gate_callee (f := 14) rfl ?_); refine goesL_ (some 16) rfl rfl Tryz.func14 (by kernel_rfl) rfl #[.agg #[.int .i64 a0_0, .slice A0_1 l0_1.length c0_1]] rfl (by (try simp only [List.map_toArray, List.map_cons, List.map_nil]); first | done | rfl | (simp only [List.length_drop, List.length_take]; rfl)) ?_; (with_reducible refine (laws_toPuzzle.calls k a0_0 _ _ l0_1 t475 t476 _ ?side1 ?side2 A7.out).mono ?_); (case side1 => repeat (first | exact (Kd.C_below HR0_1.out HB.out) | (with_reducible refine Kd.C_alloc ?_ _) | (with_reducible refine Kd.C_drewN ?_ _) | (with_reducible refine Kd.C_drew ?_))); (case side2 => exact HC0_1.out); rintro e w20 ⟨v477, rfl, ho0, hb⟩; refine ⟨_, rfl, ?_⟩; have n0_ := Aside0.mk (Kd.R_lower ho0 (below_size (qw HB))); have n1_ := qbb BK473 hb; have n2_ := Aside0.mk (below_step (qw HB) hb); clear BK473; clear HB; have HO478 := n0_; have BK473 := n1_; have HB := n2_; clear n0_ n1_ n2_; (try clear hb); (try clear hb2); (try clear hk); (try clear hi); (try clear ho0); obtain ⟨Ao21, co21, eo21⟩ := Kd.R_slice HO478.out; subst eo21) | ((with_reducible refine gate_callee (f := 19) rfl ?_); refine goesL_ (some 17) rfl rfl Tryz.func19 (by kernel_rfl) rfl #[.agg #[.int .i64 t475, .slice Ao21 t476.length co21]] rfl (by (try simp only [List.map_toArray, List.map_cons, List.map_nil]); first | done | rfl | (simp only [List.length_drop, List.length_take]; rfl)) ?_; (with_reducible refine (spec_FirstSolution.calls k t475 _ _ t476 t479 t480 _ ?side1 ?side2 A8.out).mono ?_); (case side1 => repeat (first | exact (Kd.R_reads' HO478.out).2.2 | (with_reducible refine Kd.C_alloc ?_ _) | (with_reducible refine Kd.C_drewN ?_ _) | (with_reducible refine Kd.C_drew ?_))); (case side2 => exact (Kd.R_reads' HO478.out).2.1); rintro e w22 ⟨rfl, hb⟩; refine ⟨_, rfl, ?_⟩; have n0_ := Aside0.mk (Kd.R_below (qr HO478.out) hb); have n1_ := qbb BK473 hb; have n2_ := Aside0.mk (below_step (qw HB) hb); clear HO478; clear BK473; clear HB; have HO478 := n0_; have BK473 := n1_; have HB := n2_; clear n0_ n1_ n2_; (try clear hb); (try clear hb2); (try clear hk); (try clear hi); have hcz23_0 : w22.cell? ⟨gb473, 0, none⟩ = some (.int .i64 a0_0) := bc BK473 0; have hcz23_1 : w22.cell? ⟨gb473, 1, none⟩ = some (.slice A0_1 l0_1.length c0_1) := bc BK473 1; have hfz23_0 := blk_frozen BK473.out 0; have hfz23_1 := blk_frozen BK473.out 1) | ((with_reducible refine gate_callee (f := 14) rfl ?_); refine goesL_ (some 21) rfl rfl Tryz.func14 (by kernel_rfl) rfl #[.agg #[.int .i64 a0_0, .slice A0_1 l0_1.length c0_1]] rfl (by (try simp only [List.map_toArray, List.map_cons, List.map_nil]); first | done | rfl | (simp only [List.length_drop, List.length_take]; rfl)) ?_; (with_reducible refine (laws_toPuzzle.calls k a0_0 _ _ l0_1 t481 t482 _ ?side1 ?side2 A9.out).mono ?_); (case side1 => repeat (first | exact (Kd.C_below HR0_1.out HB.out) | (with_reducible refine Kd.C_alloc ?_ _) | (with_reducible refine Kd.C_drewN ?_ _) | (with_reducible refine Kd.C_drew ?_))); (case side2 => exact HC0_1.out); rintro e w24 ⟨v483, rfl, ho0, hb⟩; refine ⟨_, rfl, ?_⟩; have n0_ := Aside0.mk (Kd.R_elder' (qr HO478.out) (Kd.R_base ho0) hb); have n1_ := Aside0.mk (Kd.R_lower (Kd.R_new' ho0 (Kd.R_lt (qr HO478.out))) (below_size (qw HB))); have n2_ := qbb BK473 hb; have n3_ := Aside0.mk (below_step (qw HB) hb); clear HO478; clear BK473; clear HB; have HO478 := n0_; have HO484 := n1_; have BK473 := n2_; have HB := n3_; clear n0_ n1_ n2_ n3_; (try clear hb); (try clear hb2); (try clear hk); (try clear hi); (try clear ho0)) | ((with_reducible refine gate_dst (N := 6) rfl ?_); refine box_event ?hg (N := 6) ?hd (cs := #[.int .i64 0, .slice none 0 0]) (t := 30) ?hr ?_; (case hd => rfl); (case hg => rfl); (case hr => first | (go_simp; done) | (go_simp; rfl)); intro gb485 hg w25 hbox hb; have n0_ := Aside0.mk (Kd.R_below (qr HO478.out) hb); have n1_ := Aside0.mk (Kd.R_below (qr HO484.out) hb); have n2_ := qbb BK473 hb; have n3_ := Aside0.mk (below_step (qw HB) hb); have n4_ := Aside0.mk (hbox); have n5_ := Aside0.mk ((by rw [hg]; exact (below_size (qw HB)) : w.heap.size ≤ gb485)); have n6_ := Aside0.mk ((by rw [hg]; exact (below_size (qw HB)) : w.heap.size ≤ gb485)); have n7_ := Aside0.mk ((by rw [hg]; exact Nat.ne_of_lt (blk_lt (qb BK473)) : gb473 ≠ gb485)); have n8_ := Aside0.mk ((by rw [hg]; exact Nat.ne_of_gt (blk_lt (qb BK473)) : gb485 ≠ gb473)); clear HO478; clear HO484; clear BK473; clear HB; have HO478 := n0_; have HO484 := n1_; have BK473 := n2_; have HB := n3_; have BK485 := n4_; have GW485 := n5_; have GE485 := n6_; have NB473_485 := n7_; have NB485_473 := n8_; clear n0_ n1_ n2_ n3_ n4_ n5_ n6_ n7_ n8_; clear hb hbox hg; have hnb26 := NB485_473.out; have hnc26 := NB473_485.out; have hcz27_0 : w25.cell? ⟨gb485, 0, none⟩ = some (.int .i64 0) := bc BK485 0; have hcz27_1 : w25.cell? ⟨gb485, 1, none⟩ = some (.slice none 0 0) := bc BK485 1; have hfz27_0 := blk_frozen BK485.out 0; have hfz27_1 := blk_frozen BK485.out 1; obtain ⟨Ao28, co28, eo28⟩ := Kd.R_slice HO484.out; subst eo28) | ((with_reducible refine gate_callee (f := 20) rfl ?_); refine goesL_ (some 24) rfl rfl Tryz.func20 (by kernel_rfl) rfl #[.agg #[.int .i64 t481, .slice Ao28 t482.length co28]] rfl (by (try simp only [List.map_toArray, List.map_cons, List.map_nil]); first | done | rfl | (simp only [List.length_drop, List.length_take]; rfl)) ?_; (with_reducible refine (impl_FirstSolution.calls k t481 _ _ t482 t486 t487 _ ?side1 ?side2 A10.out).mono ?_); (case side1 => refine (Kd.R_reads' (e := 65) (base := w.heap.size) (ok := fun k_ => (True ∧ some k_ ≠ (.slice Ao21 t476.length co21 : Value).ownBlock)) (n := t482.length) (c := co28) ?_).2.2; exact (qr (Kd.R_mono (Kd.R_far (p := ⟨gb485, 1, none⟩) (Kd.R_far (p := ⟨gb485, 0, none⟩) (Kd.R_types HO484.out BK485.out (by decide)) (fun _ hk => hk.2) (.int .i64 t481)) (fun _ hk => hk.2) (.slice Ao28 t482.length co28)) (fun _ h_ => h_.1)))); (case side2 => exact (Kd.R_reads' HO484.out).2.1); rintro e w29 ⟨rfl, hb⟩; refine ⟨_, rfl, ?_⟩; have n0_ := Aside0.mk (Kd.R_below (qr (Kd.R_mono (Kd.R_far (p := ⟨gb485, 1, none⟩) (Kd.R_far (p := ⟨gb485, 0, none⟩) (Kd.R_types HO478.out BK485.out (by decide)) (fun _ hk => hk.2) (.int .i64 t481)) (fun _ hk => hk.2) (.slice Ao28 t482.length co28)) (fun _ h_ => h_.1))) hb); have n1_ := Aside0.mk (Kd.R_below (qr (Kd.R_mono (Kd.R_far (p := ⟨gb485, 1, none⟩) (Kd.R_far (p := ⟨gb485, 0, none⟩) (Kd.R_types HO484.out BK485.out (by decide)) (fun _ hk => hk.2) (.int .i64 t481)) (fun _ hk => hk.2) (.slice Ao28 t482.length co28)) (fun _ h_ => h_.1))) hb); have n2_ := Aside0.mk (blk_below (g := gb473) (o := .cells #[.int .i64 a0_0, .slice A0_1 l0_1.length c0_1] 24 (0, 0)) (by (with_reducible repeat (first | refine blk_drewN ?_ _ | refine blk_drew ?_ | refine blk_alloc ?_ _)); refine blk_far ?_ NB473_485.out _; (with_reducible repeat (first | refine blk_drewN ?_ _ | refine blk_drew ?_ | refine blk_alloc ?_ _)); refine blk_far ?_ NB473_485.out _; (with_reducible repeat (first | refine blk_drewN ?_ _ | refine blk_drew ?_ | refine blk_alloc ?_ _)); exact BK473.out) hb); have n3_ := Aside0.mk (blk_below (g := gb485) (o := .cells #[.int .i64 t481, .slice Ao28 t482.length co28] 30 (0, 0)) (by (with_reducible repeat (first | refine blk_drewN ?_ _ | refine blk_drew ?_ | refine blk_alloc ?_ _)); refine blk_put (cs := #[.int .i64 t481, .slice none 0 0]) ?_ 1 _ rfl; (with_reducible repeat (first | refine blk_drewN ?_ _ | refine blk_drew ?_ | refine blk_alloc ?_ _)); refine blk_put (cs := #[.int .i64 0, .slice none 0 0]) ?_ 0 _ rfl; (with_reducible repeat (first | refine blk_drewN ?_ _ | refine blk_drew ?_ | refine blk_alloc ?_ _)); exact BK485.out) hb); have n4_ := Aside0.mk (below_step (qw HB) hb); clear HO478; clear HO484; clear BK473; clear BK485; clear HB; have HO478 := n0_; have HO484 := n1_; have BK473 := n2_; have BK485 := n3_; have HB := n4_; clear n0_ n1_ n2_ n3_ n4_; (try clear hb); (try clear hb2); (try clear hk); (try clear hi)))
     have n0_ := Aside0.mk (Kd.R_drew HO478.out)
     have n1_ := Aside0.mk (Kd.R_drew HO484.out)
     have n2_ := Aside0.mk (blk_drew BK473.out)
     have n3_ := Aside0.mk (blk_drew BK485.out)
     have n4_ := Aside0.mk (below_drew1 HB.out)
     clear HO478
     clear HO484
     clear BK473
     clear BK485
     clear HB
     have HO478 := n0_
     have HO484 := n1_
     have BK473 := n2_
     have BK485 := n3_
     have HB := n4_
     clear n0_ n1_ n2_ n3_ n4_
     refine start_ (n := 5) (S := fun w' => w'.cell? ⟨gb485, 0, none⟩ = some (.int .i64 t481) ∧ w'.cell? ⟨gb485, 1, none⟩ = some (.slice Ao28 t482.length co28) ∧ w'.cell? ⟨gb473, 0, none⟩ = some (.int .i64 a0_0) ∧ w'.cell? ⟨gb473, 1, none⟩ = some (.slice A0_1 l0_1.length c0_1)) (ds := []) #[false, false, false, false, false] (by kernel_rfl) rfl rfl ⟨bc BK485 0, bc BK485 1, bc BK473 0, bc BK473 1⟩ (fun hHeld => ?_)
     generalize w29.drew = w30 at HO478 HO484 BK473 BK485 HB hHeld ⊢
     refine take_ (i := 0) (N := some 35) (v := ?_) (a' := ?_) #[true, false, false, false, false] rfl rfl (by kernel_rfl) (fun _ _ _ h => h) (Or.inl ⟨by rfl, ?_⟩) hHeld ?_ ?_
     rotate_left
     ·
      rintro w' ⟨s0, s1, s2, s3⟩
      go_simp
      with_reducible rfl
     rotate_left
     ·
      simp only [Act.put, List.setIfInBounds_toArray, List.set_cons_zero, List.set_cons_succ, i64_w, i32_w]
      rfl
     refine take_ (i := 1) (N := some 36) (v := ?_) (a' := ?_) #[true, true, false, false, false] rfl rfl (by kernel_rfl) (fun _ _ _ h => h) (Or.inl ⟨by rfl, ?_⟩) hHeld ?_ ?_
     rotate_left
     ·
      rintro w' ⟨s0, s1, s2, s3⟩
      go_simp
      with_reducible rfl
     rotate_left
     ·
      simp only [Act.put, List.setIfInBounds_toArray, List.set_cons_zero, List.set_cons_succ, i64_w, i32_w]
      rfl
     refine one_ (i := 2) (N := some 37) #[true, true, true, false, false] rfl rfl (by kernel_rfl) (by decide) (fun K hK => ?_)
     refine goes_ Tryz.func14 (by kernel_rfl) rfl #[.agg #[.int .i64 a0_0, .slice A0_1 l0_1.length c0_1]] (by rfl) rfl rfl (by (try simp only [List.map_toArray, List.map_cons, List.map_nil]); first | done | rfl | (simp only [List.length_drop, List.length_take]; rfl)) ?_
     with_reducible refine (laws_toPuzzle.calls k a0_0 _ _ l0_1 t488 t489 _ ?side1 ?side2 A13.out).mono ?_
     (case side1 => repeat (first | exact (Kd.C_below HR0_1.out HB.out) | (with_reducible refine Kd.C_alloc ?_ _) | (with_reducible refine Kd.C_drewN ?_ _) | (with_reducible refine Kd.C_drew ?_)))
     (case side2 => exact HC0_1.out)
     rintro e w31 ⟨v490, rfl, ho0, hb⟩
     refine ⟨_, rfl, ?_⟩
     have n0_ := Aside0.mk (Kd.R_elder' (qr HO478.out) (Kd.R_base ho0) hb)
     have n1_ := Aside0.mk (Kd.R_elder' (qr HO484.out) (Kd.R_base ho0) hb)
     have n2_ := Aside0.mk (Kd.R_lower (Kd.R_new' (Kd.R_new' ho0 (Kd.R_lt (qr HO478.out))) (Kd.R_lt (qr HO484.out))) (below_size (qw HB)))
     have n3_ := qbb BK473 hb
     have n4_ := qbb BK485 hb
     have n5_ := Aside0.mk (below_step (qw HB) hb)
     clear HO478
     clear HO484
     clear BK473
     clear BK485
     clear HB
     have HO478 := n0_
     have HO484 := n1_
     have HO491 := n2_
     have BK473 := n3_
     have BK485 := n4_
     have HB := n5_
     clear n0_ n1_ n2_ n3_ n4_ n5_
     (try clear hb)
     (try clear hb2)
     (try clear hk)
     (try clear hi)
     (try clear ho0)
     obtain ⟨Ao32, co32, eo32⟩ := Kd.R_slice HO491.out
     (first | subst eo32 | (injection eo32 with f1_ f2_ f3_; have f4_ := f1_.symm; have f5_ := f3_.symm; clear f1_ f2_ f3_; subst f4_; subst f5_))
     refine hK.out _ _ ⟨bc BK485 0, bc BK485 1, bc BK473 0, bc BK473 1⟩ (fun hHeld => ?_)
     clear hK K
     refine norm_ (a' := ?_) ?_ ?_
     rotate_left
     ·
      show Act.put _ (some 37) _ = _
      simp only [Act.put, List.setIfInBounds_toArray, List.set_cons_zero, List.set_cons_succ, i64_w, i32_w]
      rfl
     refine one_ (i := 3) (N := some 38) #[true, true, true, true, false] rfl rfl (by kernel_rfl) (by decide) (fun K hK => ?_)
     refine goes_ Tryz.func16 (by kernel_rfl) rfl #[.agg #[.int .i64 t481, .slice Ao28 t482.length co28], .agg #[.int .i64 t488, .slice Ao32 t489.length co32]] (by rfl) rfl rfl (by (try simp only [List.map_toArray, List.map_cons, List.map_nil]); first | done | rfl | (simp only [List.length_drop, List.length_take]; rfl)) ?_
     with_reducible refine (laws_eqPuzzle.calls k t481 _ _ t482 t488 _ _ t489 true _ ?side1 ?side2 ?side3 ?side4 A14.out).mono ?_
     (case side1 => repeat (first | exact (Kd.R_reads' HO484.out).2.2 | (with_reducible refine Kd.C_alloc ?_ _) | (with_reducible refine Kd.C_drewN ?_ _) | (with_reducible refine Kd.C_drew ?_)))
     (case side2 => exact (Kd.R_reads' HO484.out).2.1)
     (case side3 => repeat (first | exact (Kd.R_reads' HO491.out).2.2 | (with_reducible refine Kd.C_alloc ?_ _) | (with_reducible refine Kd.C_drewN ?_ _) | (with_reducible refine Kd.C_drew ?_)))
     (case side4 => exact (Kd.R_reads' HO491.out).2.1)
     rintro e w33 ⟨rfl, hb⟩
     refine ⟨_, rfl, ?_⟩
     have n0_ := Aside0.mk (Kd.R_below (qr HO478.out) hb)
     have n1_ := Aside0.mk (Kd.R_below (qr HO484.out) hb)
     have n2_ := Aside0.mk (Kd.R_below (qr HO491.out) hb)
     have n3_ := qbb BK473 hb
     have n4_ := qbb BK485 hb
     have n5_ := Aside0.mk (below_step (qw HB) hb)
     clear HO478
     clear HO484
     clear HO491
     clear BK473
     clear BK485
     clear HB
     have HO478 := n0_
     have HO484 := n1_
     have HO491 := n2_
     have BK473 := n3_
     have BK485 := n4_
     have HB := n5_
     clear n0_ n1_ n2_ n3_ n4_ n5_
     (try clear hb)
     (try clear hb2)
     (try clear hk)
     (try clear hi)
     refine hK.out _ _ ⟨bc BK485 0, bc BK485 1, bc BK473 0, bc BK473 1⟩ (fun hHeld => ?_)
     clear hK K
     refine norm_ (a' := ?_) ?_ ?_
     rotate_left
     ·
      show Act.put _ (some 38) _ = _
      simp only [Act.put, List.setIfInBounds_toArray, List.set_cons_zero, List.set_cons_succ, i64_w, i32_w]
      rfl
     refine pure_ (i := 4) (N := some 39) (v := ?_) (a' := ?_) #[true, true, true, true, true] rfl rfl (by kernel_rfl) (fun _ _ _ h => h) (Or.inl ⟨by rfl, ?_⟩) ?_ ?_
     rotate_left
     ·
      intro w'
      go_simp
      with_reducible rfl
     rotate_left
     ·
      simp only [Act.put, List.setIfInBounds_toArray, List.set_cons_zero, List.set_cons_succ, i64_w, i32_w]
      rfl
     refine done_ (by kernel_rfl) ?_
     try go_wp2
     go_ret
     exact ⟨by first | rfl | (simp [errW_none, errW_some] <;> rfl) | (simp [*, errW_none, errW_some] <;> rfl), qw HB⟩
    ·
     replace c15 := Bool.eq_false_iff.mpr c15
     subst c15
     have H1 : (none) = some r := by rw [if_neg (show ¬ (false = true) by decide)] at H; exact H
     clear H
     have H := H1
     clear H1
     exact absurd H (by simp)
  ·
   rw [if_neg c11] at H
   exact absurd H (by simp)

end Go.Proofs.YtbgkaabbpdhhlaaGreatDoor.PA
