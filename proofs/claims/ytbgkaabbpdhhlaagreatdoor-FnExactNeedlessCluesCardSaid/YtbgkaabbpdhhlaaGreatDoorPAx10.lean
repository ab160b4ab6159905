-- printed by xprint.py: the kit's print.py with given contracts
import Derived.Test.YtbgkaabbpdhhlaaGreatDoorPAx0
import Derived.Test.YtbgkaabbpdhhlaaGreatDoorPAx1
import Derived.Test.YtbgkaabbpdhhlaaGreatDoorPAx7
import Derived.Test.YtbgkaabbpdhhlaaGreatDoorPAx9
namespace Go.Proofs.YtbgkaabbpdhhlaaGreatDoor.PA
open Go.RowKit Go.Proofs.YtbgkaabbpdhhlaaGreatDoorW.PrintWords Go.Proofs.YtbgkaabbpdhhlaaGreatDoorW.PrintLast Go.Proofs.YtbgkaabbpdhhlaaGreatDoorW.PrintMore
attribute [local go_sem] max2_int min2_int max_two min_two max_three min_three max_four min_four   -- for this text's walks alone
set_option linter.unusedVariables false
set_option linter.unusedSimpArgs false

/-! ### laws_FnExactNeedlessClues: function 10 -/
theorem laws_FnExactNeedlessClues.kq {P Q : Nat → Prop} (h : ∀ k, P k → Q k := by (intro k_ hk_; revert hk_; (try simp only [and_imp, ne_eq]); intros; first | trivial | assumption | exact ⟨by assumption, by assumption⟩ | exact ⟨by assumption, by assumption, by assumption⟩ | exact ⟨⟨by assumption, by assumption⟩, by assumption⟩)) : ∀ k, P k → Q k := h
theorem laws_FnExactNeedlessClues.ks {P Q : Nat → Prop} (h : ∀ k, P k → Q k → False := by (intro k_ hk_ hs_; revert hs_ hk_; (try simp only [and_imp, ne_eq]); intros; first | contradiction | (exfalso; simp_all))) : ∀ k, P k → Q k → False := h
def laws_FnExactNeedlessClues.f (k : Nat) (a0_0 : Int) (l0_1 : List (S72)) : Option (Bool) := (laws_szPuzzle.f a0_0 l0_1 1048576).bind fun t385 => (if t385 < 0 then (some true) else ((laws_toPuzzle.f k a0_0 l0_1).bind fun bt386 => ((spec_NeedlessClues.f k bt386.1 bt386.2).bind fun bt390 => ((laws_toPuzzle.f k a0_0 l0_1).bind fun bt394 => ((impl_NeedlessClues.f k bt394.1 bt394.2).bind fun bt399 => ((laws_eqIntS.f k bt399.1 bt390.1).bind fun t403 => (if t403 = true then (if (bt399.2 != bt390.2) = true then (none) else ((laws_toPuzzle.f k a0_0 l0_1).bind fun bt404 => ((laws_eqPuzzle.f k bt394.1 bt394.2 bt404.1 bt404.2).bind fun t408 => (if t408 = true then ((laws_markPuzzle.f k bt394.1 bt394.2 1).bind fun bt409 => (if bt409.1 < 0 then (none) else ((laws_eqIntS.f k bt399.1 bt390.1).bind fun t411 => (if t411 = true then ((laws_markIntS.f k bt399.1 1).bind fun bt412 => ((laws_heldIntS.f k bt412.2 1).bind fun t414 => (if t414 < 0 then (none) else (if t414 = bt412.1 then ((laws_toPuzzle.f k a0_0 l0_1).bind fun bt415 => ((impl_NeedlessClues.f k bt415.1 bt415.2).bind fun bt419 => ((laws_eqIntS.f k bt419.1 bt390.1).bind fun t423 => (if t423 = true then (if (bt419.2 != bt390.2) = true then (none) else ((laws_heldIntS.f k bt412.2 1).bind fun t424 => (if t424 < 0 then (none) else (if t424 = bt412.1 then (some true) else (none))))) else (none))))) else (none))))) else (none))))) else (none))))) else (none))))))))
theorem laws_FnExactNeedlessClues.mono : ∀ a0 a1 k, LeO (laws_FnExactNeedlessClues.f k a0 a1) (laws_FnExactNeedlessClues.f (k + 1) a0 a1) := by
 intro a0 a1 k
 unfold laws_FnExactNeedlessClues.f
 repeat' first
   | (with_reducible exact impl_NeedlessClues.mono _ _ _)
   | (with_reducible exact laws_eqIntS.mono _ _ _)
   | (with_reducible exact laws_eqPuzzle.mono _ _ _ _ _)
   | (with_reducible exact laws_heldIntS.mono _ _ _)
   | (with_reducible exact laws_markIntS.mono _ _ _)
   | (with_reducible exact laws_markPuzzle.mono _ _ _ _)
   | (with_reducible exact laws_toPuzzle.mono _ _ _)
   | (with_reducible exact spec_NeedlessClues.mono _ _ _)
   | (with_reducible exact LeO.refl _)
   | (with_reducible exact LeO.none _)
   | (with_reducible refine LeO.ite ?_ ?_)
   | (with_reducible refine LeO.bind ?_ (fun _ => ?_))
   | exact impl_NeedlessClues.mono _ _ _
   | exact laws_eqIntS.mono _ _ _
   | exact laws_eqPuzzle.mono _ _ _ _ _
   | exact laws_heldIntS.mono _ _ _
   | exact laws_markIntS.mono _ _ _
   | exact laws_markPuzzle.mono _ _ _ _
   | exact laws_toPuzzle.mono _ _ _
   | exact spec_NeedlessClues.mono _ _ _
   | exact LeO.none _
   | refine LeO.ite ?_ ?_
   | refine LeO.bind ?_ (fun _ => ?_)
set_option maxHeartbeats 8000000 in
set_option maxRecDepth 100000 in
theorem laws_FnExactNeedlessClues.calls (k : Nat) (a0_0 : Int) (A0_1 : Option Addr) (c0_1 : Nat) (l0_1 : List (S72)) (r : Bool) (w : World) (hr0_1 : Kd.C k72 w A0_1 l0_1.length l0_1) (hc0_1 : l0_1.length ≤ c0_1) (h : laws_FnExactNeedlessClues.f k a0_0 l0_1 = some r) (hglob : Glob w := by first | exact Glob.below HG.out (by repeat (first | (with_reducible first | exact HB.out | apply below_alloc | apply pw_below_drewN | apply below_drew1 | refine below_set ?_ (Aside0.out (by assumption))) | exact HB.out)) | assumption) :
  Calls Tryz.prog 10 #[.agg #[.int .i64 a0_0, .slice A0_1 l0_1.length c0_1]] w fun e w' => e = .returned (.bool r) ∧ Below w.heap.size w w' := by
 have HG := Aside0.mk hglob
 clear hglob
 have hu24 := Tryz.underlying24
 have hu30 := Tryz.underlying30
 have HR0_1 := Aside0.mk hr0_1
 have HC0_1 := Aside0.mk hc0_1
 clear hr0_1 hc0_1
 have HB := Aside0.mk (Below.refl w.heap.size w)
 have H : ((laws_szPuzzle.f a0_0 l0_1 1048576).bind fun t385 => (if t385 < 0 then (some true) else ((laws_toPuzzle.f k a0_0 l0_1).bind fun bt386 => ((spec_NeedlessClues.f k bt386.1 bt386.2).bind fun bt390 => ((laws_toPuzzle.f k a0_0 l0_1).bind fun bt394 => ((impl_NeedlessClues.f k bt394.1 bt394.2).bind fun bt399 => ((laws_eqIntS.f k bt399.1 bt390.1).bind fun t403 => (if t403 = true then (if (bt399.2 != bt390.2) = true then (none) else ((laws_toPuzzle.f k a0_0 l0_1).bind fun bt404 => ((laws_eqPuzzle.f k bt394.1 bt394.2 bt404.1 bt404.2).bind fun t408 => (if t408 = true then ((laws_markPuzzle.f k bt394.1 bt394.2 1).bind fun bt409 => (if bt409.1 < 0 then (none) else ((laws_eqIntS.f k bt399.1 bt390.1).bind fun t411 => (if t411 = true then ((laws_markIntS.f k bt399.1 1).bind fun bt412 => ((laws_heldIntS.f k bt412.2 1).bind fun t414 => (if t414 < 0 then (none) else (if t414 = bt412.1 then ((laws_toPuzzle.f k a0_0 l0_1).bind fun bt415 => ((impl_NeedlessClues.f k bt415.1 bt415.2).bind fun bt419 => ((laws_eqIntS.f k bt419.1 bt390.1).bind fun t423 => (if t423 = true then (if (bt419.2 != bt390.2) = true then (none) else ((laws_heldIntS.f k bt412.2 1).bind fun t424 => (if t424 < 0 then (none) else (if t424 = bt412.1 then (some true) else (none))))) else (none))))) else (none))))) else (none))))) else (none))))) else (none))))))))) = some r := h
 clear h
 replace H := Option.bind_eq_some_iff.mp H
 obtain ⟨t385, A20, H⟩ := H
 replace H : (if t385 < 0 then (some true) else ((laws_toPuzzle.f k a0_0 l0_1).bind fun bt386 => ((spec_NeedlessClues.f k bt386.1 bt386.2).bind fun bt390 => ((laws_toPuzzle.f k a0_0 l0_1).bind fun bt394 => ((impl_NeedlessClues.f k bt394.1 bt394.2).bind fun bt399 => ((laws_eqIntS.f k bt399.1 bt390.1).bind fun t403 => (if t403 = true then (if (bt399.2 != bt390.2) = true then (none) else ((laws_toPuzzle.f k a0_0 l0_1).bind fun bt404 => ((laws_eqPuzzle.f k bt394.1 bt394.2 bt404.1 bt404.2).bind fun t408 => (if t408 = true then ((laws_markPuzzle.f k bt394.1 bt394.2 1).bind fun bt409 => (if bt409.1 < 0 then (none) else ((laws_eqIntS.f k bt399.1 bt390.1).bind fun t411 => (if t411 = true then ((laws_markIntS.f k bt399.1 1).bind fun bt412 => ((laws_heldIntS.f k bt412.2 1).bind fun t414 => (if t414 < 0 then (none) else (if t414 = bt412.1 then ((laws_toPuzzle.f k a0_0 l0_1).bind fun bt415 => ((impl_NeedlessClues.f k bt415.1 bt415.2).bind fun bt419 => ((laws_eqIntS.f k bt419.1 bt390.1).bind fun t423 => (if t423 = true then (if (bt419.2 != bt390.2) = true then (none) else ((laws_heldIntS.f k bt412.2 1).bind fun t424 => (if t424 < 0 then (none) else (if t424 = bt412.1 then (some true) else (none))))) else (none))))) else (none))))) else (none))))) else (none))))) else (none)))))))) = some r := H
 have A2 := Aside0.mk A20
 clear A20
 by_cases c3 : t385 < 0
 ·
  rw [if_pos c3] at H
  have c3b0 : decide (t385 < 0) = true := decide_eq_true c3
  clear c3
  obtain rfl := Option.some.inj H
  go_enter Tryz.func10, Tryz.ntmps10
  go_wp2_with (first | ((with_reducible refine gate_dst (N := 1) rfl ?_); refine box_event ?hg (N := 1) ?hd (cs := #[.int .i64 a0_0, .slice A0_1 l0_1.length c0_1]) (t := 24) ?hr ?_; (case hd => rfl); (case hg => rfl); (case hr => first | (go_simp; done) | (go_simp; rfl)); intro gb384 hg w4 hbox hb; have n0_ := Aside0.mk (below_step (qw HB) hb); have n1_ := Aside0.mk (hbox); have n2_ := Aside0.mk ((by rw [hg]; exact (below_size (qw HB)) : w.heap.size ≤ gb384)); have n3_ := Aside0.mk ((by rw [hg]; exact (below_size (qw HB)) : w.heap.size ≤ gb384)); clear HB; have HB := n0_; have BK384 := n1_; have GW384 := n2_; have GE384 := n3_; clear n0_ n1_ n2_ n3_; clear hb hbox hg; have hcz5_0 : w4.cell? ⟨gb384, 0, none⟩ = some (.int .i64 a0_0) := bc BK384 0; have hcz5_1 : w4.cell? ⟨gb384, 1, none⟩ = some (.slice A0_1 l0_1.length c0_1) := bc BK384 1; have hfz5_0 := blk_frozen BK384.out 0; have hfz5_1 := blk_frozen BK384.out 1) | ((with_reducible refine gate_callee (f := 12) rfl ?_); refine goesL_ (some 16) rfl rfl Tryz.func12 (by kernel_rfl) rfl #[.agg #[.int .i64 a0_0, .slice A0_1 l0_1.length c0_1], .int .i64 1048576] rfl (by (try simp only [List.map_toArray, List.map_cons, List.map_nil]); first | done | rfl | (simp only [List.length_drop, List.length_take]; rfl)) ?_; (with_reducible refine (laws_szPuzzle.calls a0_0 _ _ l0_1 1048576 t385 _ ?side1 ?side2 A2.out).mono ?_); (case side1 => repeat (first | exact (Kd.C_below HR0_1.out HB.out) | (with_reducible refine Kd.C_alloc ?_ _) | (with_reducible refine Kd.C_drewN ?_ _) | (with_reducible refine Kd.C_drew ?_))); (case side2 => exact HC0_1.out); rintro e w6 ⟨rfl, hb⟩; refine ⟨_, rfl, ?_⟩; have n0_ := qbb BK384 hb; have n1_ := Aside0.mk (below_step (qw HB) hb); clear BK384; clear HB; have BK384 := n0_; have HB := n1_; clear n0_ n1_; (try clear hb); (try clear hb2); (try clear hk); (try clear hi)))
  go_ret
  exact ⟨by first | rfl | (simp [errW_none, errW_some] <;> rfl) | (simp [*, errW_none, errW_some] <;> rfl), qw HB⟩
 ·
  rw [if_neg c3] at H
  have c3b0 : decide (t385 < 0) = false := decide_eq_false c3
  clear c3
  replace H := Option.bind_eq_some_iff.mp H
  obtain ⟨⟨t386, t387⟩, A70, H⟩ := H
  replace H : ((spec_NeedlessClues.f k t386 t387).bind fun bt390 => ((laws_toPuzzle.f k a0_0 l0_1).bind fun bt394 => ((impl_NeedlessClues.f k bt394.1 bt394.2).bind fun bt399 => ((laws_eqIntS.f k bt399.1 bt390.1).bind fun t403 => (if t403 = true then (if (bt399.2 != bt390.2) = true then (none) else ((laws_toPuzzle.f k a0_0 l0_1).bind fun bt404 => ((laws_eqPuzzle.f k bt394.1 bt394.2 bt404.1 bt404.2).bind fun t408 => (if t408 = true then ((laws_markPuzzle.f k bt394.1 bt394.2 1).bind fun bt409 => (if bt409.1 < 0 then (none) else ((laws_eqIntS.f k bt399.1 bt390.1).bind fun t411 => (if t411 = true then ((laws_markIntS.f k bt399.1 1).bind fun bt412 => ((laws_heldIntS.f k bt412.2 1).bind fun t414 => (if t414 < 0 then (none) else (if t414 = bt412.1 then ((laws_toPuzzle.f k a0_0 l0_1).bind fun bt415 => ((impl_NeedlessClues.f k bt415.1 bt415.2).bind fun bt419 => ((laws_eqIntS.f k bt419.1 bt390.1).bind fun t423 => (if t423 = true then (if (bt419.2 != bt390.2) = true then (none) else ((laws_heldIntS.f k bt412.2 1).bind fun t424 => (if t424 < 0 then (none) else (if t424 = bt412.1 then (some true) else (none))))) else (none))))) else (none))))) else (none))))) else (none))))) else (none)))))) = some r := H
  have A7 := Aside0.mk A70
  clear A70
  replace H := Option.bind_eq_some_iff.mp H
  obtain ⟨⟨t390, t393⟩, A80, H⟩ := H
  replace H : ((laws_toPuzzle.f k a0_0 l0_1).bind fun bt394 => ((impl_NeedlessClues.f k bt394.1 bt394.2).bind fun bt399 => ((laws_eqIntS.f k bt399.1 t390).bind fun t403 => (if t403 = true then (if (bt399.2 != t393) = true then (none) else ((laws_toPuzzle.f k a0_0 l0_1).bind fun bt404 => ((laws_eqPuzzle.f k bt394.1 bt394.2 bt404.1 bt404.2).bind fun t408 => (if t408 = true then ((laws_markPuzzle.f k bt394.1 bt394.2 1).bind fun bt409 => (if bt409.1 < 0 then (none) else ((laws_eqIntS.f k bt399.1 t390).bind fun t411 => (if t411 = true then ((laws_markIntS.f k bt399.1 1).bind fun bt412 => ((laws_heldIntS.f k bt412.2 1).bind fun t414 => (if t414 < 0 then (none) else (if t414 = bt412.1 then ((laws_toPuzzle.f k a0_0 l0_1).bind fun bt415 => ((impl_NeedlessClues.f k bt415.1 bt415.2).bind fun bt419 => ((laws_eqIntS.f k bt419.1 t390).bind fun t423 => (if t423 = true then (if (bt419.2 != t393) = true then (none) else ((laws_heldIntS.f k bt412.2 1).bind fun t424 => (if t424 < 0 then (none) else (if t424 = bt412.1 then (some true) else (none))))) else (none))))) else (none))))) else (none))))) else (none))))) else (none))))) = some r := H
  have A8 := Aside0.mk A80
  clear A80
  replace H := Option.bind_eq_some_iff.mp H
  obtain ⟨⟨t394, t395⟩, A90, H⟩ := H
  replace H : ((impl_NeedlessClues.f k t394 t395).bind fun bt399 => ((laws_eqIntS.f k bt399.1 t390).bind fun t403 => (if t403 = true then (if (bt399.2 != t393) = true then (none) else ((laws_toPuzzle.f k a0_0 l0_1).bind fun bt404 => ((laws_eqPuzzle.f k t394 t395 bt404.1 bt404.2).bind fun t408 => (if t408 = true then ((laws_markPuzzle.f k t394 t395 1).bind fun bt409 => (if bt409.1 < 0 then (none) else ((laws_eqIntS.f k bt399.1 t390).bind fun t411 => (if t411 = true then ((laws_markIntS.f k bt399.1 1).bind fun bt412 => ((laws_heldIntS.f k bt412.2 1).bind fun t414 => (if t414 < 0 then (none) else (if t414 = bt412.1 then ((laws_toPuzzle.f k a0_0 l0_1).bind fun bt415 => ((impl_NeedlessClues.f k bt415.1 bt415.2).bind fun bt419 => ((laws_eqIntS.f k bt419.1 t390).bind fun t423 => (if t423 = true then (if (bt419.2 != t393) = true then (none) else ((laws_heldIntS.f k bt412.2 1).bind fun t424 => (if t424 < 0 then (none) else (if t424 = bt412.1 then (some true) else (none))))) else (none))))) else (none))))) else (none))))) else (none))))) else (none)))) = some r := H
  have A9 := Aside0.mk A90
  clear A90
  replace H := Option.bind_eq_some_iff.mp H
  obtain ⟨⟨t399, t402⟩, A100, H⟩ := H
  replace H : ((laws_eqIntS.f k t399 t390).bind fun t403 => (if t403 = true then (if (t402 != t393) = true then (none) else ((laws_toPuzzle.f k a0_0 l0_1).bind fun bt404 => ((laws_eqPuzzle.f k t394 t395 bt404.1 bt404.2).bind fun t408 => (if t408 = true then ((laws_markPuzzle.f k t394 t395 1).bind fun bt409 => (if bt409.1 < 0 then (none) else ((laws_eqIntS.f k t399 t390).bind fun t411 => (if t411 = true then ((laws_markIntS.f k t399 1).bind fun bt412 => ((laws_heldIntS.f k bt412.2 1).bind fun t414 => (if t414 < 0 then (none) else (if t414 = bt412.1 then ((laws_toPuzzle.f k a0_0 l0_1).bind fun bt415 => ((impl_NeedlessClues.f k bt415.1 bt415.2).bind fun bt419 => ((laws_eqIntS.f k bt419.1 t390).bind fun t423 => (if t423 = true then (if (bt419.2 != t393) = true then (none) else ((laws_heldIntS.f k bt412.2 1).bind fun t424 => (if t424 < 0 then (none) else (if t424 = bt412.1 then (some true) else (none))))) else (none))))) else (none))))) else (none))))) else (none))))) else (none))) = some r := H
  have A10 := Aside0.mk A100
  clear A100
  replace H := Option.bind_eq_some_iff.mp H
  obtain ⟨t403, A110, H⟩ := H
  replace H : (if t403 = true then (if (t402 != t393) = true then (none) else ((laws_toPuzzle.f k a0_0 l0_1).bind fun bt404 => ((laws_eqPuzzle.f k t394 t395 bt404.1 bt404.2).bind fun t408 => (if t408 = true then ((laws_markPuzzle.f k t394 t395 1).bind fun bt409 => (if bt409.1 < 0 then (none) else ((laws_eqIntS.f k t399 t390).bind fun t411 => (if t411 = true then ((laws_markIntS.f k t399 1).bind fun bt412 => ((laws_heldIntS.f k bt412.2 1).bind fun t414 => (if t414 < 0 then (none) else (if t414 = bt412.1 then ((laws_toPuzzle.f k a0_0 l0_1).bind fun bt415 => ((impl_NeedlessClues.f k bt415.1 bt415.2).bind fun bt419 => ((laws_eqIntS.f k bt419.1 t390).bind fun t423 => (if t423 = true then (if (bt419.2 != t393) = true then (none) else ((laws_heldIntS.f k bt412.2 1).bind fun t424 => (if t424 < 0 then (none) else (if t424 = bt412.1 then (some true) else (none))))) else (none))))) else (none))))) else (none))))) else (none))))) else (none)) = some r := H
  have A11 := Aside0.mk A110
  clear A110
  by_cases c12 : t403 = true
  ·
   subst c12
   have H1 : (if (t402 != t393) = true then (none) else ((laws_toPuzzle.f k a0_0 l0_1).bind fun bt404 => ((laws_eqPuzzle.f k t394 t395 bt404.1 bt404.2).bind fun t408 => (if t408 = true then ((laws_markPuzzle.f k t394 t395 1).bind fun bt409 => (if bt409.1 < 0 then (none) else ((laws_eqIntS.f k t399 t390).bind fun t411 => (if t411 = true then ((laws_markIntS.f k t399 1).bind fun bt412 => ((laws_heldIntS.f k bt412.2 1).bind fun t414 => (if t414 < 0 then (none) else (if t414 = bt412.1 then ((laws_toPuzzle.f k a0_0 l0_1).bind fun bt415 => ((impl_NeedlessClues.f k bt415.1 bt415.2).bind fun bt419 => ((laws_eqIntS.f k bt419.1 t390).bind fun t423 => (if t423 = true then (if (bt419.2 != t393) = true then (none) else ((laws_heldIntS.f k bt412.2 1).bind fun t424 => (if t424 < 0 then (none) else (if t424 = bt412.1 then (some true) else (none))))) else (none))))) else (none))))) else (none))))) else (none))))) = some r := by rw [if_pos rfl] at H; exact H
   clear H
   have H := H1
   clear H1
   by_cases c13 : (t402 != t393) = true
   ·
    rw [if_pos c13] at H
    exact absurd H (by simp)
   ·
    rw [if_neg c13] at H
    have c13b0 : (t402 != t393) = false := by simpa using c13
    (try (have c13b1 : decide (t402 = t393) = true := by simpa using c13))
    (try (have c13b2 : (t402 == t393) = true := by simpa using c13))
    clear c13
    replace H := Option.bind_eq_some_iff.mp H
    obtain ⟨⟨t404, t405⟩, A140, H⟩ := H
    replace H : ((laws_eqPuzzle.f k t394 t395 t404 t405).bind fun t408 => (if t408 = true then ((laws_markPuzzle.f k t394 t395 1).bind fun bt409 => (if bt409.1 < 0 then (none) else ((laws_eqIntS.f k t399 t390).bind fun t411 => (if t411 = true then ((laws_markIntS.f k t399 1).bind fun bt412 => ((laws_heldIntS.f k bt412.2 1).bind fun t414 => (if t414 < 0 then (none) else (if t414 = bt412.1 then ((laws_toPuzzle.f k a0_0 l0_1).bind fun bt415 => ((impl_NeedlessClues.f k bt415.1 bt415.2).bind fun bt419 => ((laws_eqIntS.f k bt419.1 t390).bind fun t423 => (if t423 = true then (if (bt419.2 != t393) = true then (none) else ((laws_heldIntS.f k bt412.2 1).bind fun t424 => (if t424 < 0 then (none) else (if t424 = bt412.1 then (some true) else (none))))) else (none))))) else (none))))) else (none))))) else (none))) = some r := H
    have A14 := Aside0.mk A140
    clear A140
    replace H := Option.bind_eq_some_iff.mp H
    obtain ⟨t408, A150, H⟩ := H
    replace H : (if t408 = true then ((laws_markPuzzle.f k t394 t395 1).bind fun bt409 => (if bt409.1 < 0 then (none) else ((laws_eqIntS.f k t399 t390).bind fun t411 => (if t411 = true then ((laws_markIntS.f k t399 1).bind fun bt412 => ((laws_heldIntS.f k bt412.2 1).bind fun t414 => (if t414 < 0 then (none) else (if t414 = bt412.1 then ((laws_toPuzzle.f k a0_0 l0_1).bind fun bt415 => ((impl_NeedlessClues.f k bt415.1 bt415.2).bind fun bt419 => ((laws_eqIntS.f k bt419.1 t390).bind fun t423 => (if t423 = true then (if (bt419.2 != t393) = true then (none) else ((laws_heldIntS.f k bt412.2 1).bind fun t424 => (if t424 < 0 then (none) else (if t424 = bt412.1 then (some true) else (none))))) else (none))))) else (none))))) else (none))))) else (none)) = some r := H
    have A15 := Aside0.mk A150
    clear A150
    by_cases c16 : t408 = true
    ·
     subst c16
     have H1 : ((laws_markPuzzle.f k t394 t395 1).bind fun bt409 => (if bt409.1 < 0 then (none) else ((laws_eqIntS.f k t399 t390).bind fun t411 => (if t411 = true then ((laws_markIntS.f k t399 1).bind fun bt412 => ((laws_heldIntS.f k bt412.2 1).bind fun t414 => (if t414 < 0 then (none) else (if t414 = bt412.1 then ((laws_toPuzzle.f k a0_0 l0_1).bind fun bt415 => ((impl_NeedlessClues.f k bt415.1 bt415.2).bind fun bt419 => ((laws_eqIntS.f k bt419.1 t390).bind fun t423 => (if t423 = true then (if (bt419.2 != t393) = true then (none) else ((laws_heldIntS.f k bt412.2 1).bind fun t424 => (if t424 < 0 then (none) else (if t424 = bt412.1 then (some true) else (none))))) else (none))))) else (none))))) else (none))))) = some r := by rw [if_pos rfl] at H; exact H
     clear H
     have H := H1
     clear H1
     replace H := Option.bind_eq_some_iff.mp H
     obtain ⟨⟨t409, t410⟩, A170, H⟩ := H
     replace H : (if t409 < 0 then (none) else ((laws_eqIntS.f k t399 t390).bind fun t411 => (if t411 = true then ((laws_markIntS.f k t399 1).bind fun bt412 => ((laws_heldIntS.f k bt412.2 1).bind fun t414 => (if t414 < 0 then (none) else (if t414 = bt412.1 then ((laws_toPuzzle.f k a0_0 l0_1).bind fun bt415 => ((impl_NeedlessClues.f k bt415.1 bt415.2).bind fun bt419 => ((laws_eqIntS.f k bt419.1 t390).bind fun t423 => (if t423 = true then (if (bt419.2 != t393) = true then (none) else ((laws_heldIntS.f k bt412.2 1).bind fun t424 => (if t424 < 0 then (none) else (if t424 = bt412.1 then (some true) else (none))))) else (none))))) else (none))))) else (none)))) = some r := H
     have A17 := Aside0.mk A170
     clear A170
     by_cases c18 : t409 < 0
     ·
      rw [if_pos c18] at H
      exact absurd H (by simp)
     ·
      rw [if_neg c18] at H
      have c18b0 : decide (t409 < 0) = false := decide_eq_false c18
      clear c18
      replace H := Option.bind_eq_some_iff.mp H
      obtain ⟨t411, A190, H⟩ := H
      replace H : (if t411 = true then ((laws_markIntS.f k t399 1).bind fun bt412 => ((laws_heldIntS.f k bt412.2 1).bind fun t414 => (if t414 < 0 then (none) else (if t414 = bt412.1 then ((laws_toPuzzle.f k a0_0 l0_1).bind fun bt415 => ((impl_NeedlessClues.f k bt415.1 bt415.2).bind fun bt419 => ((laws_eqIntS.f k bt419.1 t390).bind fun t423 => (if t423 = true then (if (bt419.2 != t393) = true then (none) else ((laws_heldIntS.f k bt412.2 1).bind fun t424 => (if t424 < 0 then (none) else (if t424 = bt412.1 then (some true) else (none))))) else (none))))) else (none))))) else (none)) = some r := H
      have A19 := Aside0.mk A190
      clear A190
      by_cases c20 : t411 = true
      ·
       subst c20
       have H1 : ((laws_markIntS.f k t399 1).bind fun bt412 => ((laws_heldIntS.f k bt412.2 1).bind fun t414 => (if t414 < 0 then (none) else (if t414 = bt412.1 then ((laws_toPuzzle.f k a0_0 l0_1).bind fun bt415 => ((impl_NeedlessClues.f k bt415.1 bt415.2).bind fun bt419 => ((laws_eqIntS.f k bt419.1 t390).bind fun t423 => (if t423 = true then (if (bt419.2 != t393) = true then (none) else ((laws_heldIntS.f k bt412.2 1).bind fun t424 => (if t424 < 0 then (none) else (if t424 = bt412.1 then (some true) else (none))))) else (none))))) else (none))))) = some r := by rw [if_pos rfl] at H; exact H
       clear H
       have H := H1
       clear H1
       replace H := Option.bind_eq_some_iff.mp H
       obtain ⟨⟨t412, t413⟩, A210, H⟩ := H
       replace H : ((laws_heldIntS.f k t413 1).bind fun t414 => (if t414 < 0 then (none) else (if t414 = t412 then ((laws_toPuzzle.f k a0_0 l0_1).bind fun bt415 => ((impl_NeedlessClues.f k bt415.1 bt415.2).bind fun bt419 => ((laws_eqIntS.f k bt419.1 t390).bind fun t423 => (if t423 = true then (if (bt419.2 != t393) = true then (none) else ((laws_heldIntS.f k t413 1).bind fun t424 => (if t424 < 0 then (none) else (if t424 = t412 then (some true) else (none))))) else (none))))) else (none)))) = some r := H
       have A21 := Aside0.mk A210
       clear A210
       replace H := Option.bind_eq_some_iff.mp H
       obtain ⟨t414, A220, H⟩ := H
       replace H : (if t414 < 0 then (none) else (if t414 = t412 then ((laws_toPuzzle.f k a0_0 l0_1).bind fun bt415 => ((impl_NeedlessClues.f k bt415.1 bt415.2).bind fun bt419 => ((laws_eqIntS.f k bt419.1 t390).bind fun t423 => (if t423 = true then (if (bt419.2 != t393) = true then (none) else ((laws_heldIntS.f k t413 1).bind fun t424 => (if t424 < 0 then (none) else (if t424 = t412 then (some true) else (none))))) else (none))))) else (none))) = some r := H
       have A22 := Aside0.mk A220
       clear A220
       by_cases c23 : t414 < 0
       ·
        rw [if_pos c23] at H
        exact absurd H (by simp)
       ·
        rw [if_neg c23] at H
        have c23b0 : decide (t414 < 0) = false := decide_eq_false c23
        clear c23
        by_cases c24 : t414 = t412
        ·
         rw [if_pos c24] at H
         have c24b0 : (t414 == t412) = true := beq_iff_eq.mpr c24
         have c24b1 : (t414 != t412) = false := bne_eq_false_iff_eq.mpr c24
         clear c24
         replace H := Option.bind_eq_some_iff.mp H
         obtain ⟨⟨t415, t416⟩, A250, H⟩ := H
         replace H : ((impl_NeedlessClues.f k t415 t416).bind fun bt419 => ((laws_eqIntS.f k bt419.1 t390).bind fun t423 => (if t423 = true then (if (bt419.2 != t393) = true then (none) else ((laws_heldIntS.f k t413 1).bind fun t424 => (if t424 < 0 then (none) else (if t424 = t412 then (some true) else (none))))) else (none)))) = some r := H
         have A25 := Aside0.mk A250
         clear A250
         replace H := Option.bind_eq_some_iff.mp H
         obtain ⟨⟨t419, t422⟩, A260, H⟩ := H
         replace H : ((laws_eqIntS.f k t419 t390).bind fun t423 => (if t423 = true then (if (t422 != t393) = true then (none) else ((laws_heldIntS.f k t413 1).bind fun t424 => (if t424 < 0 then (none) else (if t424 = t412 then (some true) else (none))))) else (none))) = some r := H
         have A26 := Aside0.mk A260
         clear A260
         replace H := Option.bind_eq_some_iff.mp H
         obtain ⟨t423, A270, H⟩ := H
         replace H : (if t423 = true then (if (t422 != t393) = true then (none) else ((laws_heldIntS.f k t413 1).bind fun t424 => (if t424 < 0 then (none) else (if t424 = t412 then (some true) else (none))))) else (none)) = some r := H
         have A27 := Aside0.mk A270
         clear A270
         by_cases c28 : t423 = true
         ·
          subst c28
          have H1 : (if (t422 != t393) = true then (none) else ((laws_heldIntS.f k t413 1).bind fun t424 => (if t424 < 0 then (none) else (if t424 = t412 then (some true) else (none))))) = some r := by rw [if_pos rfl] at H; exact H
          clear H
          have H := H1
          clear H1
          by_cases c29 : (t422 != t393) = true
          ·
           rw [if_pos c29] at H
           exact absurd H (by simp)
          ·
           rw [if_neg c29] at H
           have c29b0 : (t422 != t393) = false := by simpa using c29
           (try (have c29b1 : decide (t422 = t393) = true := by simpa using c29))
           (try (have c29b2 : (t422 == t393) = true := by simpa using c29))
           clear c29
           replace H := Option.bind_eq_some_iff.mp H
           obtain ⟨t424, A300, H⟩ := H
           replace H : (if t424 < 0 then (none) else (if t424 = t412 then (some true) else (none))) = some r := H
           have A30 := Aside0.mk A300
           clear A300
           by_cases c31 : t424 < 0
           ·
            rw [if_pos c31] at H
            exact absurd H (by simp)
           ·
            rw [if_neg c31] at H
            have c31b0 : decide (t424 < 0) = false := decide_eq_false c31
            clear c31
            by_cases c32 : t424 = t412
            ·
             rw [if_pos c32] at H
             have c32b0 : (t424 == t412) = true := beq_iff_eq.mpr c32
             have c32b1 : (t424 != t412) = false := bne_eq_false_iff_eq.mpr c32
             clear c32
             obtain rfl := Option.some.inj H
             go_enter Tryz.func10, Tryz.ntmps10
             try go_wp2_with (first | ((with_reducible refine gate_dst (N := 1) rfl ?_); refine box_event ?hg (N := 1) ?hd (cs := #[.int .i64 a0_0, .slice A0_1 l0_1.length c0_1]) (t := 24) ?hr ?_; (case hd => rfl); (case hg => rfl); (case hr => first | (go_simp; done) | (go_simp; rfl)); intro gb384 hg w33 hbox hb; have n0_ := Aside0.mk (below_step (qw HB) hb); have n1_ := Aside0.mk (hbox); have n2_ := Aside0.mk ((by rw [hg]; exact (below_size (qw HB)) : w.heap.size ≤ gb384)); have n3_ := Aside0.mk ((by rw [hg]; exact (below_size (qw HB)) : w.heap.size ≤ gb384)); clear HB; have HB := n0_; have BK384 := n1_; have GW384 := n2_; have GE384 := n3_; clear n0_ n1_ n2_ n3_; clear hb hbox hg; have hcz34_0 : w33.cell? ⟨gb384, 0, none⟩ = some (.int .i64 a0_0) := bc BK384 0; have hcz34_1 : w33.cell? ⟨gb384, 1, none⟩ = some (.slice A0_1 l0_1.length c0_1) := bc BK384 1; have hfz34_0 := blk_frozen BK384.out 0; have hfz34_1 := blk_frozen BK384.out 1) | ((with_reducible refine gate_callee (f := 12) rfl ?_); refine goesL_ (some 16) rfl rfl Tryz.func12 (by kernel_rfl) rfl #[.agg #[.int .i64 a0_0, .slice A0_1 l0_1.length c0_1], .int .i64 1048576] rfl (by (try simp only [List.map_toArray, List.map_cons, List.map_nil]); first | done | rfl | (simp only [List.length_drop, List.length_take]; rfl)) ?_; (with_reducible refine (laws_szPuzzle.calls a0_0 _ _ l0_1 1048576 t385 _ ?side1 ?side2 A2.out).mono ?_); (case side1 => repeat (first | exact (Kd.C_below HR0_1.out HB.out) | (with_reducible refine Kd.C_alloc ?_ _) | (with_reducible refine Kd.C_drewN ?_ _) | (with_reducible refine Kd.C_drew ?_))); (case side2 => exact HC0_1.out); rintro e w35 ⟨rfl, hb⟩; refine ⟨_, rfl, ?_⟩; have n0_ := qbb BK384 hb; have n1_ := Aside0.mk (below_step (qw HB) hb); clear BK384; clear HB; have BK384 := n0_; have HB := n1_; clear n0_ n1_; (try clear hb); (try clear hb2); (try clear hk); (try clear hi); have hcz36_0 : w35.cell? ⟨gb384, 0, none⟩ = some (.int .i64 a0_0) := bc BK384 0; have hcz36_1 : w35.cell? ⟨gb384, 1, none⟩ = some (.slice A0_1 l0_1.length c0_1) := bc BK384 1; have hfz36_0 := blk_frozen BK384.out 0; have hfz36_1 := blk_frozen BK384.out 1) | ((with_reducible refine gate_callee (f := 14) rfl ?_); refine goesL_ (some 21) rfl rfl Tryz.func14 (by kernel_rfl) rfl #[.agg #[.int .i64 a0_0, .slice A0_1 l0_1.length c0_1]] rfl (by (try simp only [List.map_toArray, List.map_cons, List.map_nil]); first | done | rfl | (simp only [List.length_drop, List.length_take]; rfl)) ?_; (with_reducible refine (laws_toPuzzle.calls k a0_0 _ _ l0_1 t386 t387 _ ?side1 ?side2 A7.out).mono ?_); (case side1 => repeat (first | exact (Kd.C_below HR0_1.out HB.out) | (with_reducible refine Kd.C_alloc ?_ _) | (with_reducible refine Kd.C_drewN ?_ _) | (with_reducible refine Kd.C_drew ?_))); (case side2 => exact HC0_1.out); rintro e w37 ⟨v388, rfl, ho0, hb⟩; refine ⟨_, rfl, ?_⟩; have n0_ := Aside0.mk (Kd.R_lower ho0 (below_size (qw HB))); have n1_ := qbb BK384 hb; have n2_ := Aside0.mk (below_step (qw HB) hb); clear BK384; clear HB; have HO389 := n0_; have BK384 := n1_; have HB := n2_; clear n0_ n1_ n2_; (try clear hb); (try clear hb2); (try clear hk); (try clear hi); (try clear ho0); obtain ⟨Ao38, co38, eo38⟩ := Kd.R_slice HO389.out; subst eo38) | ((with_reducible refine gate_callee (f := 36) rfl ?_); refine goesL_ (some 22) rfl rfl Tryz.func36 (by kernel_rfl) rfl #[.agg #[.int .i64 t386, .slice Ao38 t387.length co38]] rfl (by (try simp only [List.map_toArray, List.map_cons, List.map_nil]); first | done | rfl | (simp only [List.length_drop, List.length_take]; rfl)) ?_; (with_reducible refine (spec_NeedlessClues.calls k t386 _ _ t387 t390 t393 _ ?side1 ?side2 A8.out).mono ?_); (case side1 => repeat (first | exact (Kd.R_reads' HO389.out).2.2 | (with_reducible refine Kd.C_alloc ?_ _) | (with_reducible refine Kd.C_drewN ?_ _) | (with_reducible refine Kd.C_drew ?_))); (case side2 => exact (Kd.R_reads' HO389.out).2.1); rintro e w39 ⟨v391, rfl, ho0, hb⟩; refine ⟨_, rfl, ?_⟩; have n0_ := Aside0.mk (Kd.R_below (qr HO389.out) hb); have n1_ := Aside0.mk (Kd.R_lower ho0 (below_size (qw HB))); have n2_ := qbb BK384 hb; have n3_ := Aside0.mk (below_step (qw HB) hb); clear HO389; clear BK384; clear HB; have HO389 := n0_; have HO392 := n1_; have BK384 := n2_; have HB := n3_; clear n0_ n1_ n2_ n3_; (try clear hb); (try clear hb2); (try clear hk); (try clear hi); (try clear ho0); have hcz40_0 : w39.cell? ⟨gb384, 0, none⟩ = some (.int .i64 a0_0) := bc BK384 0; have hcz40_1 : w39.cell? ⟨gb384, 1, none⟩ = some (.slice A0_1 l0_1.length c0_1) := bc BK384 1; have hfz40_0 := blk_frozen BK384.out 0; have hfz40_1 := blk_frozen BK384.out 1) | ((with_reducible refine gate_callee (f := 14) rfl ?_); refine goesL_ (some 26) rfl rfl Tryz.func14 (by kernel_rfl) rfl #[.agg #[.int .i64 a0_0, .slice A0_1 l0_1.length c0_1]] rfl (by (try simp only [List.map_toArray, List.map_cons, List.map_nil]); first | done | rfl | (simp only [List.length_drop, List.length_take]; rfl)) ?_; (with_reducible refine (laws_toPuzzle.calls k a0_0 _ _ l0_1 t394 t395 _ ?side1 ?side2 A9.out).mono ?_); (case side1 => repeat (first | exact (Kd.C_below HR0_1.out HB.out) | (with_reducible refine Kd.C_alloc ?_ _) | (with_reducible refine Kd.C_drewN ?_ _) | (with_reducible refine Kd.C_drew ?_))); (case side2 => exact HC0_1.out); rintro e w41 ⟨v396, rfl, ho0, hb⟩; refine ⟨_, rfl, ?_⟩; have n0_ := Aside0.mk (Kd.R_elder' (qr HO389.out) (Kd.R_base ho0) hb); have n1_ := Aside0.mk (Kd.R_below (qr HO392.out) hb); have n2_ := Aside0.mk (Kd.R_lower (Kd.R_new' ho0 (Kd.R_lt (qr HO389.out))) (below_size (qw HB))); have n3_ := qbb BK384 hb; have n4_ := Aside0.mk (below_step (qw HB) hb); clear HO389; clear HO392; clear BK384; clear HB; have HO389 := n0_; have HO392 := n1_; have HO397 := n2_; have BK384 := n3_; have HB := n4_; clear n0_ n1_ n2_ n3_ n4_; (try clear hb); (try clear hb2); (try clear hk); (try clear hi); (try clear ho0)) | ((with_reducible refine gate_dst (N := 6) rfl ?_); refine box_event ?hg (N := 6) ?hd (cs := #[.int .i64 0, .slice none 0 0]) (t := 30) ?hr ?_; (case hd => rfl); (case hg => rfl); (case hr => first | (go_simp; done) | (go_simp; rfl)); intro gb398 hg w42 hbox hb; have n0_ := Aside0.mk (Kd.R_below (qr HO389.out) hb); have n1_ := Aside0.mk (Kd.R_below (qr HO392.out) hb); have n2_ := Aside0.mk (Kd.R_below (qr HO397.out) hb); have n3_ := qbb BK384 hb; have n4_ := Aside0.mk (below_step (qw HB) hb); have n5_ := Aside0.mk (hbox); have n6_ := Aside0.mk ((by rw [hg]; exact (below_size (qw HB)) : w.heap.size ≤ gb398)); have n7_ := Aside0.mk ((by rw [hg]; exact (below_size (qw HB)) : w.heap.size ≤ gb398)); have n8_ := Aside0.mk ((by rw [hg]; exact Nat.ne_of_lt (blk_lt (qb BK384)) : gb384 ≠ gb398)); have n9_ := Aside0.mk ((by rw [hg]; exact Nat.ne_of_gt (blk_lt (qb BK384)) : gb398 ≠ gb384)); clear HO389; clear HO392; clear HO397; clear BK384; clear HB; have HO389 := n0_; have HO392 := n1_; have HO397 := n2_; have BK384 := n3_; have HB := n4_; have BK398 := n5_; have GW398 := n6_; have GE398 := n7_; have NB384_398 := n8_; have NB398_384 := n9_; clear n0_ n1_ n2_ n3_ n4_ n5_ n6_ n7_ n8_ n9_; clear hb hbox hg; have hnb43 := NB398_384.out; have hnc43 := NB384_398.out; have hcz44_0 : w42.cell? ⟨gb398, 0, none⟩ = some (.int .i64 0) := bc BK398 0; have hcz44_1 : w42.cell? ⟨gb398, 1, none⟩ = some (.slice none 0 0) := bc BK398 1; have hfz44_0 := blk_frozen BK398.out 0; have hfz44_1 := blk_frozen BK398.out 1; obtain ⟨Ao45, co45, eo45⟩ := Kd.R_slice HO397.out; subst eo45) | ((with_reducible refine gate_callee (f := 37) rfl ?_); refine goesL_ (some 29) rfl rfl Tryz.func37 (by kernel_rfl) rfl #[.agg #[.int .i64 t394, .slice Ao45 t395.length co45]] rfl (by (try simp only [List.map_toArray, List.map_cons, List.map_nil]); first | done | rfl | (simp only [List.length_drop, List.length_take]; rfl)) ?_; (with_reducible refine (impl_NeedlessClues.calls k t394 _ _ t395 t399 t402 _ ?side1 ?side2 A10.out).mono ?_); (case side1 => refine (Kd.R_reads' (e := 65) (base := w.heap.size) (ok := fun k_ => (True ∧ some k_ ≠ (.slice Ao38 t387.length co38 : Value).ownBlock)) (n := t395.length) (c := co45) ?_).2.2; exact (qr (Kd.R_mono (Kd.R_far (p := ⟨gb398, 1, none⟩) (Kd.R_far (p := ⟨gb398, 0, none⟩) (Kd.R_types HO397.out BK398.out (by decide)) (fun _ hk => hk.2) (.int .i64 t394)) (fun _ hk => hk.2) (.slice Ao45 t395.length co45)) (fun _ h_ => h_.1)))); (case side2 => exact (Kd.R_reads' HO397.out).2.1); rintro e w46 ⟨v400, rfl, ho0, hb⟩; refine ⟨_, rfl, ?_⟩; have n0_ := Aside0.mk (Kd.R_below (qr (Kd.R_mono (Kd.R_far (p := ⟨gb398, 1, none⟩) (Kd.R_far (p := ⟨gb398, 0, none⟩) (Kd.R_types HO389.out BK398.out (by decide)) (fun _ hk => hk.2) (.int .i64 t394)) (fun _ hk => hk.2) (.slice Ao45 t395.length co45)) (fun _ h_ => h_.1))) hb); have n1_ := Aside0.mk (Kd.R_elder' (qr (Kd.R_mono (Kd.R_far (p := ⟨gb398, 1, none⟩) (Kd.R_far (p := ⟨gb398, 0, none⟩) (Kd.R_types HO392.out BK398.out (by decide)) (fun _ hk => hk.2) (.int .i64 t394)) (fun _ hk => hk.2) (.slice Ao45 t395.length co45)) (fun _ h_ => h_.1))) (Kd.R_base ho0) hb); have n2_ := Aside0.mk (Kd.R_below (qr (Kd.R_mono (Kd.R_far (p := ⟨gb398, 1, none⟩) (Kd.R_far (p := ⟨gb398, 0, none⟩) (Kd.R_types HO397.out BK398.out (by decide)) (fun _ hk => hk.2) (.int .i64 t394)) (fun _ hk => hk.2) (.slice Ao45 t395.length co45)) (fun _ h_ => h_.1))) hb); have n3_ := Aside0.mk (Kd.R_lower (Kd.R_new' ho0 (Kd.R_lt (qr (Kd.R_mono (Kd.R_far (p := ⟨gb398, 1, none⟩) (Kd.R_far (p := ⟨gb398, 0, none⟩) (Kd.R_types HO392.out BK398.out (by decide)) (fun _ hk => hk.2) (.int .i64 t394)) (fun _ hk => hk.2) (.slice Ao45 t395.length co45)) (fun _ h_ => h_.1))))) (below_size (qw HB))); have n4_ := Aside0.mk (blk_below (g := gb384) (o := .cells #[.int .i64 a0_0, .slice A0_1 l0_1.length c0_1] 24 (0, 0)) (by (with_reducible repeat (first | refine blk_drewN ?_ _ | refine blk_drew ?_ | refine blk_alloc ?_ _)); refine blk_far ?_ NB384_398.out _; (with_reducible repeat (first | refine blk_drewN ?_ _ | refine blk_drew ?_ | refine blk_alloc ?_ _)); refine blk_far ?_ NB384_398.out _; (with_reducible repeat (first | refine blk_drewN ?_ _ | refine blk_drew ?_ | refine blk_alloc ?_ _)); exact BK384.out) hb); have n5_ := Aside0.mk (blk_below (g := gb398) (o := .cells #[.int .i64 t394, .slice Ao45 t395.length co45] 30 (0, 0)) (by (with_reducible repeat (first | refine blk_drewN ?_ _ | refine blk_drew ?_ | refine blk_alloc ?_ _)); refine blk_put (cs := #[.int .i64 t394, .slice none 0 0]) ?_ 1 _ rfl; (with_reducible repeat (first | refine blk_drewN ?_ _ | refine blk_drew ?_ | refine blk_alloc ?_ _)); refine blk_put (cs := #[.int .i64 0, .slice none 0 0]) ?_ 0 _ rfl; (with_reducible repeat (first | refine blk_drewN ?_ _ | refine blk_drew ?_ | refine blk_alloc ?_ _)); exact BK398.out) hb); have n6_ := Aside0.mk (below_step (qw HB) hb); clear HO389; clear HO392; clear HO397; clear BK384; clear BK398; clear HB; have HO389 := n0_; have HO392 := n1_; have HO397 := n2_; have HO401 := n3_; have BK384 := n4_; have BK398 := n5_; have HB := n6_; clear n0_ n1_ n2_ n3_ n4_ n5_ n6_; (try clear hb); (try clear hb2); (try clear hk); (try clear hi); (try clear ho0); obtain ⟨Ao47, co47, eo47⟩ := Kd.R_slice HO401.out; subst eo47; obtain ⟨Ao48, co48, eo48⟩ := Kd.R_slice HO392.out; subst eo48) | ((with_reducible refine gate_callee (f := 27) rfl ?_); refine goesL_ (some 34) rfl rfl Tryz.func27 (by kernel_rfl) rfl #[.slice Ao47 t399.length co47, .slice Ao48 t390.length co48] rfl (by (try simp only [List.map_toArray, List.map_cons, List.map_nil]); first | done | rfl | (simp only [List.length_drop, List.length_take]; rfl)) ?_; (with_reducible refine (laws_eqIntS.calls k _ _ t399 _ _ t390 true _ ?side1 ?side2 ?side3 ?side4 A11.out).mono ?_); (case side1 => repeat (first | exact (Kd.R_reads' HO401.out).2.2 | (with_reducible refine Kd.C_alloc ?_ _) | (with_reducible refine Kd.C_drewN ?_ _) | (with_reducible refine Kd.C_drew ?_))); (case side2 => exact (Kd.R_reads' HO401.out).2.1); (case side3 => repeat (first | exact (Kd.R_reads' HO392.out).2.2 | (with_reducible refine Kd.C_alloc ?_ _) | (with_reducible refine Kd.C_drewN ?_ _) | (with_reducible refine Kd.C_drew ?_))); (case side4 => exact (Kd.R_reads' HO392.out).2.1); rintro e w' ⟨rfl, ⟨nd, rfl⟩⟩; refine ⟨_, rfl, ?_⟩))
             (try (rw [drewN_self w46]; generalize hq_ : World.drewN w46 _ = w46; have n0_ : Aside0 (Kd.R k65 65 w46 w.heap.size (fun k_ => some k_ ≠ (.slice Ao45 t395.length co45 : Value).ownBlock) (.slice Ao38 t387.length co38) t387) := ⟨by rw [← hq_]; exact (qr (Kd.R_mono HO389.out (fun _ hk => hk.2)))⟩; have n1_ : Aside0 (Kd.R (Kd.int .i64) 3 w46 w.heap.size (fun k_ => some k_ ≠ (.slice Ao47 t399.length co47 : Value).ownBlock) (.slice Ao48 t390.length co48) t390) := ⟨by rw [← hq_]; exact (qr (Kd.R_mono HO392.out (fun _ hk => hk.2)))⟩; have n2_ : Aside0 (Kd.R k65 65 w46 w.heap.size (fun k_ => some k_ ≠ (.slice Ao38 t387.length co38 : Value).ownBlock) (.slice Ao45 t395.length co45) t395) := ⟨by rw [← hq_]; exact (qr (Kd.R_mono HO397.out (fun _ hk => hk.2)))⟩; have n3_ : Aside0 (Kd.R (Kd.int .i64) 3 w46 w.heap.size (fun k_ => some k_ ≠ (.slice Ao48 t390.length co48 : Value).ownBlock) (.slice Ao47 t399.length co47) t399) := ⟨by rw [← hq_]; exact (qr (Kd.R_mono HO401.out (fun _ hk => hk.2)))⟩; have n4_ : Aside0 (w46.heap[gb384]? = some (.cells #[.int .i64 a0_0, .slice A0_1 l0_1.length c0_1] 24 (0, 0))) := ⟨by rw [← hq_]; exact (qb BK384)⟩; have n5_ : Aside0 (w46.heap[gb398]? = some (.cells #[.int .i64 t394, .slice Ao45 t395.length co45] 30 (0, 0))) := ⟨by rw [← hq_]; exact (qb BK398)⟩; have n6_ : Aside0 (Below w.heap.size w w46) := ⟨by rw [← hq_]; exact (qw HB)⟩; clear HO389 HO392 HO397 HO401 BK384 BK398 HB hq_; have HO389 := n0_; have HO392 := n1_; have HO397 := n2_; have HO401 := n3_; have BK384 := n4_; have BK398 := n5_; have HB := n6_; clear n0_ n1_ n2_ n3_ n4_ n5_ n6_; have hcqgb384_0 : w46.cell? ⟨gb384, 0, none⟩ = some (.int .i64 a0_0) := (blk_cell BK384.out 0).trans rfl; have hfqgb384_0 := blk_frozen BK384.out 0; have hcqgb384_1 : w46.cell? ⟨gb384, 1, none⟩ = some (.slice A0_1 l0_1.length c0_1) := (blk_cell BK384.out 1).trans rfl; have hfqgb384_1 := blk_frozen BK384.out 1; have hcqgb398_0 : w46.cell? ⟨gb398, 0, none⟩ = some (.int .i64 t394) := (blk_cell BK398.out 0).trans rfl; have hfqgb398_0 := blk_frozen BK398.out 0; have hcqgb398_1 : w46.cell? ⟨gb398, 1, none⟩ = some (.slice Ao45 t395.length co45) := (blk_cell BK398.out 1).trans rfl; have hfqgb398_1 := blk_frozen BK398.out 1))
             have n0_ := Aside0.mk (Kd.R_drew HO389.out)
             have n1_ := Aside0.mk (Kd.R_drew HO392.out)
             have n2_ := Aside0.mk (Kd.R_drew HO397.out)
             have n3_ := Aside0.mk (Kd.R_drew HO401.out)
             have n4_ := Aside0.mk (blk_drew BK384.out)
             have n5_ := Aside0.mk (blk_drew BK398.out)
             have n6_ := Aside0.mk (below_drew1 HB.out)
             clear HO389
             clear HO392
             clear HO397
             clear HO401
             clear BK384
             clear BK398
             clear HB
             have HO389 := n0_
             have HO392 := n1_
             have HO397 := n2_
             have HO401 := n3_
             have BK384 := n4_
             have BK398 := n5_
             have HB := n6_
             clear n0_ n1_ n2_ n3_ n4_ n5_ n6_
             refine start_ (n := 5) (S := fun w' => w'.cell? ⟨gb398, 0, none⟩ = some (.int .i64 t394) ∧ w'.cell? ⟨gb398, 1, none⟩ = some (.slice Ao45 t395.length co45) ∧ w'.cell? ⟨gb384, 0, none⟩ = some (.int .i64 a0_0) ∧ w'.cell? ⟨gb384, 1, none⟩ = some (.slice A0_1 l0_1.length c0_1)) (ds := []) #[false, false, false, false, false] (by kernel_rfl) rfl rfl ⟨bc BK398 0, bc BK398 1, bc BK384 0, bc BK384 1⟩ (fun hHeld => ?_)
             generalize w46.drew = w49 at HO389 HO392 HO397 HO401 BK384 BK398 HB hHeld ⊢
             refine take_ (i := 0) (N := some 41) (v := ?_) (a' := ?_) #[true, false, false, false, false] rfl rfl (by kernel_rfl) (fun _ _ _ h => h) (Or.inl ⟨by rfl, ?_⟩) hHeld ?_ ?_
             rotate_left
             ·
              rintro w' ⟨s0, s1, s2, s3⟩
              go_simp
              with_reducible rfl
             rotate_left
             ·
              simp only [Act.put, List.setIfInBounds_toArray, List.set_cons_zero, List.set_cons_succ, i64_w, i32_w]
              rfl
             refine take_ (i := 1) (N := some 42) (v := ?_) (a' := ?_) #[true, true, false, false, false] rfl rfl (by kernel_rfl) (fun _ _ _ h => h) (Or.inl ⟨by rfl, ?_⟩) hHeld ?_ ?_
             rotate_left
             ·
              rintro w' ⟨s0, s1, s2, s3⟩
              go_simp
              with_reducible rfl
             rotate_left
             ·
              simp only [Act.put, List.setIfInBounds_toArray, List.set_cons_zero, List.set_cons_succ, i64_w, i32_w]
              rfl
             refine one_ (i := 2) (N := some 43) #[true, true, true, false, false] rfl rfl (by kernel_rfl) (by decide) (fun K hK => ?_)
             refine goes_ Tryz.func14 (by kernel_rfl) rfl #[.agg #[.int .i64 a0_0, .slice A0_1 l0_1.length c0_1]] (by rfl) rfl rfl (by (try simp only [List.map_toArray, List.map_cons, List.map_nil]); first | done | rfl | (simp only [List.length_drop, List.length_take]; rfl)) ?_
             with_reducible refine (laws_toPuzzle.calls k a0_0 _ _ l0_1 t404 t405 _ ?side1 ?side2 A14.out).mono ?_
             (case side1 => repeat (first | exact (Kd.C_below HR0_1.out HB.out) | (with_reducible refine Kd.C_alloc ?_ _) | (with_reducible refine Kd.C_drewN ?_ _) | (with_reducible refine Kd.C_drew ?_)))
             (case side2 => exact HC0_1.out)
             rintro e w50 ⟨v406, rfl, ho0, hb⟩
             refine ⟨_, rfl, ?_⟩
             have n0_ := Aside0.mk (Kd.R_elder' (qr HO389.out) (Kd.R_base ho0) hb)
             have n1_ := Aside0.mk (Kd.R_below (qr HO392.out) hb)
             have n2_ := Aside0.mk (Kd.R_elder' (qr HO397.out) (Kd.R_base ho0) hb)
             have n3_ := Aside0.mk (Kd.R_below (qr HO401.out) hb)
             have n4_ := Aside0.mk (Kd.R_lower (Kd.R_new' (Kd.R_new' ho0 (Kd.R_lt (qr HO389.out))) (Kd.R_lt (qr HO397.out))) (below_size (qw HB)))
             have n5_ := qbb BK384 hb
             have n6_ := qbb BK398 hb
             have n7_ := Aside0.mk (below_step (qw HB) hb)
             clear HO389
             clear HO392
             clear HO397
             clear HO401
             clear BK384
             clear BK398
             clear HB
             have HO389 := n0_
             have HO392 := n1_
             have HO397 := n2_
             have HO401 := n3_
             have HO407 := n4_
             have BK384 := n5_
             have BK398 := n6_
             have HB := n7_
             clear n0_ n1_ n2_ n3_ n4_ n5_ n6_ n7_
             (try clear hb)
             (try clear hb2)
             (try clear hk)
             (try clear hi)
             (try clear ho0)
             obtain ⟨Ao51, co51, eo51⟩ := Kd.R_slice HO407.out
             (first | subst eo51 | (injection eo51 with f1_ f2_ f3_; have f4_ := f1_.symm; have f5_ := f3_.symm; clear f1_ f2_ f3_; subst f4_; subst f5_))
             refine hK.out _ _ ⟨bc BK398 0, bc BK398 1, bc BK384 0, bc BK384 1⟩ (fun hHeld => ?_)
             clear hK K
             refine norm_ (a' := ?_) ?_ ?_
             rotate_left
             ·
              show Act.put _ (some 43) _ = _
              simp only [Act.put, List.setIfInBounds_toArray, List.set_cons_zero, List.set_cons_succ, i64_w, i32_w]
              rfl
             refine one_ (i := 3) (N := some 44) #[true, true, true, true, false] rfl rfl (by kernel_rfl) (by decide) (fun K hK => ?_)
             refine goes_ Tryz.func16 (by kernel_rfl) rfl #[.agg #[.int .i64 t394, .slice Ao45 t395.length co45], .agg #[.int .i64 t404, .slice Ao51 t405.length co51]] (by rfl) rfl rfl (by (try simp only [List.map_toArray, List.map_cons, List.map_nil]); first | done | rfl | (simp only [List.length_drop, List.length_take]; rfl)) ?_
             with_reducible refine (laws_eqPuzzle.calls k t394 _ _ t395 t404 _ _ t405 true _ ?side1 ?side2 ?side3 ?side4 A15.out).mono ?_
             (case side1 => repeat (first | exact (Kd.R_reads' HO397.out).2.2 | (with_reducible refine Kd.C_alloc ?_ _) | (with_reducible refine Kd.C_drewN ?_ _) | (with_reducible refine Kd.C_drew ?_)))
             (case side2 => exact (Kd.R_reads' HO397.out).2.1)
             (case side3 => repeat (first | exact (Kd.R_reads' HO407.out).2.2 | (with_reducible refine Kd.C_alloc ?_ _) | (with_reducible refine Kd.C_drewN ?_ _) | (with_reducible refine Kd.C_drew ?_)))
             (case side4 => exact (Kd.R_reads' HO407.out).2.1)
             rintro e w52 ⟨rfl, hb⟩
             refine ⟨_, rfl, ?_⟩
             have n0_ := Aside0.mk (Kd.R_below (qr HO389.out) hb)
             have n1_ := Aside0.mk (Kd.R_below (qr HO392.out) hb)
             have n2_ := Aside0.mk (Kd.R_below (qr HO397.out) hb)
             have n3_ := Aside0.mk (Kd.R_below (qr HO401.out) hb)
             have n4_ := Aside0.mk (Kd.R_below (qr HO407.out) hb)
             have n5_ := qbb BK384 hb
             have n6_ := qbb BK398 hb
             have n7_ := Aside0.mk (below_step (qw HB) hb)
             clear HO389
             clear HO392
             clear HO397
             clear HO401
             clear HO407
             clear BK384
             clear BK398
             clear HB
             have HO389 := n0_
             have HO392 := n1_
             have HO397 := n2_
             have HO401 := n3_
             have HO407 := n4_
             have BK384 := n5_
             have BK398 := n6_
             have HB := n7_
             clear n0_ n1_ n2_ n3_ n4_ n5_ n6_ n7_
             (try clear hb)
             (try clear hb2)
             (try clear hk)
             (try clear hi)
             refine hK.out _ _ ⟨bc BK398 0, bc BK398 1, bc BK384 0, bc BK384 1⟩ (fun hHeld => ?_)
             clear hK K
             refine norm_ (a' := ?_) ?_ ?_
             rotate_left
             ·
              show Act.put _ (some 44) _ = _
              simp only [Act.put, List.setIfInBounds_toArray, List.set_cons_zero, List.set_cons_succ, i64_w, i32_w]
              rfl
             refine pure_ (i := 4) (N := some 45) (v := ?_) (a' := ?_) #[true, true, true, true, true] rfl rfl (by kernel_rfl) (fun _ _ _ h => h) (Or.inl ⟨by rfl, ?_⟩) ?_ ?_
             rotate_left
             ·
              intro w'
              go_simp
              with_reducible rfl
             rotate_left
             ·
              simp only [Act.put, List.setIfInBounds_toArray, List.set_cons_zero, List.set_cons_succ, i64_w, i32_w]
              rfl
             refine done_ (by kernel_rfl) ?_
             have hcz53_0 : w52.cell? ⟨gb398, 0, none⟩ = some (.int .i64 t394) := bc BK398 0
             have hcz53_1 : w52.cell? ⟨gb398, 1, none⟩ = some (.slice Ao45 t395.length co45) := bc BK398 1
             have hfz53_0 := blk_frozen BK398.out 0
             have hfz53_1 := blk_frozen BK398.out 1
             try go_wp2_with (first | ((with_reducible refine gate_callee (f := 28) rfl ?_); refine goesL_ (some 48) rfl rfl Tryz.func28 (by kernel_rfl) rfl #[.agg #[.int .i64 t394, .slice Ao45 t395.length co45], .int .i64 1] rfl (by (try simp only [List.map_toArray, List.map_cons, List.map_nil]); first | done | rfl | (simp only [List.length_drop, List.length_take]; rfl)) ?_; (with_reducible refine (laws_markPuzzle.calls k t394 (fun k_ => some k_ = (.slice Ao45 t395.length co45 : Value).ownBlock) (.slice Ao45 t395.length co45) t395 1 t409 t410 w _ ?side1 ?side2 A17.out).mono ?_); (case side1 => repeat (first | (with_reducible first | exact HB.out | apply below_alloc | apply pw_below_drewN | apply below_drew1 | refine below_set ?_ GE384.out | refine below_set ?_ GE398.out) | exact HB.out)); (case side2 => exact Kd.R_tight rfl HO397.out); rintro e w54 ⟨rfl, hy0, hb, hkp⟩; refine ⟨_, rfl, ?_⟩; have n0_ := Aside0.mk (blk_kept (qb BK384) hkp (fun hs_ => (fun e_ => (Kd.R_ne HO397.out BK384.out (by decide)) e_) hs_)); have n1_ := Aside0.mk (Kd.R_mono (ok' := fun k_ => some k_ ≠ (.slice Ao45 t395.length co45 : Value).ownBlock ∧ some k_ ≠ (.slice Ao51 t405.length co51 : Value).ownBlock) (Kd.R_keptB (HO389.out) hkp laws_FnExactNeedlessClues.ks) laws_FnExactNeedlessClues.kq); have n2_ := Aside0.mk (Kd.R_mono (ok' := fun k_ => some k_ ≠ (.slice Ao47 t399.length co47 : Value).ownBlock) (Kd.R_keptB ((Kd.R_apart' HO392.out (Kd.R_typed HO397.out) (by decide))) hkp laws_FnExactNeedlessClues.ks) laws_FnExactNeedlessClues.kq); have n3_ := Aside0.mk (Kd.R_reok rfl hy0 (fun k_ e_ => HO397.out.1 k_ e_)); have n4_ := Aside0.mk (blk_kept (qb BK398) hkp (fun hs_ => (fun e_ => (Kd.R_ne HO397.out BK398.out (by decide)) e_) hs_)); have n5_ := Aside0.mk (Kd.R_mono (ok' := fun k_ => some k_ ≠ (.slice Ao48 t390.length co48 : Value).ownBlock) (Kd.R_keptB ((Kd.R_apart' HO401.out (Kd.R_typed HO397.out) (by decide))) hkp laws_FnExactNeedlessClues.ks) laws_FnExactNeedlessClues.kq); have n6_ := Aside0.mk (Kd.R_mono (ok' := fun k_ => some k_ ≠ (.slice Ao38 t387.length co38 : Value).ownBlock ∧ some k_ ≠ (.slice Ao45 t395.length co45 : Value).ownBlock) (Kd.R_keptB (HO407.out) hkp laws_FnExactNeedlessClues.ks) laws_FnExactNeedlessClues.kq); have n7_ := Aside0.mk (hb); clear BK384; clear HO389; clear HO392; clear HO397; clear BK398; clear HO401; clear HO407; clear HB; have BK384 := n0_; have HO389 := n1_; have HO392 := n2_; have HO397 := n3_; have BK398 := n4_; have HO401 := n5_; have HO407 := n6_; have HB := n7_; clear n0_ n1_ n2_ n3_ n4_ n5_ n6_ n7_; (try clear hb); (try clear hkp); (try clear hy0)) | (go_at_call 27; (with_reducible refine (laws_eqIntS.calls k _ _ t399 _ _ t390 true _ ?side1 ?side2 ?side3 ?side4 A19.out).mono ?_); (case side1 => repeat (first | exact (Kd.R_reads' HO401.out).2.2 | (with_reducible refine Kd.C_alloc ?_ _) | (with_reducible refine Kd.C_drewN ?_ _) | (with_reducible refine Kd.C_drew ?_))); (case side2 => exact (Kd.R_reads' HO401.out).2.1); (case side3 => repeat (first | exact (Kd.R_reads' HO392.out).2.2 | (with_reducible refine Kd.C_alloc ?_ _) | (with_reducible refine Kd.C_drewN ?_ _) | (with_reducible refine Kd.C_drew ?_))); (case side4 => exact (Kd.R_reads' HO392.out).2.1); rintro e w' ⟨rfl, ⟨nd, rfl⟩⟩) | ((with_reducible refine gate_callee (f := 29) rfl ?_); refine goesL_ (some 64) rfl rfl Tryz.func29 (by kernel_rfl) rfl #[.slice Ao47 t399.length co47, .int .i64 1] rfl (by (try simp only [List.map_toArray, List.map_cons, List.map_nil]); first | done | rfl | (simp only [List.length_drop, List.length_take]; rfl)) ?_; (with_reducible refine (laws_markIntS.calls k (fun k_ => some k_ = (.slice Ao47 t399.length co47 : Value).ownBlock) (.slice Ao47 t399.length co47) t399 1 t412 t413 w _ ?side1 ?side2 A21.out).mono ?_); (case side1 => repeat (first | (with_reducible first | exact HB.out | apply below_alloc | apply pw_below_drewN | apply below_drew1 | refine below_set ?_ GE384.out | refine below_set ?_ GE398.out) | exact HB.out)); (case side2 => exact Kd.R_tight rfl HO401.out); rintro e w55 ⟨rfl, hy0, hb, hkp⟩; refine ⟨_, rfl, ?_⟩; have n0_ := Aside0.mk (blk_kept (qb BK384) hkp (fun hs_ => (fun e_ => (Kd.R_ne HO401.out BK384.out (by decide)) e_) hs_)); have n1_ := Aside0.mk (Kd.R_mono (ok' := fun k_ => some k_ ≠ (.slice Ao45 t395.length co45 : Value).ownBlock ∧ some k_ ≠ (.slice Ao51 t405.length co51 : Value).ownBlock) (Kd.R_keptB ((Kd.R_apart' HO389.out (Kd.R_typed HO401.out) (by decide))) hkp laws_FnExactNeedlessClues.ks) laws_FnExactNeedlessClues.kq); have n2_ := Aside0.mk (Kd.R_mono (ok' := fun k_ => some k_ ≠ (.slice Ao47 t399.length co47 : Value).ownBlock) (Kd.R_keptB (HO392.out) hkp laws_FnExactNeedlessClues.ks) laws_FnExactNeedlessClues.kq); have n3_ := Aside0.mk (Kd.R_mono (ok' := fun k_ => some k_ ≠ (.slice Ao38 t387.length co38 : Value).ownBlock ∧ some k_ ≠ (.slice Ao51 t405.length co51 : Value).ownBlock) (Kd.R_keptB ((Kd.R_apart' HO397.out (Kd.R_typed HO401.out) (by decide))) hkp laws_FnExactNeedlessClues.ks) laws_FnExactNeedlessClues.kq); have n4_ := Aside0.mk (blk_kept (qb BK398) hkp (fun hs_ => (fun e_ => (Kd.R_ne HO401.out BK398.out (by decide)) e_) hs_)); have n5_ := Aside0.mk (Kd.R_reok rfl hy0 (fun k_ e_ => HO401.out.1 k_ e_)); have n6_ := Aside0.mk (Kd.R_mono (ok' := fun k_ => some k_ ≠ (.slice Ao38 t387.length co38 : Value).ownBlock ∧ some k_ ≠ (.slice Ao45 t395.length co45 : Value).ownBlock) (Kd.R_keptB ((Kd.R_apart' HO407.out (Kd.R_typed HO401.out) (by decide))) hkp laws_FnExactNeedlessClues.ks) laws_FnExactNeedlessClues.kq); have n7_ := Aside0.mk (hb); clear BK384; clear HO389; clear HO392; clear HO397; clear BK398; clear HO401; clear HO407; clear HB; have BK384 := n0_; have HO389 := n1_; have HO392 := n2_; have HO397 := n3_; have BK398 := n4_; have HO401 := n5_; have HO407 := n6_; have HB := n7_; clear n0_ n1_ n2_ n3_ n4_ n5_ n6_ n7_; (try clear hb); (try clear hkp); (try clear hy0)) | ((with_reducible refine gate_callee (f := 30) rfl ?_); refine goesL_ (some 67) rfl rfl Tryz.func30 (by kernel_rfl) rfl #[.slice Ao47 t413.length co47, .int .i64 1] rfl (by (try simp only [List.map_toArray, List.map_cons, List.map_nil]); first | done | (rw [show t413.length = t399.length from (Kd.R_reads' HO401.out).1.symm] <;> rfl) | rfl | (simp only [List.length_drop, List.length_take]; rfl)) ?_; (with_reducible refine (laws_heldIntS.calls k _ _ t413 1 t414 _ ?side1 ?side2 A22.out).mono ?_); (case side1 => repeat (first | exact (Kd.R_reads' HO401.out).2.2 | (with_reducible refine Kd.C_alloc ?_ _) | (with_reducible refine Kd.C_drewN ?_ _) | (with_reducible refine Kd.C_drew ?_))); (case side2 => rw [show t413.length = t399.length from (Kd.R_reads' HO401.out).1.symm]; exact (Kd.R_reads' HO401.out).2.1); rintro e w' ⟨rfl, ⟨nd, rfl⟩⟩; refine ⟨_, rfl, ?_⟩; have hcz56_0 : w55.cell? ⟨gb384, 0, none⟩ = some (.int .i64 a0_0) := bc BK384 0; have hcz56_1 : w55.cell? ⟨gb384, 1, none⟩ = some (.slice A0_1 l0_1.length c0_1) := bc BK384 1; have hfz56_0 := blk_frozen BK384.out 0; have hfz56_1 := blk_frozen BK384.out 1) | ((with_reducible refine gate_callee (f := 14) rfl ?_); refine goesL_ (some 75) rfl rfl Tryz.func14 (by kernel_rfl) rfl #[.agg #[.int .i64 a0_0, .slice A0_1 l0_1.length c0_1]] rfl (by (try simp only [List.map_toArray, List.map_cons, List.map_nil]); first | done | rfl | (simp only [List.length_drop, List.length_take]; rfl)) ?_; (with_reducible refine (laws_toPuzzle.calls k a0_0 _ _ l0_1 t415 t416 _ ?side1 ?side2 A25.out).mono ?_); (case side1 => repeat (first | exact (Kd.C_below HR0_1.out (qw HB)) | (with_reducible refine Kd.C_alloc ?_ _) | (with_reducible refine Kd.C_drewN ?_ _) | (with_reducible refine Kd.C_drew ?_))); (case side2 => exact HC0_1.out); rintro e w57 ⟨v417, rfl, ho0, hb⟩; refine ⟨_, rfl, ?_⟩; have n0_ := Aside0.mk (Kd.R_elder' (qr HO389.out) (Kd.R_base ho0) hb); have n1_ := Aside0.mk (Kd.R_below (qr HO392.out) hb); have n2_ := Aside0.mk (Kd.R_elder' (qr HO397.out) (Kd.R_base ho0) hb); have n3_ := Aside0.mk (Kd.R_below (qr HO401.out) hb); have n4_ := Aside0.mk (Kd.R_elder' (qr HO407.out) (Kd.R_base ho0) hb); have n5_ := Aside0.mk (Kd.R_lower (Kd.R_new' (Kd.R_new' (Kd.R_new' ho0 (Kd.R_lt (qr HO389.out))) (Kd.R_lt (qr HO397.out))) (Kd.R_lt (qr HO407.out))) (below_size (qw HB))); have n6_ := qbb BK384 hb; have n7_ := qbb BK398 hb; have n8_ := Aside0.mk (below_step (qw HB) hb); clear HO389; clear HO392; clear HO397; clear HO401; clear HO407; clear BK384; clear BK398; clear HB; have HO389 := n0_; have HO392 := n1_; have HO397 := n2_; have HO401 := n3_; have HO407 := n4_; have HO418 := n5_; have BK384 := n6_; have BK398 := n7_; have HB := n8_; clear n0_ n1_ n2_ n3_ n4_ n5_ n6_ n7_ n8_; (try clear hb); (try clear hb2); (try clear hk); (try clear hi); (try clear ho0); obtain ⟨Ao58, co58, eo58⟩ := Kd.R_slice HO418.out; subst eo58) | ((with_reducible refine gate_callee (f := 37) rfl ?_); refine goesL_ (some 76) rfl rfl Tryz.func37 (by kernel_rfl) rfl #[.agg #[.int .i64 t415, .slice Ao58 t416.length co58]] rfl (by (try simp only [List.map_toArray, List.map_cons, List.map_nil]); first | done | rfl | (simp only [List.length_drop, List.length_take]; rfl)) ?_; (with_reducible refine (impl_NeedlessClues.calls k t415 _ _ t416 t419 t422 _ ?side1 ?side2 A26.out).mono ?_); (case side1 => repeat (first | exact (Kd.R_reads' HO418.out).2.2 | (with_reducible refine Kd.C_alloc ?_ _) | (with_reducible refine Kd.C_drewN ?_ _) | (with_reducible refine Kd.C_drew ?_))); (case side2 => exact (Kd.R_reads' HO418.out).2.1); rintro e w59 ⟨v420, rfl, ho0, hb⟩; refine ⟨_, rfl, ?_⟩; have n0_ := Aside0.mk (Kd.R_below (qr HO389.out) hb); have n1_ := Aside0.mk (Kd.R_elder' (qr HO392.out) (Kd.R_base ho0) hb); have n2_ := Aside0.mk (Kd.R_below (qr HO397.out) hb); have n3_ := Aside0.mk (Kd.R_elder' (qr HO401.out) (Kd.R_base ho0) hb); have n4_ := Aside0.mk (Kd.R_below (qr HO407.out) hb); have n5_ := Aside0.mk (Kd.R_below (qr HO418.out) hb); have n6_ := Aside0.mk (Kd.R_lower (Kd.R_new' (Kd.R_new' ho0 (Kd.R_lt (qr HO392.out))) (Kd.R_lt (qr HO401.out))) (below_size (qw HB))); have n7_ := qbb BK384 hb; have n8_ := qbb BK398 hb; have n9_ := Aside0.mk (below_step (qw HB) hb); clear HO389; clear HO392; clear HO397; clear HO401; clear HO407; clear HO418; clear BK384; clear BK398; clear HB; have HO389 := n0_; have HO392 := n1_; have HO397 := n2_; have HO401 := n3_; have HO407 := n4_; have HO418 := n5_; have HO421 := n6_; have BK384 := n7_; have BK398 := n8_; have HB := n9_; clear n0_ n1_ n2_ n3_ n4_ n5_ n6_ n7_ n8_ n9_; (try clear hb); (try clear hb2); (try clear hk); (try clear hi); (try clear ho0); obtain ⟨Ao60, co60, eo60⟩ := Kd.R_slice HO421.out; subst eo60) | ((with_reducible refine gate_callee (f := 27) rfl ?_); refine goesL_ (some 81) rfl rfl Tryz.func27 (by kernel_rfl) rfl #[.slice Ao60 t419.length co60, .slice Ao48 t390.length co48] rfl (by (try simp only [List.map_toArray, List.map_cons, List.map_nil]); first | done | rfl | (simp only [List.length_drop, List.length_take]; rfl)) ?_; (with_reducible refine (laws_eqIntS.calls k _ _ t419 _ _ t390 true _ ?side1 ?side2 ?side3 ?side4 A27.out).mono ?_); (case side1 => repeat (first | exact (Kd.R_reads' HO421.out).2.2 | (with_reducible refine Kd.C_alloc ?_ _) | (with_reducible refine Kd.C_drewN ?_ _) | (with_reducible refine Kd.C_drew ?_))); (case side2 => exact (Kd.R_reads' HO421.out).2.1); (case side3 => repeat (first | exact (Kd.R_reads' HO392.out).2.2 | (with_reducible refine Kd.C_alloc ?_ _) | (with_reducible refine Kd.C_drewN ?_ _) | (with_reducible refine Kd.C_drew ?_))); (case side4 => exact (Kd.R_reads' HO392.out).2.1); rintro e w' ⟨rfl, ⟨nd, rfl⟩⟩; refine ⟨_, rfl, ?_⟩) | ((with_reducible refine gate_callee (f := 30) rfl ?_); refine goesL_ (some 90) rfl rfl Tryz.func30 (by kernel_rfl) rfl #[.slice Ao47 t413.length co47, .int .i64 1] rfl (by (try simp only [List.map_toArray, List.map_cons, List.map_nil]); first | done | (rw [show t413.length = t399.length from (Kd.R_reads' HO401.out).1.symm] <;> rfl) | rfl | (simp only [List.length_drop, List.length_take]; rfl)) ?_; (with_reducible refine (laws_heldIntS.calls k _ _ t413 1 t424 _ ?side1 ?side2 A30.out).mono ?_); (case side1 => repeat (first | exact (Kd.R_reads' HO401.out).2.2 | (with_reducible refine Kd.C_alloc ?_ _) | (with_reducible refine Kd.C_drewN ?_ _) | (with_reducible refine Kd.C_drew ?_))); (case side2 => rw [show t413.length = t399.length from (Kd.R_reads' HO401.out).1.symm]; exact (Kd.R_reads' HO401.out).2.1); rintro e w' ⟨rfl, ⟨nd, rfl⟩⟩; refine ⟨_, rfl, ?_⟩))
             go_ret
             exact ⟨by first | rfl | (simp [errW_none, errW_some] <;> rfl) | (simp [*, errW_none, errW_some] <;> rfl), qw HB⟩
            ·
             rw [if_neg c32] at H
             exact absurd H (by simp)
         ·
          replace c28 := Bool.eq_false_iff.mpr c28
          subst c28
          have H1 : (none) = some r := by rw [if_neg (show ¬ (false = true) by decide)] at H; exact H
          clear H
          have H := H1
          clear H1
          exact absurd H (by simp)
        ·
         rw [if_neg c24] at H
         exact absurd H (by simp)
      ·
       replace c20 := Bool.eq_false_iff.mpr c20
       subst c20
       have H1 : (none) = some r := by rw [if_neg (show ¬ (false = true) by decide)] at H; exact H
       clear H
       have H := H1
       clear H1
       exact absurd H (by simp)
    ·
     replace c16 := Bool.eq_false_iff.mpr c16
     subst c16
     have H1 : (none) = some r := by rw [if_neg (show ¬ (false = true) by decide)] at H; exact H
     clear H
     have H := H1
     clear H1
     exact absurd H (by simp)
  ·
   replace c12 := Bool.eq_false_iff.mpr c12
   subst c12
   have H1 : (none) = some r := by rw [if_neg (show ¬ (false = true) by decide)] at H; exact H
   clear H
   have H := H1
   clear H1
   exact absurd H (by simp)

end Go.Proofs.YtbgkaabbpdhhlaaGreatDoor.PA
