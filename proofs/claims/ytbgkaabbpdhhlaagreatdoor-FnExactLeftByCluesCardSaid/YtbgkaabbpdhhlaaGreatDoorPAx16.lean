-- printed by xprint.py: the kit's print.py with given contracts
import Derived.Test.YtbgkaabbpdhhlaaGreatDoorPAx0
import Derived.Test.YtbgkaabbpdhhlaaGreatDoorPAx1
import Derived.Test.YtbgkaabbpdhhlaaGreatDoorPAx3
import Derived.Test.YtbgkaabbpdhhlaaGreatDoorPAx4
import Derived.Test.YtbgkaabbpdhhlaaGreatDoorPAx6
import Derived.Test.YtbgkaabbpdhhlaaGreatDoorPAx7
import Derived.Test.YtbgkaabbpdhhlaaGreatDoorPAx8
namespace Go.Proofs.YtbgkaabbpdhhlaaGreatDoor.PA
open Go.RowKit Go.Proofs.YtbgkaabbpdhhlaaGreatDoorW.PrintWords Go.Proofs.YtbgkaabbpdhhlaaGreatDoorW.PrintLast Go.Proofs.YtbgkaabbpdhhlaaGreatDoorW.PrintMore
attribute [local go_sem] max2_int min2_int max_two min_two max_three min_three max_four min_four   -- for this text's walks alone
set_option linter.unusedVariables false
set_option linter.unusedSimpArgs false

/-! ### spec_LeftByClues: function 25 -/
def spec_LeftByClues.l0 : Nat → List Int → Int → Int → List (S65) → Option (List Int × Bool)
 | 0, _, _, _, _ => none
 | k + 1, x4, x5, x558000, x558001 => if x5 ≤ (x558001.length : Int) then (if 0 ≤ x5 then ((spec_pzAll.f k x558000 (x558001.take (x5 : Int).toNat)).bind fun t563 => (if x4.length < 17592186044416 then (spec_LeftByClues.l0 k (x4 ++ [(t563.length : Int)]) (wrap64 (x5 + 1)) x558000 x558001) else (none))) else (none)) else (some (x4, true))
def spec_LeftByClues.f (k : Nat) (a0_0 : Int) (l0_1 : List (S65)) : Option (List Int × Bool) := (spec_pzGood.f k a0_0 l0_1).bind fun t558 => (if t558 = true then (spec_LeftByClues.l0 k ([] : List Int) 0 a0_0 l0_1) else (some (([] : List Int), false)))
theorem spec_LeftByClues.mono_l : ∀ k, (∀ y0 y1 y2 y3, LeO (spec_LeftByClues.l0 k y0 y1 y2 y3) (spec_LeftByClues.l0 (k + 1) y0 y1 y2 y3))
 | 0 => fun _ _ _ _ r h => by simp [spec_LeftByClues.l0] at h
 | k + 1 => by
  have ih0 := spec_LeftByClues.mono_l k
  ·
   intro y0 y1 y2 y3
   unfold spec_LeftByClues.l0
   repeat' first
   | (with_reducible exact ih0 _ _ _ _)
   | (with_reducible exact spec_pzAll.mono _ _ _)
   | (with_reducible exact spec_pzGood.mono _ _ _)
   | (with_reducible exact LeO.refl _)
   | (with_reducible exact LeO.none _)
   | (with_reducible refine LeO.ite ?_ ?_)
   | (with_reducible refine LeO.bind ?_ (fun _ => ?_))
   | exact ih0 _ _ _ _
   | exact spec_pzAll.mono _ _ _
   | exact spec_pzGood.mono _ _ _
   | exact LeO.none _
   | refine LeO.ite ?_ ?_
   | refine LeO.bind ?_ (fun _ => ?_)
theorem spec_LeftByClues.mono : ∀ a0 a1 k, LeO (spec_LeftByClues.f k a0 a1) (spec_LeftByClues.f (k + 1) a0 a1) := by
 intro a0 a1 k
 have ih0 := spec_LeftByClues.mono_l k
 unfold spec_LeftByClues.f
 repeat' first
   | (with_reducible exact ih0 _ _ _ _)
   | (with_reducible exact spec_pzAll.mono _ _ _)
   | (with_reducible exact spec_pzGood.mono _ _ _)
   | (with_reducible exact LeO.refl _)
   | (with_reducible exact LeO.none _)
   | (with_reducible refine LeO.ite ?_ ?_)
   | (with_reducible refine LeO.bind ?_ (fun _ => ?_))
   | exact ih0 _ _ _ _
   | exact spec_pzAll.mono _ _ _
   | exact spec_pzGood.mono _ _ _
   | exact LeO.none _
   | refine LeO.ite ?_ ?_
   | refine LeO.bind ?_ (fun _ => ?_)
def spec_LeftByClues.T7 : Bool × List (List Nat × List Nat) := (true, [([], []), ([], []), ([1], [1]), ([], []), ([3], [3]), ([], []), ([4, 5], [4, 5]), ([2, 6], [2, 6]), ([7], [7]), ([8], [8]), ([0, 9, 7], [0, 9]), ([10, 10, 0, 1, 2, 3, 4, 5, 6, 7, 8, 9, 10], [0, 10])])
def spec_LeftByClues.B7 : List Nat := [0, 0, 2, 0, 8, 0, 56, 126, 254, 510, 1023, 2047]
theorem spec_LeftByClues.tab7 : rtab .any (opsOf Tryz.f25 7) = spec_LeftByClues.T7 := by kernel_rfl
theorem spec_LeftByClues.bits7 : waitsOk spec_LeftByClues.T7.2 spec_LeftByClues.B7 = true := by kernel_rfl
set_option maxHeartbeats 8000000 in
set_option maxRecDepth 100000 in
theorem spec_LeftByClues.calls (k : Nat) (a0_0 : Int) (A0_1 : Option Addr) (c0_1 : Nat) (l0_1 : List (S65)) (r1 : List Int) (r2 : Bool) (w : World) (hr0_1 : Kd.C k65 w A0_1 l0_1.length l0_1) (hc0_1 : l0_1.length ≤ c0_1) (h : spec_LeftByClues.f k a0_0 l0_1 = some (r1, r2)) :
  Calls Tryz.prog 25 #[.agg #[.int .i64 a0_0, .slice A0_1 l0_1.length c0_1]] w fun e w' => ∃ v0_ : Value, e = .returned (.tuple #[v0_, .bool r2]) ∧ Kd.R (Kd.int .i64) 3 w' w.heap.size (fun _ => True) v0_ r1 ∧ Below w.heap.size w w' := by
 have hu30 := Tryz.underlying30
 have HR0_1 := Aside0.mk hr0_1
 have HC0_1 := Aside0.mk hc0_1
 clear hr0_1 hc0_1
 have HB := Aside0.mk (Below.refl w.heap.size w)
 have H : ((spec_pzGood.f k a0_0 l0_1).bind fun t558 => (if t558 = true then (spec_LeftByClues.l0 k ([] : List Int) 0 a0_0 l0_1) else (some (([] : List Int), false)))) = some (r1, r2) := h
 clear h
 replace H := Option.bind_eq_some_iff.mp H
 obtain ⟨t558, A20, H⟩ := H
 replace H : (if t558 = true then (spec_LeftByClues.l0 k ([] : List Int) 0 a0_0 l0_1) else (some (([] : List Int), false))) = some (r1, r2) := H
 have A2 := Aside0.mk A20
 clear A20
 by_cases c3 : t558 = true
 ·
  subst c3
  have H1 : (spec_LeftByClues.l0 k ([] : List Int) 0 a0_0 l0_1) = some (r1, r2) := by rw [if_pos rfl] at H; exact H
  clear H
  have H := H1
  clear H1
  have H' := Aside0.mk H
  clear H
  go_enter Tryz.func25, Tryz.ntmps25
  go_wp2_with (first | ((with_reducible refine gate_dst (N := 1) rfl ?_); refine box_event ?hg (N := 1) ?hd (cs := #[.int .i64 a0_0, .slice A0_1 l0_1.length c0_1]) (t := 30) ?hr ?_; (case hd => rfl); (case hg => rfl); (case hr => first | (go_simp; done) | (go_simp; rfl)); intro gb557 hg w4 hbox hb; have n0_ := Aside0.mk (below_step (qw HB) hb); have n1_ := Aside0.mk (hbox); have n2_ := Aside0.mk ((by rw [hg]; exact (below_size (qw HB)) : w.heap.size ≤ gb557)); have n3_ := Aside0.mk ((by rw [hg]; exact (below_size (qw HB)) : w.heap.size ≤ gb557)); clear HB; have HB := n0_; have BK557 := n1_; have GW557 := n2_; have GE557 := n3_; clear n0_ n1_ n2_ n3_; clear hb hbox hg; have hcz5_0 : w4.cell? ⟨gb557, 0, none⟩ = some (.int .i64 a0_0) := bc BK557 0; have hcz5_1 : w4.cell? ⟨gb557, 1, none⟩ = some (.slice A0_1 l0_1.length c0_1) := bc BK557 1; have hfz5_0 := blk_frozen BK557.out 0; have hfz5_1 := blk_frozen BK557.out 1) | ((with_reducible refine gate_callee (f := 42) rfl ?_); refine goesL_ (some 7) rfl rfl Tryz.func42 (by kernel_rfl) rfl #[.agg #[.int .i64 a0_0, .slice A0_1 l0_1.length c0_1]] rfl (by (try simp only [List.map_toArray, List.map_cons, List.map_nil]); first | done | rfl | (simp only [List.length_drop, List.length_take]; rfl)) ?_; (with_reducible refine (spec_pzGood.calls k a0_0 _ _ l0_1 true _ ?side1 ?side2 A2.out).mono ?_); (case side1 => repeat (first | exact (Kd.C_below HR0_1.out HB.out) | (with_reducible refine Kd.C_alloc ?_ _) | (with_reducible refine Kd.C_drewN ?_ _) | (with_reducible refine Kd.C_drew ?_))); (case side2 => exact HC0_1.out); rintro e w6 ⟨rfl, hb⟩; refine ⟨_, rfl, ?_⟩; have n0_ := qbb BK557 hb; have n1_ := Aside0.mk (below_step (qw HB) hb); clear BK557; clear HB; have BK557 := n0_; have HB := n1_; clear n0_ n1_; (try clear hb); (try clear hb2); (try clear hk); (try clear hi)))
  go_loopg [4, 5] k (fun kq v4 v5 w' => ∃ (x4_1 : List Int) (x5_1 : Int), v5 = .int .i64 x5_1 ∧ Aside0 (spec_LeftByClues.l0 kq x4_1 x5_1 a0_0 l0_1 = some (r1, r2)) ∧ Aside0 (kq ≤ k) ∧ Aside0 (Kd.R (Kd.int .i64) 3 w' w.heap.size (fun _ => True) v4 x4_1) ∧ Aside0 (w'.heap[gb557]? = some (.cells #[.int .i64 a0_0, (.slice A0_1 l0_1.length c0_1)] 30 (0, 0))) ∧ Aside0 (Below w.heap.size w w'))
  case atStart => exact ⟨(([] : List Int)), (0), (by first | rfl | (simp; done) | (simp [*]; done) | (simp [isEmpty_bne]; done) | (simp [i64_w]; done) | (simp only [i64_w]; done)), H', ⟨Nat.le_refl _⟩, ⟨by first | exact Kd.R_nil _ _ _ _ _ | exact Kd.N_nil _ _ _ _ _ | exact Kd.V_nil _ _ _ _ _ | exact Kd.Q_nil _ _ _ _ _ | exact Kd.S_nil _ _ _ _ _⟩, ⟨by (with_reducible repeat (first | refine blk_drewN ?_ _ | refine blk_drew ?_ | refine blk_alloc ?_ _)); exact BK557.out⟩, ⟨by repeat (first | (with_reducible first | exact HB.out | apply below_alloc | apply pw_below_drewN | apply below_drew1 | refine below_set ?_ GE557.out) | exact HB.out)⟩⟩
  case round =>
   clear H'
   try clear c2
   try clear p2
   try clear c3
   try clear c4
   try clear hcz5_0
   try clear hcz5_1
   try clear hfz5_0
   try clear hfz5_1
   obtain ⟨x4_1, x5_1, rfl, HA, HK1, HO_4, BK557, HB⟩ := hrel
   cases gk with
   | zero => exact absurd HA.out (by simp [spec_LeftByClues.l0])
   | succ k1 =>
    have H := HA.out
    clear HA
    simp only [spec_LeftByClues.l0] at H
    by_cases c7 : x5_1 ≤ (l0_1.length : Int)
    ·
     rw [if_pos c7] at H
     have c7b0 : decide (x5_1 ≤ (l0_1.length : Int)) = true := decide_eq_true c7
     clear c7
     by_cases c8 : 0 ≤ x5_1
     ·
      rw [if_pos c8] at H
      have c8b0 := eq_true c8
      have c8b1 : decide (0 ≤ x5_1) = true := decide_eq_true c8
      clear c8
      have c9b0 := eq_true (of_decide_eq_true (by first | (with_reducible assumption) | assumption) : x5_1 ≤ (l0_1.length : Int))
      obtain ⟨y559, hy559⟩ : ∃ y_ : List (S65), y_ = (l0_1.take (x5_1 : Int).toNat) := ⟨_, rfl⟩
      replace H : ((spec_pzAll.f k1 a0_0 y559).bind fun t563 => (if x4_1.length < 17592186044416 then (spec_LeftByClues.l0 k1 (x4_1 ++ [(t563.length : Int)]) (wrap64 (x5_1 + 1)) a0_0 l0_1) else (none))) = some (r1, r2) := by first | (rw [hy559]; with_reducible exact H) | (have H2_ := (Option.bind_some _ _).symm.trans H; rw [hy559]; with_reducible exact H2_) | (have H2_ := (Option.bind_some _ _).symm.trans H; with_reducible exact H2_) | with_reducible exact H | (rw [hy559]; exact H) | exact H
      have Ny559 := Aside0.mk hy559
      clear hy559
      replace H := Option.bind_eq_some_iff.mp H
      obtain ⟨t563, A100, H⟩ := H
      replace H : (if x4_1.length < 17592186044416 then (spec_LeftByClues.l0 k1 (x4_1 ++ [(t563.length : Int)]) (wrap64 (x5_1 + 1)) a0_0 l0_1) else (none)) = some (r1, r2) := H
      have A10 := Aside0.mk A100
      clear A100
      by_cases c11 : x4_1.length < 17592186044416
      ·
       rw [if_pos c11] at H
       have LMc11 := Aside0.mk c11
       clear c11
       obtain ⟨y566, hy566⟩ : ∃ y_ : List Int, y_ = (x4_1 ++ [(t563.length : Int)]) := ⟨_, rfl⟩
       replace H : (spec_LeftByClues.l0 k1 y566 (wrap64 (x5_1 + 1)) a0_0 l0_1) = some (r1, r2) := by first | (rw [hy566]; with_reducible exact H) | (have H2_ := (Option.bind_some _ _).symm.trans H; rw [hy566]; with_reducible exact H2_) | (have H2_ := (Option.bind_some _ _).symm.trans H; with_reducible exact H2_) | with_reducible exact H | (rw [hy566]; exact H) | exact H
       have Ny566 := Aside0.mk hy566
       clear hy566
       have H' := Aside0.mk H
       clear H
       have hcz12_0 : wr.cell? ⟨gb557, 0, none⟩ = some (.int .i64 a0_0) := bc BK557 0
       have hcz12_1 : wr.cell? ⟨gb557, 1, none⟩ = some (.slice A0_1 l0_1.length c0_1) := bc BK557 1
       have hfz12_0 := blk_frozen BK557.out 0
       have hfz12_1 := blk_frozen BK557.out 1
       try go_wp2
       have n0_ := Aside0.mk (Kd.R_drew HO_4.out)
       have n1_ := Aside0.mk (blk_drew BK557.out)
       have n2_ := Aside0.mk (below_drew1 HB.out)
       clear HO_4
       clear BK557
       clear HB
       have HO_4 := n0_
       have BK557 := n1_
       have HB := n2_
       clear n0_ n1_ n2_
       have q14 : (x5_1 : Int) ≤ ((l0_1.length : Int) : Int) := of_decide_eq_true (by first | (with_reducible assumption) | assumption)
       obtain ⟨i014, hi014, _, hsz14, _⟩ := info_parts info65
       have hroom14 : l0_1.length ≤ c0_1 := HC0_1.out
       have hC14 : Kd.C k65 _ A0_1 l0_1.length l0_1 := HR0_1.out
       have hcut14 := cut_to (P := Tryz.prog) 28 65 .i64 Tryz.underlying28 hi014 A0_1 l0_1.length c0_1 x5_1 (of_decide_eq_true (by first | (with_reducible assumption) | assumption)) q14 hroom14
       have hr14 := Kd.C_take (m := (x5_1 : Int).toNat) hC14 (by omega)
       have hy14 : y559.length = (x5_1 : Int).toNat := (by rw [Ny559.out, List.length_take]; omega)
       rw [← Ny559.out] at hr14
       rw [← hy14] at hcut14
       have HR562 := Aside0.mk hr14
       have HC562 := Aside0.mk (show y559.length ≤ c0_1 from by omega)
       clear hr14 hC14 hroom14 hi014 hsz14
       have KY14 := Aside0.mk hy14
       clear hy14
       replace q14 := eq_true q14
       refine start_ (n := 12) (S := fun w' => w'.cell? ⟨gb557, 0, none⟩ = some (.int .i64 a0_0) ∧ w'.cell? ⟨gb557, 1, none⟩ = some (.slice A0_1 l0_1.length c0_1)) (ds := []) #[false, false, false, false, false, false, false, false, false, false, false, false] (by kernel_rfl) rfl rfl ⟨bc BK557 0, bc BK557 1⟩ (fun hHeld => ?_); refine with_tabW spec_LeftByClues.tab7 spec_LeftByClues.bits7 (fun HT_ HW_ => ?_)
       generalize wr.drew = w13 at HO_4 BK557 HB HR562 hHeld ⊢
       refine pure_ (i := 0) (N := some 16) (v := ?_) (a' := ?_) #[true, false, false, false, false, false, false, false, false, false, false, false] rfl rfl (any_of HT_.out (by kernel_rfl)) (fun _ _ _ h => h) (Or.inl ⟨by rfl, ?_⟩) ?_ ?_
       rotate_left
       ·
        intro w'
        go_simp
        with_reducible rfl
       rotate_left
       ·
        simp only [Act.put, List.setIfInBounds_toArray, List.set_cons_zero, List.set_cons_succ, i64_w, i32_w]
        rfl
       refine pure_ (i := 1) (N := some 17) (v := ?_) (a' := ?_) #[true, true, false, false, false, false, false, false, false, false, false, false] rfl rfl (any_of HT_.out (by kernel_rfl)) (fun _ _ _ h => h) (Or.inl ⟨by rfl, ?_⟩) ?_ ?_
       rotate_left
       ·
        intro w'
        go_simp
        with_reducible rfl
       rotate_left
       ·
        simp only [Act.put, List.setIfInBounds_toArray, List.set_cons_zero, List.set_cons_succ, i64_w, i32_w]
        rfl
       refine pure_ (i := 3) (N := some 19) (v := ?_) (a' := ?_) #[true, true, false, true, false, false, false, false, false, false, false, false] rfl rfl (any_of HT_.out (by kernel_rfl)) (fun _ _ _ h => h) (Or.inl ⟨by rfl, ?_⟩) ?_ ?_
       rotate_left
       ·
        intro w'
        go_simp
        with_reducible rfl
       rotate_left
       ·
        simp only [Act.put, List.setIfInBounds_toArray, List.set_cons_zero, List.set_cons_succ, i64_w, i32_w]
        rfl
       refine pure_ (i := 5) (N := some 21) (v := ?_) (a' := ?_) #[true, true, false, true, false, true, false, false, false, false, false, false] rfl rfl (any_of HT_.out (by kernel_rfl)) (fun _ _ _ h => h) (Or.inl ⟨by rfl, ?_⟩) ?_ ?_
       rotate_left
       ·
        intro w'
        go_simp
        with_reducible rfl
       rotate_left
       ·
        simp only [Act.put, List.setIfInBounds_toArray, List.set_cons_zero, List.set_cons_succ, i64_w, i32_w]
        rfl
       refine take_ (i := 2) (N := some 18) (v := ?_) (a' := ?_) #[true, true, true, true, false, true, false, false, false, false, false, false] rfl rfl (take_ofW HT_.out HW_.out (by kernel_rfl)) (fun _ _ _ h => h) (Or.inl ⟨by rfl, ?_⟩) hHeld ?_ ?_
       rotate_left
       ·
        rintro w' ⟨s0, s1⟩
        go_simp
        with_reducible rfl
       rotate_left
       ·
        simp only [Act.put, List.setIfInBounds_toArray, List.set_cons_zero, List.set_cons_succ, i64_w, i32_w]
        rfl
       refine take_ (i := 4) (N := some 20) (v := ?_) (a' := ?_) #[true, true, true, true, true, true, false, false, false, false, false, false] rfl rfl (take_ofW HT_.out HW_.out (by kernel_rfl)) (fun _ _ _ h => h) (Or.inl ⟨by rfl, ?_⟩) hHeld ?_ ?_
       rotate_left
       ·
        rintro w' ⟨s0, s1⟩
        go_simp
        with_reducible rfl
       rotate_left
       ·
        simp only [Act.put, List.setIfInBounds_toArray, List.set_cons_zero, List.set_cons_succ, i64_w, i32_w]
        rfl
       refine pure_ (i := 6) (N := some 22) (v := ?_) (a' := ?_) #[true, true, true, true, true, true, true, false, false, false, false, false] rfl rfl (any_of HT_.out (by kernel_rfl)) (fun _ _ _ h => h) (Or.inl ⟨by rfl, ?_⟩) ?_ ?_
       rotate_left
       ·
        intro w'
        go_simp
        with_reducible rfl
       rotate_left
       ·
        simp only [Act.put, List.setIfInBounds_toArray, List.set_cons_zero, List.set_cons_succ, i64_w, i32_w]
        rfl
       refine one_ (i := 7) (N := some 23) #[true, true, true, true, true, true, true, true, false, false, false, false] rfl rfl (one_of HT_.out (by kernel_rfl)) (by decide) (fun K hK => ?_)
       refine goes_ Tryz.func43 (by kernel_rfl) rfl #[.int .i64 a0_0, .slice A0_1 y559.length c0_1] (by rfl) rfl rfl (by (try simp only [List.map_toArray, List.map_cons, List.map_nil]); first | done | rfl | (simp only [List.length_drop, List.length_take]; rfl)) ?_
       with_reducible refine (spec_pzAll.calls k1 a0_0 _ _ y559 t563 _ ?side1 ?side2 A10.out).mono ?_
       (case side1 => repeat (first | exact (Kd.C_below HR562.out HB.out) | (with_reducible refine Kd.C_alloc ?_ _) | (with_reducible refine Kd.C_drewN ?_ _) | (with_reducible refine Kd.C_drew ?_)))
       (case side2 => exact HC562.out)
       rintro e w15 ⟨v564, rfl, ho0, hb⟩
       refine ⟨_, rfl, ?_⟩
       have n0_ := Aside0.mk (Kd.R_below (qr HO_4.out) hb)
       have n1_ := Aside0.mk (Kd.R_lower ho0 (below_size (qw HB)))
       have n2_ := qbb BK557 hb
       have n3_ := Aside0.mk (below_step (qw HB) hb)
       clear HO_4
       clear BK557
       clear HB
       have HO_4 := n0_
       have HO565 := n1_
       have BK557 := n2_
       have HB := n3_
       clear n0_ n1_ n2_ n3_
       (try clear hb)
       (try clear hb2)
       (try clear hk)
       (try clear hi)
       (try clear ho0)
       obtain ⟨Ao16, co16, eo16⟩ := Kd.R_slice HO565.out
       (first | subst eo16 | (injection eo16 with f1_ f2_ f3_; have f4_ := f1_.symm; have f5_ := f3_.symm; clear f1_ f2_ f3_; subst f4_; subst f5_))
       refine hK.out _ _ ⟨bc BK557 0, bc BK557 1⟩ (fun hHeld => ?_)
       clear hK K
       refine norm_ (a' := ?_) ?_ ?_
       rotate_left
       ·
        show Act.put _ (some 23) _ = _
        simp only [Act.put, List.setIfInBounds_toArray, List.set_cons_zero, List.set_cons_succ, i64_w, i32_w]
        rfl
       refine pure_ (i := 8) (N := some 24) (v := ?_) (a' := ?_) #[true, true, true, true, true, true, true, true, true, false, false, false] rfl rfl (any_of HT_.out (by kernel_rfl)) (fun _ _ _ h => h) (Or.inl ⟨by rfl, ?_⟩) ?_ ?_
       rotate_left
       ·
        intro w'
        go_simp
        with_reducible rfl
       rotate_left
       ·
        simp only [Act.put, List.setIfInBounds_toArray, List.set_cons_zero, List.set_cons_succ, i64_w, i32_w]
        rfl
       refine one_ (i := 9) (N := some 25) #[true, true, true, true, true, true, true, true, true, true, false, false] rfl rfl (one_of HT_.out (by kernel_rfl)) (by decide) (fun K hK => ?_)
       refine value_ (w1 := ?_) (v := ?_) (by rfl) rfl ?_ ?_
       rotate_left 2
       ·
        go_simp
        constructor
        · rfl
        · rfl
       refine hK.out _ _ ⟨(blk_cell (blk_alloc BK557.out _) 0).trans rfl, (blk_cell (blk_alloc BK557.out _) 1).trans rfl⟩ (fun hHeld => ?_)
       clear hK K
       refine norm_ (a' := ?_) ?_ ?_
       rotate_left
       ·
        show Act.put _ (some 25) _ = _
        simp only [Act.put, List.setIfInBounds_toArray, List.set_cons_zero, List.set_cons_succ, i64_w, i32_w]
        rfl
       refine one_ (i := 10) (N := some 26) #[true, true, true, true, true, true, true, true, true, true, true, false] rfl rfl (one_of HT_.out (by kernel_rfl)) (by decide) (fun K hK => ?_)
       refine Kd.R_append_step (Kd.int .i64) (w0 := w) w.heap.size (by rfl) (.tmp 16) (.tmp 25) 38 3 (.int .i64 0) 8 rfl Tryz.underlying38 info3 rfl (by decide) (by omega) u4 x4_1 (t563.length : Int) [.int .i64 (t563.length : Int)] (fun _ => True) (fun _ => False) rfl rfl ?aP (fun _ hk => hk.elim) ?aF ?aO ?aB ?aS ?aL ?_
       (case aP => exact rfl)
       (case aB => exact (qw HB))
       (case aF => exact (fun _ _ => trivial))
       (case aO => exact (qr HO_4.out))
       (case aS => exact (below_size (qw HB)))
       (case aL => have := LMc11.out; omega)
       intro v567 w17 ho hb hg hat
       rw [← Ny566.out] at ho
       have n0_ := Aside0.mk (blk_grown (g := gb557) (o := .cells #[.int .i64 a0_0, .slice A0_1 l0_1.length c0_1] 30 (0, 0)) (qb BK557) hg (Kd.R_ne HO_4.out BK557.out (by decide)))
       have n1_ := Aside0.mk (Kd.R_over' (qr HO565.out) (Kd.R_typed (qr HO_4.out)) (by decide) hg)
       have n2_ := Aside0.mk (hb)
       have n3_ := Aside0.mk (ho)
       clear BK557
       clear HO565
       clear HB
       clear HO_4
       have BK557 := n0_
       have HO565 := n1_
       have HB := n2_
       have HO568 := n3_
       clear n0_ n1_ n2_ n3_
       clear ho hb hg hat
       refine hK.out _ _ ⟨bc BK557 0, bc BK557 1⟩ (fun hHeld => ?_)
       clear hK K
       refine norm_ (a' := ?_) ?_ ?_
       rotate_left
       ·
        show Act.put _ (some 26) _ = _
        simp only [Act.put, List.setIfInBounds_toArray, List.set_cons_zero, List.set_cons_succ, i64_w, i32_w]
        rfl
       refine pure_ (i := 11) (N := some 4) (v := ?_) (a' := ?_) #[true, true, true, true, true, true, true, true, true, true, true, true] rfl rfl (any_of HT_.out (by kernel_rfl)) (fun _ _ _ h => h) (Or.inl ⟨by rfl, ?_⟩) ?_ ?_
       rotate_left
       ·
        intro w'
        go_simp
        with_reducible rfl
       rotate_left
       ·
        simp only [Act.put, List.setIfInBounds_toArray, List.set_cons_zero, List.set_cons_succ, i64_w, i32_w]
        rfl
       refine done_ (done_of HT_.out (by kernel_rfl)) ?_
       try go_wp2
       go_roundg k1
       case measure => have := HK1.out; omega
       case rel => exact ⟨(y566), (wrap64 (x5_1 + 1)), (by first | rfl | (simp; done) | (simp [*]; done) | (simp [isEmpty_bne]; done) | (simp [i64_w]; done) | (simp only [i64_w]; done)), H', ⟨by have := HK1.out; omega⟩, ⟨by (with_reducible repeat (first | apply Kd.R_alloc | apply Kd.R_drewN | apply Kd.R_drew)); exact HO568.out⟩, ⟨by (with_reducible repeat (first | refine blk_drewN ?_ _ | refine blk_drew ?_ | refine blk_alloc ?_ _)); exact BK557.out⟩, ⟨by repeat (first | (with_reducible first | exact HB.out | apply below_alloc | apply pw_below_drewN | apply below_drew1 | refine below_set ?_ GE557.out) | exact HB.out)⟩⟩
      ·
       rw [if_neg c11] at H
       exact absurd H (by simp)
     ·
      rw [if_neg c8] at H
      exact absurd H (by simp)
    ·
     rw [if_neg c7] at H
     have c7b0 : decide (x5_1 ≤ (l0_1.length : Int)) = false := decide_eq_false c7
     clear c7
     simp only [Option.some.injEq, Prod.mk.injEq] at H
     obtain ⟨rfl, rfl⟩ := H
     have hcz18_0 : wr.cell? ⟨gb557, 0, none⟩ = some (.int .i64 a0_0) := bc BK557 0
     have hcz18_1 : wr.cell? ⟨gb557, 1, none⟩ = some (.slice A0_1 l0_1.length c0_1) := bc BK557 1
     have hfz18_0 := blk_frozen BK557.out 0
     have hfz18_1 := blk_frozen BK557.out 1
     go_wp2
     go_ret2
     exact ⟨_, by first | rfl | (simp [errW_none, errW_some] <;> rfl) | (simp [*, errW_none, errW_some] <;> rfl), by (with_reducible repeat (first | apply Kd.R_alloc | apply Kd.R_drewN | apply Kd.R_drew)); exact HO_4.out, qw HB⟩
 ·
  replace c3 := Bool.eq_false_iff.mpr c3
  subst c3
  have H1 : (some (([] : List Int), false)) = some (r1, r2) := by rw [if_neg (show ¬ (false = true) by decide)] at H; exact H
  clear H
  have H := H1
  clear H1
  simp only [Option.some.injEq, Prod.mk.injEq] at H
  obtain ⟨rfl, rfl⟩ := H
  go_enter Tryz.func25, Tryz.ntmps25
  go_wp2_with (first | ((with_reducible refine gate_dst (N := 1) rfl ?_); refine box_event ?hg (N := 1) ?hd (cs := #[.int .i64 a0_0, .slice A0_1 l0_1.length c0_1]) (t := 30) ?hr ?_; (case hd => rfl); (case hg => rfl); (case hr => first | (go_simp; done) | (go_simp; rfl)); intro gb557 hg w19 hbox hb; have n0_ := Aside0.mk (below_step (qw HB) hb); have n1_ := Aside0.mk (hbox); have n2_ := Aside0.mk ((by rw [hg]; exact (below_size (qw HB)) : w.heap.size ≤ gb557)); have n3_ := Aside0.mk ((by rw [hg]; exact (below_size (qw HB)) : w.heap.size ≤ gb557)); clear HB; have HB := n0_; have BK557 := n1_; have GW557 := n2_; have GE557 := n3_; clear n0_ n1_ n2_ n3_; clear hb hbox hg; have hcz20_0 : w19.cell? ⟨gb557, 0, none⟩ = some (.int .i64 a0_0) := bc BK557 0; have hcz20_1 : w19.cell? ⟨gb557, 1, none⟩ = some (.slice A0_1 l0_1.length c0_1) := bc BK557 1; have hfz20_0 := blk_frozen BK557.out 0; have hfz20_1 := blk_frozen BK557.out 1) | ((with_reducible refine gate_callee (f := 42) rfl ?_); refine goesL_ (some 7) rfl rfl Tryz.func42 (by kernel_rfl) rfl #[.agg #[.int .i64 a0_0, .slice A0_1 l0_1.length c0_1]] rfl (by (try simp only [List.map_toArray, List.map_cons, List.map_nil]); first | done | rfl | (simp only [List.length_drop, List.length_take]; rfl)) ?_; (with_reducible refine (spec_pzGood.calls k a0_0 _ _ l0_1 false _ ?side1 ?side2 A2.out).mono ?_); (case side1 => repeat (first | exact (Kd.C_below HR0_1.out HB.out) | (with_reducible refine Kd.C_alloc ?_ _) | (with_reducible refine Kd.C_drewN ?_ _) | (with_reducible refine Kd.C_drew ?_))); (case side2 => exact HC0_1.out); rintro e w21 ⟨rfl, hb⟩; refine ⟨_, rfl, ?_⟩; have n0_ := qbb BK557 hb; have n1_ := Aside0.mk (below_step (qw HB) hb); clear BK557; clear HB; have BK557 := n0_; have HB := n1_; clear n0_ n1_; (try clear hb); (try clear hb2); (try clear hk); (try clear hi)))
  go_ret2
  exact ⟨_, by first | rfl | (simp [errW_none, errW_some] <;> rfl) | (simp [*, errW_none, errW_some] <;> rfl), by first | exact Kd.R_nil _ _ _ _ _ | exact Kd.N_nil _ _ _ _ _ | exact Kd.V_nil _ _ _ _ _ | exact Kd.Q_nil _ _ _ _ _ | exact Kd.S_nil _ _ _ _ _, qw HB⟩

/-! ### impl_LeftByClues: function 26 -/
def impl_LeftByClues.l0 : Nat → List Int → Int → Int → Int → List (S65) → Option (List Int × Bool)
 | 0, _, _, _, _, _ => none
 | k + 1, x4, x13, x14, x570000, x570001 => if x14 < x13 then (if 0 ≤ x14 then (if x14 ≤ (x570001.length : Int) then ((impl_fitting.f k x570000 (x570001.take (x14 : Int).toNat)).bind fun t578 => (if x4.length < 17592186044416 then (impl_LeftByClues.l0 k (x4 ++ [(t578.length : Int)]) x13 (wrap64 (x14 + 1)) x570000 x570001) else (none))) else (none)) else (none)) else (some (x4, true))
def impl_LeftByClues.f (k : Nat) (a0_0 : Int) (l0_1 : List (S65)) : Option (List Int × Bool) := (impl_IsPuzzle.f a0_0 l0_1).bind fun t570 => (if t570 = true then (impl_LeftByClues.l0 k (([] : List Int)) (wrap64 ((l0_1.length : Int) + 1)) 0 a0_0 l0_1) else (some (([] : List Int), false)))
theorem impl_LeftByClues.mono_l : ∀ k, (∀ y0 y1 y2 y3 y4, LeO (impl_LeftByClues.l0 k y0 y1 y2 y3 y4) (impl_LeftByClues.l0 (k + 1) y0 y1 y2 y3 y4))
 | 0 => fun _ _ _ _ _ r h => by simp [impl_LeftByClues.l0] at h
 | k + 1 => by
  have ih0 := impl_LeftByClues.mono_l k
  ·
   intro y0 y1 y2 y3 y4
   unfold impl_LeftByClues.l0
   repeat' first
   | (with_reducible exact ih0 _ _ _ _ _)
   | (with_reducible exact impl_fitting.mono _ _ _)
   | (with_reducible exact LeO.refl _)
   | (with_reducible exact LeO.none _)
   | (with_reducible refine LeO.ite ?_ ?_)
   | (with_reducible refine LeO.bind ?_ (fun _ => ?_))
   | exact ih0 _ _ _ _ _
   | exact impl_fitting.mono _ _ _
   | exact LeO.none _
   | refine LeO.ite ?_ ?_
   | refine LeO.bind ?_ (fun _ => ?_)
theorem impl_LeftByClues.mono : ∀ a0 a1 k, LeO (impl_LeftByClues.f k a0 a1) (impl_LeftByClues.f (k + 1) a0 a1) := by
 intro a0 a1 k
 have ih0 := impl_LeftByClues.mono_l k
 unfold impl_LeftByClues.f
 repeat' first
   | (with_reducible exact ih0 _ _ _ _ _)
   | (with_reducible exact impl_fitting.mono _ _ _)
   | (with_reducible exact LeO.refl _)
   | (with_reducible exact LeO.none _)
   | (with_reducible refine LeO.ite ?_ ?_)
   | (with_reducible refine LeO.bind ?_ (fun _ => ?_))
   | exact ih0 _ _ _ _ _
   | exact impl_fitting.mono _ _ _
   | exact LeO.none _
   | refine LeO.ite ?_ ?_
   | refine LeO.bind ?_ (fun _ => ?_)
def impl_LeftByClues.T7 : Bool × List (List Nat × List Nat) := (true, [([], []), ([], []), ([1], [1]), ([], []), ([3], [3]), ([], []), ([4, 5], [4, 5]), ([2, 6], [2, 6]), ([7], [7]), ([8], [8]), ([0, 9, 7], [0, 9]), ([10, 10, 0, 1, 2, 3, 4, 5, 6, 7, 8, 9, 10], [0, 10])])
def impl_LeftByClues.B7 : List Nat := [0, 0, 2, 0, 8, 0, 56, 126, 254, 510, 1023, 2047]
theorem impl_LeftByClues.tab7 : rtab .any (opsOf Tryz.f26 7) = impl_LeftByClues.T7 := by kernel_rfl
theorem impl_LeftByClues.bits7 : waitsOk impl_LeftByClues.T7.2 impl_LeftByClues.B7 = true := by kernel_rfl
set_option maxHeartbeats 8000000 in
set_option maxRecDepth 100000 in
theorem impl_LeftByClues.calls (k : Nat) (a0_0 : Int) (A0_1 : Option Addr) (c0_1 : Nat) (l0_1 : List (S65)) (r1 : List Int) (r2 : Bool) (w : World) (hr0_1 : Kd.C k65 w A0_1 l0_1.length l0_1) (hc0_1 : l0_1.length ≤ c0_1) (h : impl_LeftByClues.f k a0_0 l0_1 = some (r1, r2)) (hglob : Glob w := by first | exact Glob.below HG.out (by repeat (first | (with_reducible first | exact HB.out | apply below_alloc | apply pw_below_drewN | apply below_drew1 | refine below_set ?_ (Aside0.out (by assumption))) | exact HB.out)) | assumption) :
  Calls Tryz.prog 26 #[.agg #[.int .i64 a0_0, .slice A0_1 l0_1.length c0_1]] w fun e w' => ∃ v0_ : Value, e = .returned (.tuple #[v0_, .bool r2]) ∧ Kd.R (Kd.int .i64) 3 w' w.heap.size (fun _ => True) v0_ r1 ∧ Below w.heap.size w w' := by
 have HG := Aside0.mk hglob
 clear hglob
 have hu30 := Tryz.underlying30
 have HR0_1 := Aside0.mk hr0_1
 have HC0_1 := Aside0.mk hc0_1
 clear hr0_1 hc0_1
 have HB := Aside0.mk (Below.refl w.heap.size w)
 have H : ((impl_IsPuzzle.f a0_0 l0_1).bind fun t570 => (if t570 = true then (impl_LeftByClues.l0 k (([] : List Int)) (wrap64 ((l0_1.length : Int) + 1)) 0 a0_0 l0_1) else (some (([] : List Int), false)))) = some (r1, r2) := h
 clear h
 replace H := Option.bind_eq_some_iff.mp H
 obtain ⟨t570, A20, H⟩ := H
 replace H : (if t570 = true then (impl_LeftByClues.l0 k (([] : List Int)) (wrap64 ((l0_1.length : Int) + 1)) 0 a0_0 l0_1) else (some (([] : List Int), false))) = some (r1, r2) := H
 have A2 := Aside0.mk A20
 clear A20
 by_cases c3 : t570 = true
 ·
  subst c3
  have H1 : (impl_LeftByClues.l0 k (([] : List Int)) (wrap64 ((l0_1.length : Int) + 1)) 0 a0_0 l0_1) = some (r1, r2) := by rw [if_pos rfl] at H; exact H
  clear H
  have H := H1
  clear H1
  obtain ⟨y571, hy571⟩ : ∃ y_ : List Int, y_ = (([] : List Int)) := ⟨_, rfl⟩
  replace H : (impl_LeftByClues.l0 k y571 (wrap64 ((l0_1.length : Int) + 1)) 0 a0_0 l0_1) = some (r1, r2) := by first | (rw [hy571]; with_reducible exact H) | (have H2_ := (Option.bind_some _ _).symm.trans H; rw [hy571]; with_reducible exact H2_) | (have H2_ := (Option.bind_some _ _).symm.trans H; with_reducible exact H2_) | with_reducible exact H | (rw [hy571]; exact H) | exact H
  have Ny571 := Aside0.mk hy571
  clear hy571
  have H' := Aside0.mk H
  clear H
  go_enter Tryz.func26, Tryz.ntmps26
  go_wp2_with (first | ((with_reducible refine gate_dst (N := 1) rfl ?_); refine box_event ?hg (N := 1) ?hd (cs := #[.int .i64 a0_0, .slice A0_1 l0_1.length c0_1]) (t := 30) ?hr ?_; (case hd => rfl); (case hg => rfl); (case hr => first | (go_simp; done) | (go_simp; rfl)); intro gb569 hg w4 hbox hb; have n0_ := Aside0.mk (below_step (qw HB) hb); have n1_ := Aside0.mk (hbox); have n2_ := Aside0.mk ((by rw [hg]; exact (below_size (qw HB)) : w.heap.size ≤ gb569)); have n3_ := Aside0.mk ((by rw [hg]; exact (below_size (qw HB)) : w.heap.size ≤ gb569)); clear HB; have HB := n0_; have BK569 := n1_; have GW569 := n2_; have GE569 := n3_; clear n0_ n1_ n2_ n3_; clear hb hbox hg; have hcz5_0 : w4.cell? ⟨gb569, 0, none⟩ = some (.int .i64 a0_0) := bc BK569 0; have hcz5_1 : w4.cell? ⟨gb569, 1, none⟩ = some (.slice A0_1 l0_1.length c0_1) := bc BK569 1; have hfz5_0 := blk_frozen BK569.out 0; have hfz5_1 := blk_frozen BK569.out 1) | ((with_reducible refine gate_callee (f := 47) rfl ?_); refine goesL_ (some 7) rfl rfl Tryz.func47 (by kernel_rfl) rfl #[.agg #[.int .i64 a0_0, .slice A0_1 l0_1.length c0_1]] rfl (by (try simp only [List.map_toArray, List.map_cons, List.map_nil]); first | done | rfl | (simp only [List.length_drop, List.length_take]; rfl)) ?_; (with_reducible refine (impl_IsPuzzle.calls a0_0 _ _ l0_1 true _ ?side1 ?side2 A2.out).mono ?_); (case side1 => repeat (first | exact (Kd.C_below HR0_1.out HB.out) | (with_reducible refine Kd.C_alloc ?_ _) | (with_reducible refine Kd.C_drewN ?_ _) | (with_reducible refine Kd.C_drew ?_))); (case side2 => exact HC0_1.out); rintro e w6 ⟨rfl, hb⟩; refine ⟨_, rfl, ?_⟩; have n0_ := qbb BK569 hb; have n1_ := Aside0.mk (below_step (qw HB) hb); clear BK569; clear HB; have BK569 := n0_; have HB := n1_; clear n0_ n1_; (try clear hb); (try clear hb2); (try clear hk); (try clear hi)) | ((with_reducible refine gate_dst (N := 9) rfl ?_); refine Kd.R_lit (Kd.int .i64) _ 3 ?hg (N := 9) ?hd (xs := ([] : List Int)) (inner := []) (ok := fun _ => True) (okp := fun _ => True) ?hr ?hp (fun _ hk => hk) trivial (Below.refl _ _) (Nat.le_refl _) (by simp) ?_; (case hd => rfl); (case hg => rfl); (case hr => first | (go_simp; done) | (go_simp; rfl)); (case hp => exact (Reps.none _ _)); intro v572 w7 ho8 hb hg_ hnew_; clear hg_ hnew_; (first | rw [← Ny571.out] at ho8 | (simp only [Int.reduceToNat] at ho8; rw [← Ny571.out] at ho8)); have n0_ := Aside0.mk (Kd.R_lower ho8 (below_size (qw HB))); have n1_ := qbb BK569 hb; have n2_ := Aside0.mk (below_step (qw HB) hb); clear BK569; clear HB; have HO573 := n0_; have BK569 := n1_; have HB := n2_; clear n0_ n1_ n2_; clear hb ho8; have hcz9_0 : w7.cell? ⟨gb569, 0, none⟩ = some (.int .i64 a0_0) := bc BK569 0; have hcz9_1 : w7.cell? ⟨gb569, 1, none⟩ = some (.slice A0_1 l0_1.length c0_1) := bc BK569 1; have hfz9_0 := blk_frozen BK569.out 0; have hfz9_1 := blk_frozen BK569.out 1))
  go_loopg [4, 14] k (fun kq v4 v14 w' => ∃ (x4_1 : List Int) (x14_1 : Int), v14 = .int .i64 x14_1 ∧ Aside0 (impl_LeftByClues.l0 kq x4_1 (wrap64 ((l0_1.length : Int) + 1)) x14_1 a0_0 l0_1 = some (r1, r2)) ∧ Aside0 (kq ≤ k) ∧ Aside0 (Kd.R (Kd.int .i64) 3 w' w.heap.size (fun _ => True) v4 x4_1) ∧ Aside0 (w'.heap[gb569]? = some (.cells #[.int .i64 a0_0, (.slice A0_1 l0_1.length c0_1)] 30 (0, 0))) ∧ Aside0 (Below w.heap.size w w'))
  case atStart => exact ⟨(y571), (0), (by first | rfl | (simp; done) | (simp [*]; done) | (simp [isEmpty_bne]; done) | (simp [i64_w]; done) | (simp only [i64_w]; done)), H', ⟨Nat.le_refl _⟩, ⟨by (with_reducible repeat (first | apply Kd.R_alloc | apply Kd.R_drewN | apply Kd.R_drew)); exact HO573.out⟩, ⟨by (with_reducible repeat (first | refine blk_drewN ?_ _ | refine blk_drew ?_ | refine blk_alloc ?_ _)); exact BK569.out⟩, ⟨by repeat (first | (with_reducible first | exact HB.out | apply below_alloc | apply pw_below_drewN | apply below_drew1 | refine below_set ?_ GE569.out) | exact HB.out)⟩⟩
  case round =>
   clear H'
   try clear c2
   try clear p2
   try clear c3
   try clear c4
   try clear p6
   try clear hcz5_0
   try clear hcz5_1
   try clear hcz9_0
   try clear hcz9_1
   try clear hfz5_0
   try clear hfz5_1
   try clear hfz9_0
   try clear hfz9_1
   obtain ⟨x4_1, x14_1, rfl, HA, HK1, HO_4, BK569, HB⟩ := hrel
   cases gk with
   | zero => exact absurd HA.out (by simp [impl_LeftByClues.l0])
   | succ k1 =>
    have H := HA.out
    clear HA
    simp only [impl_LeftByClues.l0] at H
    by_cases c10 : x14_1 < (wrap64 ((l0_1.length : Int) + 1))
    ·
     rw [if_pos c10] at H
     have c10b0 : decide (x14_1 < (wrap64 ((l0_1.length : Int) + 1))) = true := decide_eq_true c10
     clear c10
     by_cases c11 : 0 ≤ x14_1
     ·
      rw [if_pos c11] at H
      have c11b0 := eq_true c11
      have c11b1 : decide (0 ≤ x14_1) = true := decide_eq_true c11
      clear c11
      by_cases c12 : x14_1 ≤ (l0_1.length : Int)
      ·
       rw [if_pos c12] at H
       have c12b0 := eq_true c12
       have c12b1 : decide (x14_1 ≤ (l0_1.length : Int)) = true := decide_eq_true c12
       clear c12
       obtain ⟨y574, hy574⟩ : ∃ y_ : List (S65), y_ = (l0_1.take (x14_1 : Int).toNat) := ⟨_, rfl⟩
       replace H : ((impl_fitting.f k1 a0_0 y574).bind fun t578 => (if x4_1.length < 17592186044416 then (impl_LeftByClues.l0 k1 (x4_1 ++ [(t578.length : Int)]) (wrap64 ((l0_1.length : Int) + 1)) (wrap64 (x14_1 + 1)) a0_0 l0_1) else (none))) = some (r1, r2) := by first | (rw [hy574]; with_reducible exact H) | (have H2_ := (Option.bind_some _ _).symm.trans H; rw [hy574]; with_reducible exact H2_) | (have H2_ := (Option.bind_some _ _).symm.trans H; with_reducible exact H2_) | with_reducible exact H | (rw [hy574]; exact H) | exact H
       have Ny574 := Aside0.mk hy574
       clear hy574
       replace H := Option.bind_eq_some_iff.mp H
       obtain ⟨t578, A130, H⟩ := H
       replace H : (if x4_1.length < 17592186044416 then (impl_LeftByClues.l0 k1 (x4_1 ++ [(t578.length : Int)]) (wrap64 ((l0_1.length : Int) + 1)) (wrap64 (x14_1 + 1)) a0_0 l0_1) else (none)) = some (r1, r2) := H
       have A13 := Aside0.mk A130
       clear A130
       by_cases c14 : x4_1.length < 17592186044416
       ·
        rw [if_pos c14] at H
        have LMc14 := Aside0.mk c14
        clear c14
        obtain ⟨y581, hy581⟩ : ∃ y_ : List Int, y_ = (x4_1 ++ [(t578.length : Int)]) := ⟨_, rfl⟩
        replace H : (impl_LeftByClues.l0 k1 y581 (wrap64 ((l0_1.length : Int) + 1)) (wrap64 (x14_1 + 1)) a0_0 l0_1) = some (r1, r2) := by first | (rw [hy581]; with_reducible exact H) | (have H2_ := (Option.bind_some _ _).symm.trans H; rw [hy581]; with_reducible exact H2_) | (have H2_ := (Option.bind_some _ _).symm.trans H; with_reducible exact H2_) | with_reducible exact H | (rw [hy581]; exact H) | exact H
        have Ny581 := Aside0.mk hy581
        clear hy581
        have H' := Aside0.mk H
        clear H
        try go_wp2
        have n0_ := Aside0.mk (Kd.R_drew HO_4.out)
        have n1_ := Aside0.mk (blk_drew BK569.out)
        have n2_ := Aside0.mk (below_drew1 HB.out)
        clear HO_4
        clear BK569
        clear HB
        have HO_4 := n0_
        have BK569 := n1_
        have HB := n2_
        clear n0_ n1_ n2_
        have q16 : (x14_1 : Int) ≤ ((l0_1.length : Int) : Int) := of_decide_eq_true (by first | (with_reducible assumption) | assumption)
        obtain ⟨i016, hi016, _, hsz16, _⟩ := info_parts info65
        have hroom16 : l0_1.length ≤ c0_1 := HC0_1.out
        have hC16 : Kd.C k65 _ A0_1 l0_1.length l0_1 := HR0_1.out
        have hcut16 := cut_to (P := Tryz.prog) 28 65 .i64 Tryz.underlying28 hi016 A0_1 l0_1.length c0_1 x14_1 (of_decide_eq_true (by first | (with_reducible assumption) | assumption)) q16 hroom16
        have hr16 := Kd.C_take (m := (x14_1 : Int).toNat) hC16 (by omega)
        have hy16 : y574.length = (x14_1 : Int).toNat := (by rw [Ny574.out, List.length_take]; omega)
        rw [← Ny574.out] at hr16
        rw [← hy16] at hcut16
        have HR577 := Aside0.mk hr16
        have HC577 := Aside0.mk (show y574.length ≤ c0_1 from by omega)
        clear hr16 hC16 hroom16 hi016 hsz16
        have KY16 := Aside0.mk hy16
        clear hy16
        replace q16 := eq_true q16
        refine start_ (n := 12) (S := fun w' => w'.cell? ⟨gb569, 0, none⟩ = some (.int .i64 a0_0) ∧ w'.cell? ⟨gb569, 1, none⟩ = some (.slice A0_1 l0_1.length c0_1)) (ds := []) #[false, false, false, false, false, false, false, false, false, false, false, false] (by kernel_rfl) rfl rfl ⟨bc BK569 0, bc BK569 1⟩ (fun hHeld => ?_); refine with_tabW impl_LeftByClues.tab7 impl_LeftByClues.bits7 (fun HT_ HW_ => ?_)
        generalize wr.drew = w15 at HO_4 BK569 HB HR577 hHeld ⊢
        refine pure_ (i := 0) (N := some 17) (v := ?_) (a' := ?_) #[true, false, false, false, false, false, false, false, false, false, false, false] rfl rfl (any_of HT_.out (by kernel_rfl)) (fun _ _ _ h => h) (Or.inl ⟨by rfl, ?_⟩) ?_ ?_
        rotate_left
        ·
         intro w'
         go_simp
         with_reducible rfl
        rotate_left
        ·
         simp only [Act.put, List.setIfInBounds_toArray, List.set_cons_zero, List.set_cons_succ, i64_w, i32_w]
         rfl
        refine pure_ (i := 1) (N := some 18) (v := ?_) (a' := ?_) #[true, true, false, false, false, false, false, false, false, false, false, false] rfl rfl (any_of HT_.out (by kernel_rfl)) (fun _ _ _ h => h) (Or.inl ⟨by rfl, ?_⟩) ?_ ?_
        rotate_left
        ·
         intro w'
         go_simp
         with_reducible rfl
        rotate_left
        ·
         simp only [Act.put, List.setIfInBounds_toArray, List.set_cons_zero, List.set_cons_succ, i64_w, i32_w]
         rfl
        refine pure_ (i := 3) (N := some 20) (v := ?_) (a' := ?_) #[true, true, false, true, false, false, false, false, false, false, false, false] rfl rfl (any_of HT_.out (by kernel_rfl)) (fun _ _ _ h => h) (Or.inl ⟨by rfl, ?_⟩) ?_ ?_
        rotate_left
        ·
         intro w'
         go_simp
         with_reducible rfl
        rotate_left
        ·
         simp only [Act.put, List.setIfInBounds_toArray, List.set_cons_zero, List.set_cons_succ, i64_w, i32_w]
         rfl
        refine pure_ (i := 5) (N := some 22) (v := ?_) (a' := ?_) #[true, true, false, true, false, true, false, false, false, false, false, false] rfl rfl (any_of HT_.out (by kernel_rfl)) (fun _ _ _ h => h) (Or.inl ⟨by rfl, ?_⟩) ?_ ?_
        rotate_left
        ·
         intro w'
         go_simp
         with_reducible rfl
        rotate_left
        ·
         simp only [Act.put, List.setIfInBounds_toArray, List.set_cons_zero, List.set_cons_succ, i64_w, i32_w]
         rfl
        refine take_ (i := 2) (N := some 19) (v := ?_) (a' := ?_) #[true, true, true, true, false, true, false, false, false, false, false, false] rfl rfl (take_ofW HT_.out HW_.out (by kernel_rfl)) (fun _ _ _ h => h) (Or.inl ⟨by rfl, ?_⟩) hHeld ?_ ?_
        rotate_left
        ·
         rintro w' ⟨s0, s1⟩
         go_simp
         with_reducible rfl
        rotate_left
        ·
         simp only [Act.put, List.setIfInBounds_toArray, List.set_cons_zero, List.set_cons_succ, i64_w, i32_w]
         rfl
        refine take_ (i := 4) (N := some 21) (v := ?_) (a' := ?_) #[true, true, true, true, true, true, false, false, false, false, false, false] rfl rfl (take_ofW HT_.out HW_.out (by kernel_rfl)) (fun _ _ _ h => h) (Or.inl ⟨by rfl, ?_⟩) hHeld ?_ ?_
        rotate_left
        ·
         rintro w' ⟨s0, s1⟩
         go_simp
         with_reducible rfl
        rotate_left
        ·
         simp only [Act.put, List.setIfInBounds_toArray, List.set_cons_zero, List.set_cons_succ, i64_w, i32_w]
         rfl
        refine pure_ (i := 6) (N := some 23) (v := ?_) (a' := ?_) #[true, true, true, true, true, true, true, false, false, false, false, false] rfl rfl (any_of HT_.out (by kernel_rfl)) (fun _ _ _ h => h) (Or.inl ⟨by rfl, ?_⟩) ?_ ?_
        rotate_left
        ·
         intro w'
         go_simp
         with_reducible rfl
        rotate_left
        ·
         simp only [Act.put, List.setIfInBounds_toArray, List.set_cons_zero, List.set_cons_succ, i64_w, i32_w]
         rfl
        refine one_ (i := 7) (N := some 24) #[true, true, true, true, true, true, true, true, false, false, false, false] rfl rfl (one_of HT_.out (by kernel_rfl)) (by decide) (fun K hK => ?_)
        refine goes_ Tryz.func48 (by kernel_rfl) rfl #[.int .i64 a0_0, .slice A0_1 y574.length c0_1] (by rfl) rfl rfl (by (try simp only [List.map_toArray, List.map_cons, List.map_nil]); first | done | rfl | (simp only [List.length_drop, List.length_take]; rfl)) ?_
        with_reducible refine (impl_fitting.calls k1 a0_0 _ _ y574 t578 _ ?side1 ?side2 A13.out).mono ?_
        (case side1 => repeat (first | exact (Kd.C_below HR577.out HB.out) | (with_reducible refine Kd.C_alloc ?_ _) | (with_reducible refine Kd.C_drewN ?_ _) | (with_reducible refine Kd.C_drew ?_)))
        (case side2 => exact HC577.out)
        rintro e w17 ⟨v579, rfl, ho0, hb⟩
        refine ⟨_, rfl, ?_⟩
        have n0_ := Aside0.mk (Kd.R_below (qr HO_4.out) hb)
        have n1_ := Aside0.mk (Kd.R_lower ho0 (below_size (qw HB)))
        have n2_ := qbb BK569 hb
        have n3_ := Aside0.mk (below_step (qw HB) hb)
        clear HO_4
        clear BK569
        clear HB
        have HO_4 := n0_
        have HO580 := n1_
        have BK569 := n2_
        have HB := n3_
        clear n0_ n1_ n2_ n3_
        (try clear hb)
        (try clear hb2)
        (try clear hk)
        (try clear hi)
        (try clear ho0)
        obtain ⟨Ao18, co18, eo18⟩ := Kd.R_slice HO580.out
        (first | subst eo18 | (injection eo18 with f1_ f2_ f3_; have f4_ := f1_.symm; have f5_ := f3_.symm; clear f1_ f2_ f3_; subst f4_; subst f5_))
        refine hK.out _ _ ⟨bc BK569 0, bc BK569 1⟩ (fun hHeld => ?_)
        clear hK K
        refine norm_ (a' := ?_) ?_ ?_
        rotate_left
        ·
         show Act.put _ (some 24) _ = _
         simp only [Act.put, List.setIfInBounds_toArray, List.set_cons_zero, List.set_cons_succ, i64_w, i32_w]
         rfl
        refine pure_ (i := 8) (N := some 25) (v := ?_) (a' := ?_) #[true, true, true, true, true, true, true, true, true, false, false, false] rfl rfl (any_of HT_.out (by kernel_rfl)) (fun _ _ _ h => h) (Or.inl ⟨by rfl, ?_⟩) ?_ ?_
        rotate_left
        ·
         intro w'
         go_simp
         with_reducible rfl
        rotate_left
        ·
         simp only [Act.put, List.setIfInBounds_toArray, List.set_cons_zero, List.set_cons_succ, i64_w, i32_w]
         rfl
        refine one_ (i := 9) (N := some 26) #[true, true, true, true, true, true, true, true, true, true, false, false] rfl rfl (one_of HT_.out (by kernel_rfl)) (by decide) (fun K hK => ?_)
        refine value_ (w1 := ?_) (v := ?_) (by rfl) rfl ?_ ?_
        rotate_left 2
        ·
         go_simp
         constructor
         · rfl
         · rfl
        refine hK.out _ _ ⟨(blk_cell (blk_alloc BK569.out _) 0).trans rfl, (blk_cell (blk_alloc BK569.out _) 1).trans rfl⟩ (fun hHeld => ?_)
        clear hK K
        refine norm_ (a' := ?_) ?_ ?_
        rotate_left
        ·
         show Act.put _ (some 26) _ = _
         simp only [Act.put, List.setIfInBounds_toArray, List.set_cons_zero, List.set_cons_succ, i64_w, i32_w]
         rfl
        refine one_ (i := 10) (N := some 27) #[true, true, true, true, true, true, true, true, true, true, true, false] rfl rfl (one_of HT_.out (by kernel_rfl)) (by decide) (fun K hK => ?_)
        refine Kd.R_append_step (Kd.int .i64) (w0 := w) w.heap.size (by rfl) (.tmp 17) (.tmp 26) 38 3 (.int .i64 0) 8 rfl Tryz.underlying38 info3 rfl (by decide) (by omega) u4 x4_1 (t578.length : Int) [.int .i64 (t578.length : Int)] (fun _ => True) (fun _ => False) rfl rfl ?aP (fun _ hk => hk.elim) ?aF ?aO ?aB ?aS ?aL ?_
        (case aP => exact rfl)
        (case aB => exact (qw HB))
        (case aF => exact (fun _ _ => trivial))
        (case aO => exact (qr HO_4.out))
        (case aS => exact (below_size (qw HB)))
        (case aL => have := LMc14.out; omega)
        intro v582 w19 ho hb hg hat
        rw [← Ny581.out] at ho
        have n0_ := Aside0.mk (blk_grown (g := gb569) (o := .cells #[.int .i64 a0_0, .slice A0_1 l0_1.length c0_1] 30 (0, 0)) (qb BK569) hg (Kd.R_ne HO_4.out BK569.out (by decide)))
        have n1_ := Aside0.mk (Kd.R_over' (qr HO580.out) (Kd.R_typed (qr HO_4.out)) (by decide) hg)
        have n2_ := Aside0.mk (hb)
        have n3_ := Aside0.mk (ho)
        clear BK569
        clear HO580
        clear HB
        clear HO_4
        have BK569 := n0_
        have HO580 := n1_
        have HB := n2_
        have HO583 := n3_
        clear n0_ n1_ n2_ n3_
        clear ho hb hg hat
        refine hK.out _ _ ⟨bc BK569 0, bc BK569 1⟩ (fun hHeld => ?_)
        clear hK K
        refine norm_ (a' := ?_) ?_ ?_
        rotate_left
        ·
         show Act.put _ (some 27) _ = _
         simp only [Act.put, List.setIfInBounds_toArray, List.set_cons_zero, List.set_cons_succ, i64_w, i32_w]
         rfl
        refine pure_ (i := 11) (N := some 4) (v := ?_) (a' := ?_) #[true, true, true, true, true, true, true, true, true, true, true, true] rfl rfl (any_of HT_.out (by kernel_rfl)) (fun _ _ _ h => h) (Or.inl ⟨by rfl, ?_⟩) ?_ ?_
        rotate_left
        ·
         intro w'
         go_simp
         with_reducible rfl
        rotate_left
        ·
         simp only [Act.put, List.setIfInBounds_toArray, List.set_cons_zero, List.set_cons_succ, i64_w, i32_w]
         rfl
        refine done_ (done_of HT_.out (by kernel_rfl)) ?_
        try go_wp2
        go_roundg k1
        case measure => have := HK1.out; omega
        case rel => exact ⟨(y581), (wrap64 (x14_1 + 1)), (by first | rfl | (simp; done) | (simp [*]; done) | (simp [isEmpty_bne]; done) | (simp [i64_w]; done) | (simp only [i64_w]; done)), H', ⟨by have := HK1.out; omega⟩, ⟨by (with_reducible repeat (first | apply Kd.R_alloc | apply Kd.R_drewN | apply Kd.R_drew)); exact HO583.out⟩, ⟨by (with_reducible repeat (first | refine blk_drewN ?_ _ | refine blk_drew ?_ | refine blk_alloc ?_ _)); exact BK569.out⟩, ⟨by repeat (first | (with_reducible first | exact HB.out | apply below_alloc | apply pw_below_drewN | apply below_drew1 | refine below_set ?_ GE569.out) | exact HB.out)⟩⟩
       ·
        rw [if_neg c14] at H
        exact absurd H (by simp)
      ·
       rw [if_neg c12] at H
       exact absurd H (by simp)
     ·
      rw [if_neg c11] at H
      exact absurd H (by simp)
    ·
     rw [if_neg c10] at H
     have c10b0 : decide (x14_1 < (wrap64 ((l0_1.length : Int) + 1))) = false := decide_eq_false c10
     clear c10
     simp only [Option.some.injEq, Prod.mk.injEq] at H
     obtain ⟨rfl, rfl⟩ := H
     go_wp2
     go_ret2
     exact ⟨_, by first | rfl | (simp [errW_none, errW_some] <;> rfl) | (simp [*, errW_none, errW_some] <;> rfl), by (with_reducible repeat (first | apply Kd.R_alloc | apply Kd.R_drewN | apply Kd.R_drew)); exact HO_4.out, qw HB⟩
 ·
  replace c3 := Bool.eq_false_iff.mpr c3
  subst c3
  have H1 : (some (([] : List Int), false)) = some (r1, r2) := by rw [if_neg (show ¬ (false = true) by decide)] at H; exact H
  clear H
  have H := H1
  clear H1
  simp only [Option.some.injEq, Prod.mk.injEq] at H
  obtain ⟨rfl, rfl⟩ := H
  go_enter Tryz.func26, Tryz.ntmps26
  go_wp2_with (first | ((with_reducible refine gate_dst (N := 1) rfl ?_); refine box_event ?hg (N := 1) ?hd (cs := #[.int .i64 a0_0, .slice A0_1 l0_1.length c0_1]) (t := 30) ?hr ?_; (case hd => rfl); (case hg => rfl); (case hr => first | (go_simp; done) | (go_simp; rfl)); intro gb569 hg w20 hbox hb; have n0_ := Aside0.mk (below_step (qw HB) hb); have n1_ := Aside0.mk (hbox); have n2_ := Aside0.mk ((by rw [hg]; exact (below_size (qw HB)) : w.heap.size ≤ gb569)); have n3_ := Aside0.mk ((by rw [hg]; exact (below_size (qw HB)) : w.heap.size ≤ gb569)); clear HB; have HB := n0_; have BK569 := n1_; have GW569 := n2_; have GE569 := n3_; clear n0_ n1_ n2_ n3_; clear hb hbox hg; have hcz21_0 : w20.cell? ⟨gb569, 0, none⟩ = some (.int .i64 a0_0) := bc BK569 0; have hcz21_1 : w20.cell? ⟨gb569, 1, none⟩ = some (.slice A0_1 l0_1.length c0_1) := bc BK569 1; have hfz21_0 := blk_frozen BK569.out 0; have hfz21_1 := blk_frozen BK569.out 1) | ((with_reducible refine gate_callee (f := 47) rfl ?_); refine goesL_ (some 7) rfl rfl Tryz.func47 (by kernel_rfl) rfl #[.agg #[.int .i64 a0_0, .slice A0_1 l0_1.length c0_1]] rfl (by (try simp only [List.map_toArray, List.map_cons, List.map_nil]); first | done | rfl | (simp only [List.length_drop, List.length_take]; rfl)) ?_; (with_reducible refine (impl_IsPuzzle.calls a0_0 _ _ l0_1 false _ ?side1 ?side2 A2.out).mono ?_); (case side1 => repeat (first | exact (Kd.C_below HR0_1.out HB.out) | (with_reducible refine Kd.C_alloc ?_ _) | (with_reducible refine Kd.C_drewN ?_ _) | (with_reducible refine Kd.C_drew ?_))); (case side2 => exact HC0_1.out); rintro e w22 ⟨rfl, hb⟩; refine ⟨_, rfl, ?_⟩; have n0_ := qbb BK569 hb; have n1_ := Aside0.mk (below_step (qw HB) hb); clear BK569; clear HB; have BK569 := n0_; have HB := n1_; clear n0_ n1_; (try clear hb); (try clear hb2); (try clear hk); (try clear hi)))
  go_ret2
  exact ⟨_, by first | rfl | (simp [errW_none, errW_some] <;> rfl) | (simp [*, errW_none, errW_some] <;> rfl), by first | exact Kd.R_nil _ _ _ _ _ | exact Kd.N_nil _ _ _ _ _ | exact Kd.V_nil _ _ _ _ _ | exact Kd.Q_nil _ _ _ _ _ | exact Kd.S_nil _ _ _ _ _, qw HB⟩

/-! ### laws_FnExactLeftByClues: function 8 -/
theorem laws_FnExactLeftByClues.kq {P Q : Nat → Prop} (h : ∀ k, P k → Q k := by (intro k_ hk_; revert hk_; (try simp only [and_imp, ne_eq]); intros; first | trivial | assumption | exact ⟨by assumption, by assumption⟩ | exact ⟨by assumption, by assumption, by assumption⟩ | exact ⟨⟨by assumption, by assumption⟩, by assumption⟩)) : ∀ k, P k → Q k := h
theorem laws_FnExactLeftByClues.ks {P Q : Nat → Prop} (h : ∀ k, P k → Q k → False := by (intro k_ hk_ hs_; revert hs_ hk_; (try simp only [and_imp, ne_eq]); intros; first | contradiction | (exfalso; simp_all))) : ∀ k, P k → Q k → False := h
def laws_FnExactLeftByClues.f (k : Nat) (a0_0 : Int) (l0_1 : List (S72)) : Option (Bool) := (laws_szPuzzle.f a0_0 l0_1 1048576).bind fun t585 => (if t585 < 0 then (some true) else ((laws_toPuzzle.f k a0_0 l0_1).bind fun bt586 => ((spec_LeftByClues.f k bt586.1 bt586.2).bind fun bt590 => ((laws_toPuzzle.f k a0_0 l0_1).bind fun bt594 => ((impl_LeftByClues.f k bt594.1 bt594.2).bind fun bt599 => ((laws_eqIntS.f k bt599.1 bt590.1).bind fun t603 => (if t603 = true then (if (bt599.2 != bt590.2) = true then (none) else ((laws_toPuzzle.f k a0_0 l0_1).bind fun bt604 => ((laws_eqPuzzle.f k bt594.1 bt594.2 bt604.1 bt604.2).bind fun t608 => (if t608 = true then ((laws_markPuzzle.f k bt594.1 bt594.2 1).bind fun bt609 => (if bt609.1 < 0 then (none) else ((laws_eqIntS.f k bt599.1 bt590.1).bind fun t611 => (if t611 = true then ((laws_markIntS.f k bt599.1 1).bind fun bt612 => ((laws_heldIntS.f k bt612.2 1).bind fun t614 => (if t614 < 0 then (none) else (if t614 = bt612.1 then ((laws_toPuzzle.f k a0_0 l0_1).bind fun bt615 => ((impl_LeftByClues.f k bt615.1 bt615.2).bind fun bt619 => ((laws_eqIntS.f k bt619.1 bt590.1).bind fun t623 => (if t623 = true then (if (bt619.2 != bt590.2) = true then (none) else ((laws_heldIntS.f k bt612.2 1).bind fun t624 => (if t624 < 0 then (none) else (if t624 = bt612.1 then (some true) else (none))))) else (none))))) else (none))))) else (none))))) else (none))))) else (none))))))))
theorem laws_FnExactLeftByClues.mono : ∀ a0 a1 k, LeO (laws_FnExactLeftByClues.f k a0 a1) (laws_FnExactLeftByClues.f (k + 1) a0 a1) := by
 intro a0 a1 k
 unfold laws_FnExactLeftByClues.f
 repeat' first
   | (with_reducible exact impl_LeftByClues.mono _ _ _)
   | (with_reducible exact laws_eqIntS.mono _ _ _)
   | (with_reducible exact laws_eqPuzzle.mono _ _ _ _ _)
   | (with_reducible exact laws_heldIntS.mono _ _ _)
   | (with_reducible exact laws_markIntS.mono _ _ _)
   | (with_reducible exact laws_markPuzzle.mono _ _ _ _)
   | (with_reducible exact laws_toPuzzle.mono _ _ _)
   | (with_reducible exact spec_LeftByClues.mono _ _ _)
   | (with_reducible exact LeO.refl _)
   | (with_reducible exact LeO.none _)
   | (with_reducible refine LeO.ite ?_ ?_)
   | (with_reducible refine LeO.bind ?_ (fun _ => ?_))
   | exact impl_LeftByClues.mono _ _ _
   | exact laws_eqIntS.mono _ _ _
   | exact laws_eqPuzzle.mono _ _ _ _ _
   | exact laws_heldIntS.mono _ _ _
   | exact laws_markIntS.mono _ _ _
   | exact laws_markPuzzle.mono _ _ _ _
   | exact laws_toPuzzle.mono _ _ _
   | exact spec_LeftByClues.mono _ _ _
   | exact LeO.none _
   | refine LeO.ite ?_ ?_
   | refine LeO.bind ?_ (fun _ => ?_)
set_option maxHeartbeats 8000000 in
set_option maxRecDepth 100000 in
theorem laws_FnExactLeftByClues.calls (k : Nat) (a0_0 : Int) (A0_1 : Option Addr) (c0_1 : Nat) (l0_1 : List (S72)) (r : Bool) (w : World) (hr0_1 : Kd.C k72 w A0_1 l0_1.length l0_1) (hc0_1 : l0_1.length ≤ c0_1) (h : laws_FnExactLeftByClues.f k a0_0 l0_1 = some r) (hglob : Glob w := by first | exact Glob.below HG.out (by repeat (first | (with_reducible first | exact HB.out | apply below_alloc | apply pw_below_drewN | apply below_drew1 | refine below_set ?_ (Aside0.out (by assumption))) | exact HB.out)) | assumption) :
  Calls Tryz.prog 8 #[.agg #[.int .i64 a0_0, .slice A0_1 l0_1.length c0_1]] w fun e w' => e = .returned (.bool r) ∧ Below w.heap.size w w' := by
 have HG := Aside0.mk hglob
 clear hglob
 have hu24 := Tryz.underlying24
 have hu30 := Tryz.underlying30
 have HR0_1 := Aside0.mk hr0_1
 have HC0_1 := Aside0.mk hc0_1
 clear hr0_1 hc0_1
 have HB := Aside0.mk (Below.refl w.heap.size w)
 have H : ((laws_szPuzzle.f a0_0 l0_1 1048576).bind fun t585 => (if t585 < 0 then (some true) else ((laws_toPuzzle.f k a0_0 l0_1).bind fun bt586 => ((spec_LeftByClues.f k bt586.1 bt586.2).bind fun bt590 => ((laws_toPuzzle.f k a0_0 l0_1).bind fun bt594 => ((impl_LeftByClues.f k bt594.1 bt594.2).bind fun bt599 => ((laws_eqIntS.f k bt599.1 bt590.1).bind fun t603 => (if t603 = true then (if (bt599.2 != bt590.2) = true then (none) else ((laws_toPuzzle.f k a0_0 l0_1).bind fun bt604 => ((laws_eqPuzzle.f k bt594.1 bt594.2 bt604.1 bt604.2).bind fun t608 => (if t608 = true then ((laws_markPuzzle.f k bt594.1 bt594.2 1).bind fun bt609 => (if bt609.1 < 0 then (none) else ((laws_eqIntS.f k bt599.1 bt590.1).bind fun t611 => (if t611 = true then ((laws_markIntS.f k bt599.1 1).bind fun bt612 => ((laws_heldIntS.f k bt612.2 1).bind fun t614 => (if t614 < 0 then (none) else (if t614 = bt612.1 then ((laws_toPuzzle.f k a0_0 l0_1).bind fun bt615 => ((impl_LeftByClues.f k bt615.1 bt615.2).bind fun bt619 => ((laws_eqIntS.f k bt619.1 bt590.1).bind fun t623 => (if t623 = true then (if (bt619.2 != bt590.2) = true then (none) else ((laws_heldIntS.f k bt612.2 1).bind fun t624 => (if t624 < 0 then (none) else (if t624 = bt612.1 then (some true) else (none))))) else (none))))) else (none))))) else (none))))) else (none))))) else (none))))))))) = some r := h
 clear h
 replace H := Option.bind_eq_some_iff.mp H
 obtain ⟨t585, A20, H⟩ := H
 replace H : (if t585 < 0 then (some true) else ((laws_toPuzzle.f k a0_0 l0_1).bind fun bt586 => ((spec_LeftByClues.f k bt586.1 bt586.2).bind fun bt590 => ((laws_toPuzzle.f k a0_0 l0_1).bind fun bt594 => ((impl_LeftByClues.f k bt594.1 bt594.2).bind fun bt599 => ((laws_eqIntS.f k bt599.1 bt590.1).bind fun t603 => (if t603 = true then (if (bt599.2 != bt590.2) = true then (none) else ((laws_toPuzzle.f k a0_0 l0_1).bind fun bt604 => ((laws_eqPuzzle.f k bt594.1 bt594.2 bt604.1 bt604.2).bind fun t608 => (if t608 = true then ((laws_markPuzzle.f k bt594.1 bt594.2 1).bind fun bt609 => (if bt609.1 < 0 then (none) else ((laws_eqIntS.f k bt599.1 bt590.1).bind fun t611 => (if t611 = true then ((laws_markIntS.f k bt599.1 1).bind fun bt612 => ((laws_heldIntS.f k bt612.2 1).bind fun t614 => (if t614 < 0 then (none) else (if t614 = bt612.1 then ((laws_toPuzzle.f k a0_0 l0_1).bind fun bt615 => ((impl_LeftByClues.f k bt615.1 bt615.2).bind fun bt619 => ((laws_eqIntS.f k bt619.1 bt590.1).bind fun t623 => (if t623 = true then (if (bt619.2 != bt590.2) = true then (none) else ((laws_heldIntS.f k bt612.2 1).bind fun t624 => (if t624 < 0 then (none) else (if t624 = bt612.1 then (some true) else (none))))) else (none))))) else (none))))) else (none))))) else (none))))) else (none)))))))) = some r := H
 have A2 := Aside0.mk A20
 clear A20
 by_cases c3 : t585 < 0
 ·
  rw [if_pos c3] at H
  have c3b0 : decide (t585 < 0) = true := decide_eq_true c3
  clear c3
  obtain rfl := Option.some.inj H
  go_enter Tryz.func8, Tryz.ntmps8
  go_wp2_with (first | ((with_reducible refine gate_dst (N := 1) rfl ?_); refine box_event ?hg (N := 1) ?hd (cs := #[.int .i64 a0_0, .slice A0_1 l0_1.length c0_1]) (t := 24) ?hr ?_; (case hd => rfl); (case hg => rfl); (case hr => first | (go_simp; done) | (go_simp; rfl)); intro gb584 hg w4 hbox hb; have n0_ := Aside0.mk (below_step (qw HB) hb); have n1_ := Aside0.mk (hbox); have n2_ := Aside0.mk ((by rw [hg]; exact (below_size (qw HB)) : w.heap.size ≤ gb584)); have n3_ := Aside0.mk ((by rw [hg]; exact (below_size (qw HB)) : w.heap.size ≤ gb584)); clear HB; have HB := n0_; have BK584 := n1_; have GW584 := n2_; have GE584 := n3_; clear n0_ n1_ n2_ n3_; clear hb hbox hg; have hcz5_0 : w4.cell? ⟨gb584, 0, none⟩ = some (.int .i64 a0_0) := bc BK584 0; have hcz5_1 : w4.cell? ⟨gb584, 1, none⟩ = some (.slice A0_1 l0_1.length c0_1) := bc BK584 1; have hfz5_0 := blk_frozen BK584.out 0; have hfz5_1 := blk_frozen BK584.out 1) | ((with_reducible refine gate_callee (f := 12) rfl ?_); refine goesL_ (some 16) rfl rfl Tryz.func12 (by kernel_rfl) rfl #[.agg #[.int .i64 a0_0, .slice A0_1 l0_1.length c0_1], .int .i64 1048576] rfl (by (try simp only [List.map_toArray, List.map_cons, List.map_nil]); first | done | rfl | (simp only [List.length_drop, List.length_take]; rfl)) ?_; (with_reducible refine (laws_szPuzzle.calls a0_0 _ _ l0_1 1048576 t585 _ ?side1 ?side2 A2.out).mono ?_); (case side1 => repeat (first | exact (Kd.C_below HR0_1.out HB.out) | (with_reducible refine Kd.C_alloc ?_ _) | (with_reducible refine Kd.C_drewN ?_ _) | (with_reducible refine Kd.C_drew ?_))); (case side2 => exact HC0_1.out); rintro e w6 ⟨rfl, hb⟩; refine ⟨_, rfl, ?_⟩; have n0_ := qbb BK584 hb; have n1_ := Aside0.mk (below_step (qw HB) hb); clear BK584; clear HB; have BK584 := n0_; have HB := n1_; clear n0_ n1_; (try clear hb); (try clear hb2); (try clear hk); (try clear hi)))
  go_ret
  exact ⟨by first | rfl | (simp [errW_none, errW_some] <;> rfl) | (simp [*, errW_none, errW_some] <;> rfl), qw HB⟩
 ·
  rw [if_neg c3] at H
  have c3b0 : decide (t585 < 0) = false := decide_eq_false c3
  clear c3
  replace H := Option.bind_eq_some_iff.mp H
  obtain ⟨⟨t586, t587⟩, A70, H⟩ := H
  replace H : ((spec_LeftByClues.f k t586 t587).bind fun bt590 => ((laws_toPuzzle.f k a0_0 l0_1).bind fun bt594 => ((impl_LeftByClues.f k bt594.1 bt594.2).bind fun bt599 => ((laws_eqIntS.f k bt599.1 bt590.1).bind fun t603 => (if t603 = true then (if (bt599.2 != bt590.2) = true then (none) else ((laws_toPuzzle.f k a0_0 l0_1).bind fun bt604 => ((laws_eqPuzzle.f k bt594.1 bt594.2 bt604.1 bt604.2).bind fun t608 => (if t608 = true then ((laws_markPuzzle.f k bt594.1 bt594.2 1).bind fun bt609 => (if bt609.1 < 0 then (none) else ((laws_eqIntS.f k bt599.1 bt590.1).bind fun t611 => (if t611 = true then ((laws_markIntS.f k bt599.1 1).bind fun bt612 => ((laws_heldIntS.f k bt612.2 1).bind fun t614 => (if t614 < 0 then (none) else (if t614 = bt612.1 then ((laws_toPuzzle.f k a0_0 l0_1).bind fun bt615 => ((impl_LeftByClues.f k bt615.1 bt615.2).bind fun bt619 => ((laws_eqIntS.f k bt619.1 bt590.1).bind fun t623 => (if t623 = true then (if (bt619.2 != bt590.2) = true then (none) else ((laws_heldIntS.f k bt612.2 1).bind fun t624 => (if t624 < 0 then (none) else (if t624 = bt612.1 then (some true) else (none))))) else (none))))) else (none))))) else (none))))) else (none))))) else (none)))))) = some r := H
  have A7 := Aside0.mk A70
  clear A70
  replace H := Option.bind_eq_some_iff.mp H
  obtain ⟨⟨t590, t593⟩, A80, H⟩ := H
  replace H : ((laws_toPuzzle.f k a0_0 l0_1).bind fun bt594 => ((impl_LeftByClues.f k bt594.1 bt594.2).bind fun bt599 => ((laws_eqIntS.f k bt599.1 t590).bind fun t603 => (if t603 = true then (if (bt599.2 != t593) = true then (none) else ((laws_toPuzzle.f k a0_0 l0_1).bind fun bt604 => ((laws_eqPuzzle.f k bt594.1 bt594.2 bt604.1 bt604.2).bind fun t608 => (if t608 = true then ((laws_markPuzzle.f k bt594.1 bt594.2 1).bind fun bt609 => (if bt609.1 < 0 then (none) else ((laws_eqIntS.f k bt599.1 t590).bind fun t611 => (if t611 = true then ((laws_markIntS.f k bt599.1 1).bind fun bt612 => ((laws_heldIntS.f k bt612.2 1).bind fun t614 => (if t614 < 0 then (none) else (if t614 = bt612.1 then ((laws_toPuzzle.f k a0_0 l0_1).bind fun bt615 => ((impl_LeftByClues.f k bt615.1 bt615.2).bind fun bt619 => ((laws_eqIntS.f k bt619.1 t590).bind fun t623 => (if t623 = true then (if (bt619.2 != t593) = true then (none) else ((laws_heldIntS.f k bt612.2 1).bind fun t624 => (if t624 < 0 then (none) else (if t624 = bt612.1 then (some true) else (none))))) else (none))))) else (none))))) else (none))))) else (none))))) else (none))))) = some r := H
  have A8 := Aside0.mk A80
  clear A80
  replace H := Option.bind_eq_some_iff.mp H
  obtain ⟨⟨t594, t595⟩, A90, H⟩ := H
  replace H : ((impl_LeftByClues.f k t594 t595).bind fun bt599 => ((laws_eqIntS.f k bt599.1 t590).bind fun t603 => (if t603 = true then (if (bt599.2 != t593) = true then (none) else ((laws_toPuzzle.f k a0_0 l0_1).bind fun bt604 => ((laws_eqPuzzle.f k t594 t595 bt604.1 bt604.2).bind fun t608 => (if t608 = true then ((laws_markPuzzle.f k t594 t595 1).bind fun bt609 => (if bt609.1 < 0 then (none) else ((laws_eqIntS.f k bt599.1 t590).bind fun t611 => (if t611 = true then ((laws_markIntS.f k bt599.1 1).bind fun bt612 => ((laws_heldIntS.f k bt612.2 1).bind fun t614 => (if t614 < 0 then (none) else (if t614 = bt612.1 then ((laws_toPuzzle.f k a0_0 l0_1).bind fun bt615 => ((impl_LeftByClues.f k bt615.1 bt615.2).bind fun bt619 => ((laws_eqIntS.f k bt619.1 t590).bind fun t623 => (if t623 = true then (if (bt619.2 != t593) = true then (none) else ((laws_heldIntS.f k bt612.2 1).bind fun t624 => (if t624 < 0 then (none) else (if t624 = bt612.1 then (some true) else (none))))) else (none))))) else (none))))) else (none))))) else (none))))) else (none)))) = some r := H
  have A9 := Aside0.mk A90
  clear A90
  replace H := Option.bind_eq_some_iff.mp H
  obtain ⟨⟨t599, t602⟩, A100, H⟩ := H
  replace H : ((laws_eqIntS.f k t599 t590).bind fun t603 => (if t603 = true then (if (t602 != t593) = true then (none) else ((laws_toPuzzle.f k a0_0 l0_1).bind fun bt604 => ((laws_eqPuzzle.f k t594 t595 bt604.1 bt604.2).bind fun t608 => (if t608 = true then ((laws_markPuzzle.f k t594 t595 1).bind fun bt609 => (if bt609.1 < 0 then (none) else ((laws_eqIntS.f k t599 t590).bind fun t611 => (if t611 = true then ((laws_markIntS.f k t599 1).bind fun bt612 => ((laws_heldIntS.f k bt612.2 1).bind fun t614 => (if t614 < 0 then (none) else (if t614 = bt612.1 then ((laws_toPuzzle.f k a0_0 l0_1).bind fun bt615 => ((impl_LeftByClues.f k bt615.1 bt615.2).bind fun bt619 => ((laws_eqIntS.f k bt619.1 t590).bind fun t623 => (if t623 = true then (if (bt619.2 != t593) = true then (none) else ((laws_heldIntS.f k bt612.2 1).bind fun t624 => (if t624 < 0 then (none) else (if t624 = bt612.1 then (some true) else (none))))) else (none))))) else (none))))) else (none))))) else (none))))) else (none))) = some r := H
  have A10 := Aside0.mk A100
  clear A100
  replace H := Option.bind_eq_some_iff.mp H
  obtain ⟨t603, A110, H⟩ := H
  replace H : (if t603 = true then (if (t602 != t593) = true then (none) else ((laws_toPuzzle.f k a0_0 l0_1).bind fun bt604 => ((laws_eqPuzzle.f k t594 t595 bt604.1 bt604.2).bind fun t608 => (if t608 = true then ((laws_markPuzzle.f k t594 t595 1).bind fun bt609 => (if bt609.1 < 0 then (none) else ((laws_eqIntS.f k t599 t590).bind fun t611 => (if t611 = true then ((laws_markIntS.f k t599 1).bind fun bt612 => ((laws_heldIntS.f k bt612.2 1).bind fun t614 => (if t614 < 0 then (none) else (if t614 = bt612.1 then ((laws_toPuzzle.f k a0_0 l0_1).bind fun bt615 => ((impl_LeftByClues.f k bt615.1 bt615.2).bind fun bt619 => ((laws_eqIntS.f k bt619.1 t590).bind fun t623 => (if t623 = true then (if (bt619.2 != t593) = true then (none) else ((laws_heldIntS.f k bt612.2 1).bind fun t624 => (if t624 < 0 then (none) else (if t624 = bt612.1 then (some true) else (none))))) else (none))))) else (none))))) else (none))))) else (none))))) else (none)) = some r := H
  have A11 := Aside0.mk A110
  clear A110
  by_cases c12 : t603 = true
  ·
   subst c12
   have H1 : (if (t602 != t593) = true then (none) else ((laws_toPuzzle.f k a0_0 l0_1).bind fun bt604 => ((laws_eqPuzzle.f k t594 t595 bt604.1 bt604.2).bind fun t608 => (if t608 = true then ((laws_markPuzzle.f k t594 t595 1).bind fun bt609 => (if bt609.1 < 0 then (none) else ((laws_eqIntS.f k t599 t590).bind fun t611 => (if t611 = true then ((laws_markIntS.f k t599 1).bind fun bt612 => ((laws_heldIntS.f k bt612.2 1).bind fun t614 => (if t614 < 0 then (none) else (if t614 = bt612.1 then ((laws_toPuzzle.f k a0_0 l0_1).bind fun bt615 => ((impl_LeftByClues.f k bt615.1 bt615.2).bind fun bt619 => ((laws_eqIntS.f k bt619.1 t590).bind fun t623 => (if t623 = true then (if (bt619.2 != t593) = true then (none) else ((laws_heldIntS.f k bt612.2 1).bind fun t624 => (if t624 < 0 then (none) else (if t624 = bt612.1 then (some true) else (none))))) else (none))))) else (none))))) else (none))))) else (none))))) = some r := by rw [if_pos rfl] at H; exact H
   clear H
   have H := H1
   clear H1
   by_cases c13 : (t602 != t593) = true
   ·
    rw [if_pos c13] at H
    exact absurd H (by simp)
   ·
    rw [if_neg c13] at H
    have c13b0 : (t602 != t593) = false := by simpa using c13
    (try (have c13b1 : decide (t602 = t593) = true := by simpa using c13))
    (try (have c13b2 : (t602 == t593) = true := by simpa using c13))
    clear c13
    replace H := Option.bind_eq_some_iff.mp H
    obtain ⟨⟨t604, t605⟩, A140, H⟩ := H
    replace H : ((laws_eqPuzzle.f k t594 t595 t604 t605).bind fun t608 => (if t608 = true then ((laws_markPuzzle.f k t594 t595 1).bind fun bt609 => (if bt609.1 < 0 then (none) else ((laws_eqIntS.f k t599 t590).bind fun t611 => (if t611 = true then ((laws_markIntS.f k t599 1).bind fun bt612 => ((laws_heldIntS.f k bt612.2 1).bind fun t614 => (if t614 < 0 then (none) else (if t614 = bt612.1 then ((laws_toPuzzle.f k a0_0 l0_1).bind fun bt615 => ((impl_LeftByClues.f k bt615.1 bt615.2).bind fun bt619 => ((laws_eqIntS.f k bt619.1 t590).bind fun t623 => (if t623 = true then (if (bt619.2 != t593) = true then (none) else ((laws_heldIntS.f k bt612.2 1).bind fun t624 => (if t624 < 0 then (none) else (if t624 = bt612.1 then (some true) else (none))))) else (none))))) else (none))))) else (none))))) else (none))) = some r := H
    have A14 := Aside0.mk A140
    clear A140
    replace H := Option.bind_eq_some_iff.mp H
    obtain ⟨t608, A150, H⟩ := H
    replace H : (if t608 = true then ((laws_markPuzzle.f k t594 t595 1).bind fun bt609 => (if bt609.1 < 0 then (none) else ((laws_eqIntS.f k t599 t590).bind fun t611 => (if t611 = true then ((laws_markIntS.f k t599 1).bind fun bt612 => ((laws_heldIntS.f k bt612.2 1).bind fun t614 => (if t614 < 0 then (none) else (if t614 = bt612.1 then ((laws_toPuzzle.f k a0_0 l0_1).bind fun bt615 => ((impl_LeftByClues.f k bt615.1 bt615.2).bind fun bt619 => ((laws_eqIntS.f k bt619.1 t590).bind fun t623 => (if t623 = true then (if (bt619.2 != t593) = true then (none) else ((laws_heldIntS.f k bt612.2 1).bind fun t624 => (if t624 < 0 then (none) else (if t624 = bt612.1 then (some true) else (none))))) else (none))))) else (none))))) else (none))))) else (none)) = some r := H
    have A15 := Aside0.mk A150
    clear A150
    by_cases c16 : t608 = true
    ·
     subst c16
     have H1 : ((laws_markPuzzle.f k t594 t595 1).bind fun bt609 => (if bt609.1 < 0 then (none) else ((laws_eqIntS.f k t599 t590).bind fun t611 => (if t611 = true then ((laws_markIntS.f k t599 1).bind fun bt612 => ((laws_heldIntS.f k bt612.2 1).bind fun t614 => (if t614 < 0 then (none) else (if t614 = bt612.1 then ((laws_toPuzzle.f k a0_0 l0_1).bind fun bt615 => ((impl_LeftByClues.f k bt615.1 bt615.2).bind fun bt619 => ((laws_eqIntS.f k bt619.1 t590).bind fun t623 => (if t623 = true then (if (bt619.2 != t593) = true then (none) else ((laws_heldIntS.f k bt612.2 1).bind fun t624 => (if t624 < 0 then (none) else (if t624 = bt612.1 then (some true) else (none))))) else (none))))) else (none))))) else (none))))) = some r := by rw [if_pos rfl] at H; exact H
     clear H
     have H := H1
     clear H1
     replace H := Option.bind_eq_some_iff.mp H
     obtain ⟨⟨t609, t610⟩, A170, H⟩ := H
     replace H : (if t609 < 0 then (none) else ((laws_eqIntS.f k t599 t590).bind fun t611 => (if t611 = true then ((laws_markIntS.f k t599 1).bind fun bt612 => ((laws_heldIntS.f k bt612.2 1).bind fun t614 => (if t614 < 0 then (none) else (if t614 = bt612.1 then ((laws_toPuzzle.f k a0_0 l0_1).bind fun bt615 => ((impl_LeftByClues.f k bt615.1 bt615.2).bind fun bt619 => ((laws_eqIntS.f k bt619.1 t590).bind fun t623 => (if t623 = true then (if (bt619.2 != t593) = true then (none) else ((laws_heldIntS.f k bt612.2 1).bind fun t624 => (if t624 < 0 then (none) else (if t624 = bt612.1 then (some true) else (none))))) else (none))))) else (none))))) else (none)))) = some r := H
     have A17 := Aside0.mk A170
     clear A170
     by_cases c18 : t609 < 0
     ·
      rw [if_pos c18] at H
      exact absurd H (by simp)
     ·
      rw [if_neg c18] at H
      have c18b0 : decide (t609 < 0) = false := decide_eq_false c18
      clear c18
      replace H := Option.bind_eq_some_iff.mp H
      obtain ⟨t611, A190, H⟩ := H
      replace H : (if t611 = true then ((laws_markIntS.f k t599 1).bind fun bt612 => ((laws_heldIntS.f k bt612.2 1).bind fun t614 => (if t614 < 0 then (none) else (if t614 = bt612.1 then ((laws_toPuzzle.f k a0_0 l0_1).bind fun bt615 => ((impl_LeftByClues.f k bt615.1 bt615.2).bind fun bt619 => ((laws_eqIntS.f k bt619.1 t590).bind fun t623 => (if t623 = true then (if (bt619.2 != t593) = true then (none) else ((laws_heldIntS.f k bt612.2 1).bind fun t624 => (if t624 < 0 then (none) else (if t624 = bt612.1 then (some true) else (none))))) else (none))))) else (none))))) else (none)) = some r := H
      have A19 := Aside0.mk A190
      clear A190
      by_cases c20 : t611 = true
      ·
       subst c20
       have H1 : ((laws_markIntS.f k t599 1).bind fun bt612 => ((laws_heldIntS.f k bt612.2 1).bind fun t614 => (if t614 < 0 then (none) else (if t614 = bt612.1 then ((laws_toPuzzle.f k a0_0 l0_1).bind fun bt615 => ((impl_LeftByClues.f k bt615.1 bt615.2).bind fun bt619 => ((laws_eqIntS.f k bt619.1 t590).bind fun t623 => (if t623 = true then (if (bt619.2 != t593) = true then (none) else ((laws_heldIntS.f k bt612.2 1).bind fun t624 => (if t624 < 0 then (none) else (if t624 = bt612.1 then (some true) else (none))))) else (none))))) else (none))))) = some r := by rw [if_pos rfl] at H; exact H
       clear H
       have H := H1
       clear H1
       replace H := Option.bind_eq_some_iff.mp H
       obtain ⟨⟨t612, t613⟩, A210, H⟩ := H
       replace H : ((laws_heldIntS.f k t613 1).bind fun t614 => (if t614 < 0 then (none) else (if t614 = t612 then ((laws_toPuzzle.f k a0_0 l0_1).bind fun bt615 => ((impl_LeftByClues.f k bt615.1 bt615.2).bind fun bt619 => ((laws_eqIntS.f k bt619.1 t590).bind fun t623 => (if t623 = true then (if (bt619.2 != t593) = true then (none) else ((laws_heldIntS.f k t613 1).bind fun t624 => (if t624 < 0 then (none) else (if t624 = t612 then (some true) else (none))))) else (none))))) else (none)))) = some r := H
       have A21 := Aside0.mk A210
       clear A210
       replace H := Option.bind_eq_some_iff.mp H
       obtain ⟨t614, A220, H⟩ := H
       replace H : (if t614 < 0 then (none) else (if t614 = t612 then ((laws_toPuzzle.f k a0_0 l0_1).bind fun bt615 => ((impl_LeftByClues.f k bt615.1 bt615.2).bind fun bt619 => ((laws_eqIntS.f k bt619.1 t590).bind fun t623 => (if t623 = true then (if (bt619.2 != t593) = true then (none) else ((laws_heldIntS.f k t613 1).bind fun t624 => (if t624 < 0 then (none) else (if t624 = t612 then (some true) else (none))))) else (none))))) else (none))) = some r := H
       have A22 := Aside0.mk A220
       clear A220
       by_cases c23 : t614 < 0
       ·
        rw [if_pos c23] at H
        exact absurd H (by simp)
       ·
        rw [if_neg c23] at H
        have c23b0 : decide (t614 < 0) = false := decide_eq_false c23
        clear c23
        by_cases c24 : t614 = t612
        ·
         rw [if_pos c24] at H
         have c24b0 : (t614 == t612) = true := beq_iff_eq.mpr c24
         have c24b1 : (t614 != t612) = false := bne_eq_false_iff_eq.mpr c24
         clear c24
         replace H := Option.bind_eq_some_iff.mp H
         obtain ⟨⟨t615, t616⟩, A250, H⟩ := H
         replace H : ((impl_LeftByClues.f k t615 t616).bind fun bt619 => ((laws_eqIntS.f k bt619.1 t590).bind fun t623 => (if t623 = true then (if (bt619.2 != t593) = true then (none) else ((laws_heldIntS.f k t613 1).bind fun t624 => (if t624 < 0 then (none) else (if t624 = t612 then (some true) else (none))))) else (none)))) = some r := H
         have A25 := Aside0.mk A250
         clear A250
         replace H := Option.bind_eq_some_iff.mp H
         obtain ⟨⟨t619, t622⟩, A260, H⟩ := H
         replace H : ((laws_eqIntS.f k t619 t590).bind fun t623 => (if t623 = true then (if (t622 != t593) = true then (none) else ((laws_heldIntS.f k t613 1).bind fun t624 => (if t624 < 0 then (none) else (if t624 = t612 then (some true) else (none))))) else (none))) = some r := H
         have A26 := Aside0.mk A260
         clear A260
         replace H := Option.bind_eq_some_iff.mp H
         obtain ⟨t623, A270, H⟩ := H
         replace H : (if t623 = true then (if (t622 != t593) = true then (none) else ((laws_heldIntS.f k t613 1).bind fun t624 => (if t624 < 0 then (none) else (if t624 = t612 then (some true) else (none))))) else (none)) = some r := H
         have A27 := Aside0.mk A270
         clear A270
         by_cases c28 : t623 = true
         ·
          subst c28
          have H1 : (if (t622 != t593) = true then (none) else ((laws_heldIntS.f k t613 1).bind fun t624 => (if t624 < 0 then (none) else (if t624 = t612 then (some true) else (none))))) = some r := by rw [if_pos rfl] at H; exact H
          clear H
          have H := H1
          clear H1
          by_cases c29 : (t622 != t593) = true
          ·
           rw [if_pos c29] at H
           exact absurd H (by simp)
          ·
           rw [if_neg c29] at H
           have c29b0 : (t622 != t593) = false := by simpa using c29
           (try (have c29b1 : decide (t622 = t593) = true := by simpa using c29))
           (try (have c29b2 : (t622 == t593) = true := by simpa using c29))
           clear c29
           replace H := Option.bind_eq_some_iff.mp H
           obtain ⟨t624, A300, H⟩ := H
           replace H : (if t624 < 0 then (none) else (if t624 = t612 then (some true) else (none))) = some r := H
           have A30 := Aside0.mk A300
           clear A300
           by_cases c31 : t624 < 0
           ·
            rw [if_pos c31] at H
            exact absurd H (by simp)
           ·
            rw [if_neg c31] at H
            have c31b0 : decide (t624 < 0) = false := decide_eq_false c31
            clear c31
            by_cases c32 : t624 = t612
            ·
             rw [if_pos c32] at H
             have c32b0 : (t624 == t612) = true := beq_iff_eq.mpr c32
             have c32b1 : (t624 != t612) = false := bne_eq_false_iff_eq.mpr c32
             clear c32
             obtain rfl := Option.some.inj H
             go_enter Tryz.func8, Tryz.ntmps8
             try go_wp2_with (first | ((with_reducible refine gate_dst (N := 1) rfl ?_); refine box_event ?hg (N := 1) ?hd (cs := #[.int .i64 a0_0, .slice A0_1 l0_1.length c0_1]) (t := 24) ?hr ?_; (case hd => rfl); (case hg => rfl); (case hr => first | (go_simp; done) | (go_simp; rfl)); intro gb584 hg w33 hbox hb; have n0_ := Aside0.mk (below_step (qw HB) hb); have n1_ := Aside0.mk (hbox); have n2_ := Aside0.mk ((by rw [hg]; exact (below_size (qw HB)) : w.heap.size ≤ gb584)); have n3_ := Aside0.mk ((by rw [hg]; exact (below_size (qw HB)) : w.heap.size ≤ gb584)); clear HB; have HB := n0_; have BK584 := n1_; have GW584 := n2_; have GE584 := n3_; clear n0_ n1_ n2_ n3_; clear hb hbox hg; have hcz34_0 : w33.cell? ⟨gb584, 0, none⟩ = some (.int .i64 a0_0) := bc BK584 0; have hcz34_1 : w33.cell? ⟨gb584, 1, none⟩ = some (.slice A0_1 l0_1.length c0_1) := bc BK584 1; have hfz34_0 := blk_frozen BK584.out 0; have hfz34_1 := blk_frozen BK584.out 1) | ((with_reducible refine gate_callee (f := 12) rfl ?_); refine goesL_ (some 16) rfl rfl Tryz.func12 (by kernel_rfl) rfl #[.agg #[.int .i64 a0_0, .slice A0_1 l0_1.length c0_1], .int .i64 1048576] rfl (by (try simp only [List.map_toArray, List.map_cons, List.map_nil]); first | done | rfl | (simp only [List.length_drop, List.length_take]; rfl)) ?_; (with_reducible refine (laws_szPuzzle.calls a0_0 _ _ l0_1 1048576 t585 _ ?side1 ?side2 A2.out).mono ?_); (case side1 => repeat (first | exact (Kd.C_below HR0_1.out HB.out) | (with_reducible refine Kd.C_alloc ?_ _) | (with_reducible refine Kd.C_drewN ?_ _) | (with_reducible refine Kd.C_drew ?_))); (case side2 => exact HC0_1.out); rintro e w35 ⟨rfl, hb⟩; refine ⟨_, rfl, ?_⟩; have n0_ := qbb BK584 hb; have n1_ := Aside0.mk (below_step (qw HB) hb); clear BK584; clear HB; have BK584 := n0_; have HB := n1_; clear n0_ n1_; (try clear hb); (try clear hb2); (try clear hk); (try clear hi); have hcz36_0 : w35.cell? ⟨gb584, 0, none⟩ = some (.int .i64 a0_0) := bc BK584 0; have hcz36_1 : w35.cell? ⟨gb584, 1, none⟩ = some (.slice A0_1 l0_1.length c0_1) := bc BK584 1; have hfz36_0 := blk_frozen BK584.out 0; have hfz36_1 := blk_frozen BK584.out 1) | ((with_reducible refine gate_callee (f := 14) rfl ?_); refine goesL_ (some 21) rfl rfl Tryz.func14 (by kernel_rfl) rfl #[.agg #[.int .i64 a0_0, .slice A0_1 l0_1.length c0_1]] rfl (by (try simp only [List.map_toArray, List.map_cons, List.map_nil]); first | done | rfl | (simp only [List.length_drop, List.length_take]; rfl)) ?_; (with_reducible refine (laws_toPuzzle.calls k a0_0 _ _ l0_1 t586 t587 _ ?side1 ?side2 A7.out).mono ?_); (case side1 => repeat (first | exact (Kd.C_below HR0_1.out HB.out) | (with_reducible refine Kd.C_alloc ?_ _) | (with_reducible refine Kd.C_drewN ?_ _) | (with_reducible refine Kd.C_drew ?_))); (case side2 => exact HC0_1.out); rintro e w37 ⟨v588, rfl, ho0, hb⟩; refine ⟨_, rfl, ?_⟩; have n0_ := Aside0.mk (Kd.R_lower ho0 (below_size (qw HB))); have n1_ := qbb BK584 hb; have n2_ := Aside0.mk (below_step (qw HB) hb); clear BK584; clear HB; have HO589 := n0_; have BK584 := n1_; have HB := n2_; clear n0_ n1_ n2_; (try clear hb); (try clear hb2); (try clear hk); (try clear hi); (try clear ho0); obtain ⟨Ao38, co38, eo38⟩ := Kd.R_slice HO589.out; subst eo38) | ((with_reducible refine gate_callee (f := 25) rfl ?_); refine goesL_ (some 22) rfl rfl Tryz.func25 (by kernel_rfl) rfl #[.agg #[.int .i64 t586, .slice Ao38 t587.length co38]] rfl (by (try simp only [List.map_toArray, List.map_cons, List.map_nil]); first | done | rfl | (simp only [List.length_drop, List.length_take]; rfl)) ?_; (with_reducible refine (spec_LeftByClues.calls k t586 _ _ t587 t590 t593 _ ?side1 ?side2 A8.out).mono ?_); (case side1 => repeat (first | exact (Kd.R_reads' HO589.out).2.2 | (with_reducible refine Kd.C_alloc ?_ _) | (with_reducible refine Kd.C_drewN ?_ _) | (with_reducible refine Kd.C_drew ?_))); (case side2 => exact (Kd.R_reads' HO589.out).2.1); rintro e w39 ⟨v591, rfl, ho0, hb⟩; refine ⟨_, rfl, ?_⟩; have n0_ := Aside0.mk (Kd.R_below (qr HO589.out) hb); have n1_ := Aside0.mk (Kd.R_lower ho0 (below_size (qw HB))); have n2_ := qbb BK584 hb; have n3_ := Aside0.mk (below_step (qw HB) hb); clear HO589; clear BK584; clear HB; have HO589 := n0_; have HO592 := n1_; have BK584 := n2_; have HB := n3_; clear n0_ n1_ n2_ n3_; (try clear hb); (try clear hb2); (try clear hk); (try clear hi); (try clear ho0); have hcz40_0 : w39.cell? ⟨gb584, 0, none⟩ = some (.int .i64 a0_0) := bc BK584 0; have hcz40_1 : w39.cell? ⟨gb584, 1, none⟩ = some (.slice A0_1 l0_1.length c0_1) := bc BK584 1; have hfz40_0 := blk_frozen BK584.out 0; have hfz40_1 := blk_frozen BK584.out 1) | ((with_reducible refine gate_callee (f := 14) rfl ?_); refine goesL_ (some 26) rfl rfl Tryz.func14 (by kernel_rfl) rfl #[.agg #[.int .i64 a0_0, .slice A0_1 l0_1.length c0_1]] rfl (by (try simp only [List.map_toArray, List.map_cons, List.map_nil]); first | done | rfl | (simp only [List.length_drop, List.length_take]; rfl)) ?_; (with_reducible refine (laws_toPuzzle.calls k a0_0 _ _ l0_1 t594 t595 _ ?side1 ?side2 A9.out).mono ?_); (case side1 => repeat (first | exact (Kd.C_below HR0_1.out HB.out) | (with_reducible refine Kd.C_alloc ?_ _) | (with_reducible refine Kd.C_drewN ?_ _) | (with_reducible refine Kd.C_drew ?_))); (case side2 => exact HC0_1.out); rintro e w41 ⟨v596, rfl, ho0, hb⟩; refine ⟨_, rfl, ?_⟩; have n0_ := Aside0.mk (Kd.R_elder' (qr HO589.out) (Kd.R_base ho0) hb); have n1_ := Aside0.mk (Kd.R_below (qr HO592.out) hb); have n2_ := Aside0.mk (Kd.R_lower (Kd.R_new' ho0 (Kd.R_lt (qr HO589.out))) (below_size (qw HB))); have n3_ := qbb BK584 hb; have n4_ := Aside0.mk (below_step (qw HB) hb); clear HO589; clear HO592; clear BK584; clear HB; have HO589 := n0_; have HO592 := n1_; have HO597 := n2_; have BK584 := n3_; have HB := n4_; clear n0_ n1_ n2_ n3_ n4_; (try clear hb); (try clear hb2); (try clear hk); (try clear hi); (try clear ho0)) | ((with_reducible refine gate_dst (N := 6) rfl ?_); refine box_event ?hg (N := 6) ?hd (cs := #[.int .i64 0, .slice none 0 0]) (t := 30) ?hr ?_; (case hd => rfl); (case hg => rfl); (case hr => first | (go_simp; done) | (go_simp; rfl)); intro gb598 hg w42 hbox hb; have n0_ := Aside0.mk (Kd.R_below (qr HO589.out) hb); have n1_ := Aside0.mk (Kd.R_below (qr HO592.out) hb); have n2_ := Aside0.mk (Kd.R_below (qr HO597.out) hb); have n3_ := qbb BK584 hb; have n4_ := Aside0.mk (below_step (qw HB) hb); have n5_ := Aside0.mk (hbox); have n6_ := Aside0.mk ((by rw [hg]; exact (below_size (qw HB)) : w.heap.size ≤ gb598)); have n7_ := Aside0.mk ((by rw [hg]; exact (below_size (qw HB)) : w.heap.size ≤ gb598)); have n8_ := Aside0.mk ((by rw [hg]; exact Nat.ne_of_lt (blk_lt (qb BK584)) : gb584 ≠ gb598)); have n9_ := Aside0.mk ((by rw [hg]; exact Nat.ne_of_gt (blk_lt (qb BK584)) : gb598 ≠ gb584)); clear HO589; clear HO592; clear HO597; clear BK584; clear HB; have HO589 := n0_; have HO592 := n1_; have HO597 := n2_; have BK584 := n3_; have HB := n4_; have BK598 := n5_; have GW598 := n6_; have GE598 := n7_; have NB584_598 := n8_; have NB598_584 := n9_; clear n0_ n1_ n2_ n3_ n4_ n5_ n6_ n7_ n8_ n9_; clear hb hbox hg; have hnb43 := NB598_584.out; have hnc43 := NB584_598.out; have hcz44_0 : w42.cell? ⟨gb598, 0, none⟩ = some (.int .i64 0) := bc BK598 0; have hcz44_1 : w42.cell? ⟨gb598, 1, none⟩ = some (.slice none 0 0) := bc BK598 1; have hfz44_0 := blk_frozen BK598.out 0; have hfz44_1 := blk_frozen BK598.out 1; obtain ⟨Ao45, co45, eo45⟩ := Kd.R_slice HO597.out; subst eo45) | ((with_reducible refine gate_callee (f := 26) rfl ?_); refine goesL_ (some 29) rfl rfl Tryz.func26 (by kernel_rfl) rfl #[.agg #[.int .i64 t594, .slice Ao45 t595.length co45]] rfl (by (try simp only [List.map_toArray, List.map_cons, List.map_nil]); first | done | rfl | (simp only [List.length_drop, List.length_take]; rfl)) ?_; (with_reducible refine (impl_LeftByClues.calls k t594 _ _ t595 t599 t602 _ ?side1 ?side2 A10.out).mono ?_); (case side1 => refine (Kd.R_reads' (e := 65) (base := w.heap.size) (ok := fun k_ => (True ∧ some k_ ≠ (.slice Ao38 t587.length co38 : Value).ownBlock)) (n := t595.length) (c := co45) ?_).2.2; exact (qr (Kd.R_mono (Kd.R_far (p := ⟨gb598, 1, none⟩) (Kd.R_far (p := ⟨gb598, 0, none⟩) (Kd.R_types HO597.out BK598.out (by decide)) (fun _ hk => hk.2) (.int .i64 t594)) (fun _ hk => hk.2) (.slice Ao45 t595.length co45)) (fun _ h_ => h_.1)))); (case side2 => exact (Kd.R_reads' HO597.out).2.1); rintro e w46 ⟨v600, rfl, ho0, hb⟩; refine ⟨_, rfl, ?_⟩; have n0_ := Aside0.mk (Kd.R_below (qr (Kd.R_mono (Kd.R_far (p := ⟨gb598, 1, none⟩) (Kd.R_far (p := ⟨gb598, 0, none⟩) (Kd.R_types HO589.out BK598.out (by decide)) (fun _ hk => hk.2) (.int .i64 t594)) (fun _ hk => hk.2) (.slice Ao45 t595.length co45)) (fun _ h_ => h_.1))) hb); have n1_ := Aside0.mk (Kd.R_elder' (qr (Kd.R_mono (Kd.R_far (p := ⟨gb598, 1, none⟩) (Kd.R_far (p := ⟨gb598, 0, none⟩) (Kd.R_types HO592.out BK598.out (by decide)) (fun _ hk => hk.2) (.int .i64 t594)) (fun _ hk => hk.2) (.slice Ao45 t595.length co45)) (fun _ h_ => h_.1))) (Kd.R_base ho0) hb); have n2_ := Aside0.mk (Kd.R_below (qr (Kd.R_mono (Kd.R_far (p := ⟨gb598, 1, none⟩) (Kd.R_far (p := ⟨gb598, 0, none⟩) (Kd.R_types HO597.out BK598.out (by decide)) (fun _ hk => hk.2) (.int .i64 t594)) (fun _ hk => hk.2) (.slice Ao45 t595.length co45)) (fun _ h_ => h_.1))) hb); have n3_ := Aside0.mk (Kd.R_lower (Kd.R_new' ho0 (Kd.R_lt (qr (Kd.R_mono (Kd.R_far (p := ⟨gb598, 1, none⟩) (Kd.R_far (p := ⟨gb598, 0, none⟩) (Kd.R_types HO592.out BK598.out (by decide)) (fun _ hk => hk.2) (.int .i64 t594)) (fun _ hk => hk.2) (.slice Ao45 t595.length co45)) (fun _ h_ => h_.1))))) (below_size (qw HB))); have n4_ := Aside0.mk (blk_below (g := gb584) (o := .cells #[.int .i64 a0_0, .slice A0_1 l0_1.length c0_1] 24 (0, 0)) (by (with_reducible repeat (first | refine blk_drewN ?_ _ | refine blk_drew ?_ | refine blk_alloc ?_ _)); refine blk_far ?_ NB584_598.out _; (with_reducible repeat (first | refine blk_drewN ?_ _ | refine blk_drew ?_ | refine blk_alloc ?_ _)); refine blk_far ?_ NB584_598.out _; (with_reducible repeat (first | refine blk_drewN ?_ _ | refine blk_drew ?_ | refine blk_alloc ?_ _)); exact BK584.out) hb); have n5_ := Aside0.mk (blk_below (g := gb598) (o := .cells #[.int .i64 t594, .slice Ao45 t595.length co45] 30 (0, 0)) (by (with_reducible repeat (first | refine blk_drewN ?_ _ | refine blk_drew ?_ | refine blk_alloc ?_ _)); refine blk_put (cs := #[.int .i64 t594, .slice none 0 0]) ?_ 1 _ rfl; (with_reducible repeat (first | refine blk_drewN ?_ _ | refine blk_drew ?_ | refine blk_alloc ?_ _)); refine blk_put (cs := #[.int .i64 0, .slice none 0 0]) ?_ 0 _ rfl; (with_reducible repeat (first | refine blk_drewN ?_ _ | refine blk_drew ?_ | refine blk_alloc ?_ _)); exact BK598.out) hb); have n6_ := Aside0.mk (below_step (qw HB) hb); clear HO589; clear HO592; clear HO597; clear BK584; clear BK598; clear HB; have HO589 := n0_; have HO592 := n1_; have HO597 := n2_; have HO601 := n3_; have BK584 := n4_; have BK598 := n5_; have HB := n6_; clear n0_ n1_ n2_ n3_ n4_ n5_ n6_; (try clear hb); (try clear hb2); (try clear hk); (try clear hi); (try clear ho0); obtain ⟨Ao47, co47, eo47⟩ := Kd.R_slice HO601.out; subst eo47; obtain ⟨Ao48, co48, eo48⟩ := Kd.R_slice HO592.out; subst eo48) | ((with_reducible refine gate_callee (f := 27) rfl ?_); refine goesL_ (some 34) rfl rfl Tryz.func27 (by kernel_rfl) rfl #[.slice Ao47 t599.length co47, .slice Ao48 t590.length co48] rfl (by (try simp only [List.map_toArray, List.map_cons, List.map_nil]); first | done | rfl | (simp only [List.length_drop, List.length_take]; rfl)) ?_; (with_reducible refine (laws_eqIntS.calls k _ _ t599 _ _ t590 true _ ?side1 ?side2 ?side3 ?side4 A11.out).mono ?_); (case side1 => repeat (first | exact (Kd.R_reads' HO601.out).2.2 | (with_reducible refine Kd.C_alloc ?_ _) | (with_reducible refine Kd.C_drewN ?_ _) | (with_reducible refine Kd.C_drew ?_))); (case side2 => exact (Kd.R_reads' HO601.out).2.1); (case side3 => repeat (first | exact (Kd.R_reads' HO592.out).2.2 | (with_reducible refine Kd.C_alloc ?_ _) | (with_reducible refine Kd.C_drewN ?_ _) | (with_reducible refine Kd.C_drew ?_))); (case side4 => exact (Kd.R_reads' HO592.out).2.1); rintro e w' ⟨rfl, ⟨nd, rfl⟩⟩; refine ⟨_, rfl, ?_⟩))
             (try (rw [drewN_self w46]; generalize hq_ : World.drewN w46 _ = w46; have n0_ : Aside0 (Kd.R k65 65 w46 w.heap.size (fun k_ => some k_ ≠ (.slice Ao45 t595.length co45 : Value).ownBlock) (.slice Ao38 t587.length co38) t587) := ⟨by rw [← hq_]; exact (qr (Kd.R_mono HO589.out (fun _ hk => hk.2)))⟩; have n1_ : Aside0 (Kd.R (Kd.int .i64) 3 w46 w.heap.size (fun k_ => some k_ ≠ (.slice Ao47 t599.length co47 : Value).ownBlock) (.slice Ao48 t590.length co48) t590) := ⟨by rw [← hq_]; exact (qr (Kd.R_mono HO592.out (fun _ hk => hk.2)))⟩; have n2_ : Aside0 (Kd.R k65 65 w46 w.heap.size (fun k_ => some k_ ≠ (.slice Ao38 t587.length co38 : Value).ownBlock) (.slice Ao45 t595.length co45) t595) := ⟨by rw [← hq_]; exact (qr (Kd.R_mono HO597.out (fun _ hk => hk.2)))⟩; have n3_ : Aside0 (Kd.R (Kd.int .i64) 3 w46 w.heap.size (fun k_ => some k_ ≠ (.slice Ao48 t590.length co48 : Value).ownBlock) (.slice Ao47 t599.length co47) t599) := ⟨by rw [← hq_]; exact (qr (Kd.R_mono HO601.out (fun _ hk => hk.2)))⟩; have n4_ : Aside0 (w46.heap[gb584]? = some (.cells #[.int .i64 a0_0, .slice A0_1 l0_1.length c0_1] 24 (0, 0))) := ⟨by rw [← hq_]; exact (qb BK584)⟩; have n5_ : Aside0 (w46.heap[gb598]? = some (.cells #[.int .i64 t594, .slice Ao45 t595.length co45] 30 (0, 0))) := ⟨by rw [← hq_]; exact (qb BK598)⟩; have n6_ : Aside0 (Below w.heap.size w w46) := ⟨by rw [← hq_]; exact (qw HB)⟩; clear HO589 HO592 HO597 HO601 BK584 BK598 HB hq_; have HO589 := n0_; have HO592 := n1_; have HO597 := n2_; have HO601 := n3_; have BK584 := n4_; have BK598 := n5_; have HB := n6_; clear n0_ n1_ n2_ n3_ n4_ n5_ n6_; have hcqgb584_0 : w46.cell? ⟨gb584, 0, none⟩ = some (.int .i64 a0_0) := (blk_cell BK584.out 0).trans rfl; have hfqgb584_0 := blk_frozen BK584.out 0; have hcqgb584_1 : w46.cell? ⟨gb584, 1, none⟩ = some (.slice A0_1 l0_1.length c0_1) := (blk_cell BK584.out 1).trans rfl; have hfqgb584_1 := blk_frozen BK584.out 1; have hcqgb598_0 : w46.cell? ⟨gb598, 0, none⟩ = some (.int .i64 t594) := (blk_cell BK598.out 0).trans rfl; have hfqgb598_0 := blk_frozen BK598.out 0; have hcqgb598_1 : w46.cell? ⟨gb598, 1, none⟩ = some (.slice Ao45 t595.length co45) := (blk_cell BK598.out 1).trans rfl; have hfqgb598_1 := blk_frozen BK598.out 1))
             have n0_ := Aside0.mk (Kd.R_drew HO589.out)
             have n1_ := Aside0.mk (Kd.R_drew HO592.out)
             have n2_ := Aside0.mk (Kd.R_drew HO597.out)
             have n3_ := Aside0.mk (Kd.R_drew HO601.out)
             have n4_ := Aside0.mk (blk_drew BK584.out)
             have n5_ := Aside0.mk (blk_drew BK598.out)
             have n6_ := Aside0.mk (below_drew1 HB.out)
             clear HO589
             clear HO592
             clear HO597
             clear HO601
             clear BK584
             clear BK598
             clear HB
             have HO589 := n0_
             have HO592 := n1_
             have HO597 := n2_
             have HO601 := n3_
             have BK584 := n4_
             have BK598 := n5_
             have HB := n6_
             clear n0_ n1_ n2_ n3_ n4_ n5_ n6_
             refine start_ (n := 5) (S := fun w' => w'.cell? ⟨gb598, 0, none⟩ = some (.int .i64 t594) ∧ w'.cell? ⟨gb598, 1, none⟩ = some (.slice Ao45 t595.length co45) ∧ w'.cell? ⟨gb584, 0, none⟩ = some (.int .i64 a0_0) ∧ w'.cell? ⟨gb584, 1, none⟩ = some (.slice A0_1 l0_1.length c0_1)) (ds := []) #[false, false, false, false, false] (by kernel_rfl) rfl rfl ⟨bc BK598 0, bc BK598 1, bc BK584 0, bc BK584 1⟩ (fun hHeld => ?_)
             generalize w46.drew = w49 at HO589 HO592 HO597 HO601 BK584 BK598 HB hHeld ⊢
             refine take_ (i := 0) (N := some 41) (v := ?_) (a' := ?_) #[true, false, false, false, false] rfl rfl (by kernel_rfl) (fun _ _ _ h => h) (Or.inl ⟨by rfl, ?_⟩) hHeld ?_ ?_
             rotate_left
             ·
              rintro w' ⟨s0, s1, s2, s3⟩
              go_simp
              with_reducible rfl
             rotate_left
             ·
              simp only [Act.put, List.setIfInBounds_toArray, List.set_cons_zero, List.set_cons_succ, i64_w, i32_w]
              rfl
             refine take_ (i := 1) (N := some 42) (v := ?_) (a' := ?_) #[true, true, false, false, false] rfl rfl (by kernel_rfl) (fun _ _ _ h => h) (Or.inl ⟨by rfl, ?_⟩) hHeld ?_ ?_
             rotate_left
             ·
              rintro w' ⟨s0, s1, s2, s3⟩
              go_simp
              with_reducible rfl
             rotate_left
             ·
              simp only [Act.put, List.setIfInBounds_toArray, List.set_cons_zero, List.set_cons_succ, i64_w, i32_w]
              rfl
             refine one_ (i := 2) (N := some 43) #[true, true, true, false, false] rfl rfl (by kernel_rfl) (by decide) (fun K hK => ?_)
             refine goes_ Tryz.func14 (by kernel_rfl) rfl #[.agg #[.int .i64 a0_0, .slice A0_1 l0_1.length c0_1]] (by rfl) rfl rfl (by (try simp only [List.map_toArray, List.map_cons, List.map_nil]); first | done | rfl | (simp only [List.length_drop, List.length_take]; rfl)) ?_
             with_reducible refine (laws_toPuzzle.calls k a0_0 _ _ l0_1 t604 t605 _ ?side1 ?side2 A14.out).mono ?_
             (case side1 => repeat (first | exact (Kd.C_below HR0_1.out HB.out) | (with_reducible refine Kd.C_alloc ?_ _) | (with_reducible refine Kd.C_drewN ?_ _) | (with_reducible refine Kd.C_drew ?_)))
             (case side2 => exact HC0_1.out)
             rintro e w50 ⟨v606, rfl, ho0, hb⟩
             refine ⟨_, rfl, ?_⟩
             have n0_ := Aside0.mk (Kd.R_elder' (qr HO589.out) (Kd.R_base ho0) hb)
             have n1_ := Aside0.mk (Kd.R_below (qr HO592.out) hb)
             have n2_ := Aside0.mk (Kd.R_elder' (qr HO597.out) (Kd.R_base ho0) hb)
             have n3_ := Aside0.mk (Kd.R_below (qr HO601.out) hb)
             have n4_ := Aside0.mk (Kd.R_lower (Kd.R_new' (Kd.R_new' ho0 (Kd.R_lt (qr HO589.out))) (Kd.R_lt (qr HO597.out))) (below_size (qw HB)))
             have n5_ := qbb BK584 hb
             have n6_ := qbb BK598 hb
             have n7_ := Aside0.mk (below_step (qw HB) hb)
             clear HO589
             clear HO592
             clear HO597
             clear HO601
             clear BK584
             clear BK598
             clear HB
             have HO589 := n0_
             have HO592 := n1_
             have HO597 := n2_
             have HO601 := n3_
             have HO607 := n4_
             have BK584 := n5_
             have BK598 := n6_
             have HB := n7_
             clear n0_ n1_ n2_ n3_ n4_ n5_ n6_ n7_
             (try clear hb)
             (try clear hb2)
             (try clear hk)
             (try clear hi)
             (try clear ho0)
             obtain ⟨Ao51, co51, eo51⟩ := Kd.R_slice HO607.out
             (first | subst eo51 | (injection eo51 with f1_ f2_ f3_; have f4_ := f1_.symm; have f5_ := f3_.symm; clear f1_ f2_ f3_; subst f4_; subst f5_))
             refine hK.out _ _ ⟨bc BK598 0, bc BK598 1, bc BK584 0, bc BK584 1⟩ (fun hHeld => ?_)
             clear hK K
             refine norm_ (a' := ?_) ?_ ?_
             rotate_left
             ·
              show Act.put _ (some 43) _ = _
              simp only [Act.put, List.setIfInBounds_toArray, List.set_cons_zero, List.set_cons_succ, i64_w, i32_w]
              rfl
             refine one_ (i := 3) (N := some 44) #[true, true, true, true, false] rfl rfl (by kernel_rfl) (by decide) (fun K hK => ?_)
             refine goes_ Tryz.func16 (by kernel_rfl) rfl #[.agg #[.int .i64 t594, .slice Ao45 t595.length co45], .agg #[.int .i64 t604, .slice Ao51 t605.length co51]] (by rfl) rfl rfl (by (try simp only [List.map_toArray, List.map_cons, List.map_nil]); first | done | rfl | (simp only [List.length_drop, List.length_take]; rfl)) ?_
             with_reducible refine (laws_eqPuzzle.calls k t594 _ _ t595 t604 _ _ t605 true _ ?side1 ?side2 ?side3 ?side4 A15.out).mono ?_
             (case side1 => repeat (first | exact (Kd.R_reads' HO597.out).2.2 | (with_reducible refine Kd.C_alloc ?_ _) | (with_reducible refine Kd.C_drewN ?_ _) | (with_reducible refine Kd.C_drew ?_)))
             (case side2 => exact (Kd.R_reads' HO597.out).2.1)
             (case side3 => repeat (first | exact (Kd.R_reads' HO607.out).2.2 | (with_reducible refine Kd.C_alloc ?_ _) | (with_reducible refine Kd.C_drewN ?_ _) | (with_reducible refine Kd.C_drew ?_)))
             (case side4 => exact (Kd.R_reads' HO607.out).2.1)
             rintro e w52 ⟨rfl, hb⟩
             refine ⟨_, rfl, ?_⟩
             have n0_ := Aside0.mk (Kd.R_below (qr HO589.out) hb)
             have n1_ := Aside0.mk (Kd.R_below (qr HO592.out) hb)
             have n2_ := Aside0.mk (Kd.R_below (qr HO597.out) hb)
             have n3_ := Aside0.mk (Kd.R_below (qr HO601.out) hb)
             have n4_ := Aside0.mk (Kd.R_below (qr HO607.out) hb)
             have n5_ := qbb BK584 hb
             have n6_ := qbb BK598 hb
             have n7_ := Aside0.mk (below_step (qw HB) hb)
             clear HO589
             clear HO592
             clear HO597
             clear HO601
             clear HO607
             clear BK584
             clear BK598
             clear HB
             have HO589 := n0_
             have HO592 := n1_
             have HO597 := n2_
             have HO601 := n3_
             have HO607 := n4_
             have BK584 := n5_
             have BK598 := n6_
             have HB := n7_
             clear n0_ n1_ n2_ n3_ n4_ n5_ n6_ n7_
             (try clear hb)
             (try clear hb2)
             (try clear hk)
             (try clear hi)
             refine hK.out _ _ ⟨bc BK598 0, bc BK598 1, bc BK584 0, bc BK584 1⟩ (fun hHeld => ?_)
             clear hK K
             refine norm_ (a' := ?_) ?_ ?_
             rotate_left
             ·
              show Act.put _ (some 44) _ = _
              simp only [Act.put, List.setIfInBounds_toArray, List.set_cons_zero, List.set_cons_succ, i64_w, i32_w]
              rfl
             refine pure_ (i := 4) (N := some 45) (v := ?_) (a' := ?_) #[true, true, true, true, true] rfl rfl (by kernel_rfl) (fun _ _ _ h => h) (Or.inl ⟨by rfl, ?_⟩) ?_ ?_
             rotate_left
             ·
              intro w'
              go_simp
              with_reducible rfl
             rotate_left
             ·
              simp only [Act.put, List.setIfInBounds_toArray, List.set_cons_zero, List.set_cons_succ, i64_w, i32_w]
              rfl
             refine done_ (by kernel_rfl) ?_
             have hcz53_0 : w52.cell? ⟨gb598, 0, none⟩ = some (.int .i64 t594) := bc BK598 0
             have hcz53_1 : w52.cell? ⟨gb598, 1, none⟩ = some (.slice Ao45 t595.length co45) := bc BK598 1
             have hfz53_0 := blk_frozen BK598.out 0
             have hfz53_1 := blk_frozen BK598.out 1
             try go_wp2_with (first | ((with_reducible refine gate_callee (f := 28) rfl ?_); refine goesL_ (some 48) rfl rfl Tryz.func28 (by kernel_rfl) rfl #[.agg #[.int .i64 t594, .slice Ao45 t595.length co45], .int .i64 1] rfl (by (try simp only [List.map_toArray, List.map_cons, List.map_nil]); first | done | rfl | (simp only [List.length_drop, List.length_take]; rfl)) ?_; (with_reducible refine (laws_markPuzzle.calls k t594 (fun k_ => some k_ = (.slice Ao45 t595.length co45 : Value).ownBlock) (.slice Ao45 t595.length co45) t595 1 t609 t610 w _ ?side1 ?side2 A17.out).mono ?_); (case side1 => repeat (first | (with_reducible first | exact HB.out | apply below_alloc | apply pw_below_drewN | apply below_drew1 | refine below_set ?_ GE584.out | refine below_set ?_ GE598.out) | exact HB.out)); (case side2 => exact Kd.R_tight rfl HO597.out); rintro e w54 ⟨rfl, hy0, hb, hkp⟩; refine ⟨_, rfl, ?_⟩; have n0_ := Aside0.mk (blk_kept (qb BK584) hkp (fun hs_ => (fun e_ => (Kd.R_ne HO597.out BK584.out (by decide)) e_) hs_)); have n1_ := Aside0.mk (Kd.R_mono (ok' := fun k_ => some k_ ≠ (.slice Ao45 t595.length co45 : Value).ownBlock ∧ some k_ ≠ (.slice Ao51 t605.length co51 : Value).ownBlock) (Kd.R_keptB (HO589.out) hkp laws_FnExactLeftByClues.ks) laws_FnExactLeftByClues.kq); have n2_ := Aside0.mk (Kd.R_mono (ok' := fun k_ => some k_ ≠ (.slice Ao47 t599.length co47 : Value).ownBlock) (Kd.R_keptB ((Kd.R_apart' HO592.out (Kd.R_typed HO597.out) (by decide))) hkp laws_FnExactLeftByClues.ks) laws_FnExactLeftByClues.kq); have n3_ := Aside0.mk (Kd.R_reok rfl hy0 (fun k_ e_ => HO597.out.1 k_ e_)); have n4_ := Aside0.mk (blk_kept (qb BK598) hkp (fun hs_ => (fun e_ => (Kd.R_ne HO597.out BK598.out (by decide)) e_) hs_)); have n5_ := Aside0.mk (Kd.R_mono (ok' := fun k_ => some k_ ≠ (.slice Ao48 t590.length co48 : Value).ownBlock) (Kd.R_keptB ((Kd.R_apart' HO601.out (Kd.R_typed HO597.out) (by decide))) hkp laws_FnExactLeftByClues.ks) laws_FnExactLeftByClues.kq); have n6_ := Aside0.mk (Kd.R_mono (ok' := fun k_ => some k_ ≠ (.slice Ao38 t587.length co38 : Value).ownBlock ∧ some k_ ≠ (.slice Ao45 t595.length co45 : Value).ownBlock) (Kd.R_keptB (HO607.out) hkp laws_FnExactLeftByClues.ks) laws_FnExactLeftByClues.kq); have n7_ := Aside0.mk (hb); clear BK584; clear HO589; clear HO592; clear HO597; clear BK598; clear HO601; clear HO607; clear HB; have BK584 := n0_; have HO589 := n1_; have HO592 := n2_; have HO597 := n3_; have BK598 := n4_; have HO601 := n5_; have HO607 := n6_; have HB := n7_; clear n0_ n1_ n2_ n3_ n4_ n5_ n6_ n7_; (try clear hb); (try clear hkp); (try clear hy0)) | (go_at_call 27; (with_reducible refine (laws_eqIntS.calls k _ _ t599 _ _ t590 true _ ?side1 ?side2 ?side3 ?side4 A19.out).mono ?_); (case side1 => repeat (first | exact (Kd.R_reads' HO601.out).2.2 | (with_reducible refine Kd.C_alloc ?_ _) | (with_reducible refine Kd.C_drewN ?_ _) | (with_reducible refine Kd.C_drew ?_))); (case side2 => exact (Kd.R_reads' HO601.out).2.1); (case side3 => repeat (first | exact (Kd.R_reads' HO592.out).2.2 | (with_reducible refine Kd.C_alloc ?_ _) | (with_reducible refine Kd.C_drewN ?_ _) | (with_reducible refine Kd.C_drew ?_))); (case side4 => exact (Kd.R_reads' HO592.out).2.1); rintro e w' ⟨rfl, ⟨nd, rfl⟩⟩) | ((with_reducible refine gate_callee (f := 29) rfl ?_); refine goesL_ (some 64) rfl rfl Tryz.func29 (by kernel_rfl) rfl #[.slice Ao47 t599.length co47, .int .i64 1] rfl (by (try simp only [List.map_toArray, List.map_cons, List.map_nil]); first | done | rfl | (simp only [List.length_drop, List.length_take]; rfl)) ?_; (with_reducible refine (laws_markIntS.calls k (fun k_ => some k_ = (.slice Ao47 t599.length co47 : Value).ownBlock) (.slice Ao47 t599.length co47) t599 1 t612 t613 w _ ?side1 ?side2 A21.out).mono ?_); (case side1 => repeat (first | (with_reducible first | exact HB.out | apply below_alloc | apply pw_below_drewN | apply below_drew1 | refine below_set ?_ GE584.out | refine below_set ?_ GE598.out) | exact HB.out)); (case side2 => exact Kd.R_tight rfl HO601.out); rintro e w55 ⟨rfl, hy0, hb, hkp⟩; refine ⟨_, rfl, ?_⟩; have n0_ := Aside0.mk (blk_kept (qb BK584) hkp (fun hs_ => (fun e_ => (Kd.R_ne HO601.out BK584.out (by decide)) e_) hs_)); have n1_ := Aside0.mk (Kd.R_mono (ok' := fun k_ => some k_ ≠ (.slice Ao45 t595.length co45 : Value).ownBlock ∧ some k_ ≠ (.slice Ao51 t605.length co51 : Value).ownBlock) (Kd.R_keptB ((Kd.R_apart' HO589.out (Kd.R_typed HO601.out) (by decide))) hkp laws_FnExactLeftByClues.ks) laws_FnExactLeftByClues.kq); have n2_ := Aside0.mk (Kd.R_mono (ok' := fun k_ => some k_ ≠ (.slice Ao47 t599.length co47 : Value).ownBlock) (Kd.R_keptB (HO592.out) hkp laws_FnExactLeftByClues.ks) laws_FnExactLeftByClues.kq); have n3_ := Aside0.mk (Kd.R_mono (ok' := fun k_ => some k_ ≠ (.slice Ao38 t587.length co38 : Value).ownBlock ∧ some k_ ≠ (.slice Ao51 t605.length co51 : Value).ownBlock) (Kd.R_keptB ((Kd.R_apart' HO597.out (Kd.R_typed HO601.out) (by decide))) hkp laws_FnExactLeftByClues.ks) laws_FnExactLeftByClues.kq); have n4_ := Aside0.mk (blk_kept (qb BK598) hkp (fun hs_ => (fun e_ => (Kd.R_ne HO601.out BK598.out (by decide)) e_) hs_)); have n5_ := Aside0.mk (Kd.R_reok rfl hy0 (fun k_ e_ => HO601.out.1 k_ e_)); have n6_ := Aside0.mk (Kd.R_mono (ok' := fun k_ => some k_ ≠ (.slice Ao38 t587.length co38 : Value).ownBlock ∧ some k_ ≠ (.slice Ao45 t595.length co45 : Value).ownBlock) (Kd.R_keptB ((Kd.R_apart' HO607.out (Kd.R_typed HO601.out) (by decide))) hkp laws_FnExactLeftByClues.ks) laws_FnExactLeftByClues.kq); have n7_ := Aside0.mk (hb); clear BK584; clear HO589; clear HO592; clear HO597; clear BK598; clear HO601; clear HO607; clear HB; have BK584 := n0_; have HO589 := n1_; have HO592 := n2_; have HO597 := n3_; have BK598 := n4_; have HO601 := n5_; have HO607 := n6_; have HB := n7_; clear n0_ n1_ n2_ n3_ n4_ n5_ n6_ n7_; (try clear hb); (try clear hkp); (try clear hy0)) | ((with_reducible refine gate_callee (f := 30) rfl ?_); refine goesL_ (some 67) rfl rfl Tryz.func30 (by kernel_rfl) rfl #[.slice Ao47 t613.length co47, .int .i64 1] rfl (by (try simp only [List.map_toArray, List.map_cons, List.map_nil]); first | done | (rw [show t613.length = t599.length from (Kd.R_reads' HO601.out).1.symm] <;> rfl) | rfl | (simp only [List.length_drop, List.length_take]; rfl)) ?_; (with_reducible refine (laws_heldIntS.calls k _ _ t613 1 t614 _ ?side1 ?side2 A22.out).mono ?_); (case side1 => repeat (first | exact (Kd.R_reads' HO601.out).2.2 | (with_reducible refine Kd.C_alloc ?_ _) | (with_reducible refine Kd.C_drewN ?_ _) | (with_reducible refine Kd.C_drew ?_))); (case side2 => rw [show t613.length = t599.length from (Kd.R_reads' HO601.out).1.symm]; exact (Kd.R_reads' HO601.out).2.1); rintro e w' ⟨rfl, ⟨nd, rfl⟩⟩; refine ⟨_, rfl, ?_⟩; have hcz56_0 : w55.cell? ⟨gb584, 0, none⟩ = some (.int .i64 a0_0) := bc BK584 0; have hcz56_1 : w55.cell? ⟨gb584, 1, none⟩ = some (.slice A0_1 l0_1.length c0_1) := bc BK584 1; have hfz56_0 := blk_frozen BK584.out 0; have hfz56_1 := blk_frozen BK584.out 1) | ((with_reducible refine gate_callee (f := 14) rfl ?_); refine goesL_ (some 75) rfl rfl Tryz.func14 (by kernel_rfl) rfl #[.agg #[.int .i64 a0_0, .slice A0_1 l0_1.length c0_1]] rfl (by (try simp only [List.map_toArray, List.map_cons, List.map_nil]); first | done | rfl | (simp only [List.length_drop, List.length_take]; rfl)) ?_; (with_reducible refine (laws_toPuzzle.calls k a0_0 _ _ l0_1 t615 t616 _ ?side1 ?side2 A25.out).mono ?_); (case side1 => repeat (first | exact (Kd.C_below HR0_1.out (qw HB)) | (with_reducible refine Kd.C_alloc ?_ _) | (with_reducible refine Kd.C_drewN ?_ _) | (with_reducible refine Kd.C_drew ?_))); (case side2 => exact HC0_1.out); rintro e w57 ⟨v617, rfl, ho0, hb⟩; refine ⟨_, rfl, ?_⟩; have n0_ := Aside0.mk (Kd.R_elder' (qr HO589.out) (Kd.R_base ho0) hb); have n1_ := Aside0.mk (Kd.R_below (qr HO592.out) hb); have n2_ := Aside0.mk (Kd.R_elder' (qr HO597.out) (Kd.R_base ho0) hb); have n3_ := Aside0.mk (Kd.R_below (qr HO601.out) hb); have n4_ := Aside0.mk (Kd.R_elder' (qr HO607.out) (Kd.R_base ho0) hb); have n5_ := Aside0.mk (Kd.R_lower (Kd.R_new' (Kd.R_new' (Kd.R_new' ho0 (Kd.R_lt (qr HO589.out))) (Kd.R_lt (qr HO597.out))) (Kd.R_lt (qr HO607.out))) (below_size (qw HB))); have n6_ := qbb BK584 hb; have n7_ := qbb BK598 hb; have n8_ := Aside0.mk (below_step (qw HB) hb); clear HO589; clear HO592; clear HO597; clear HO601; clear HO607; clear BK584; clear BK598; clear HB; have HO589 := n0_; have HO592 := n1_; have HO597 := n2_; have HO601 := n3_; have HO607 := n4_; have HO618 := n5_; have BK584 := n6_; have BK598 := n7_; have HB := n8_; clear n0_ n1_ n2_ n3_ n4_ n5_ n6_ n7_ n8_; (try clear hb); (try clear hb2); (try clear hk); (try clear hi); (try clear ho0); obtain ⟨Ao58, co58, eo58⟩ := Kd.R_slice HO618.out; subst eo58) | ((with_reducible refine gate_callee (f := 26) rfl ?_); refine goesL_ (some 76) rfl rfl Tryz.func26 (by kernel_rfl) rfl #[.agg #[.int .i64 t615, .slice Ao58 t616.length co58]] rfl (by (try simp only [List.map_toArray, List.map_cons, List.map_nil]); first | done | rfl | (simp only [List.length_drop, List.length_take]; rfl)) ?_; (with_reducible refine (impl_LeftByClues.calls k t615 _ _ t616 t619 t622 _ ?side1 ?side2 A26.out).mono ?_); (case side1 => repeat (first | exact (Kd.R_reads' HO618.out).2.2 | (with_reducible refine Kd.C_alloc ?_ _) | (with_reducible refine Kd.C_drewN ?_ _) | (with_reducible refine Kd.C_drew ?_))); (case side2 => exact (Kd.R_reads' HO618.out).2.1); rintro e w59 ⟨v620, rfl, ho0, hb⟩; refine ⟨_, rfl, ?_⟩; have n0_ := Aside0.mk (Kd.R_below (qr HO589.out) hb); have n1_ := Aside0.mk (Kd.R_elder' (qr HO592.out) (Kd.R_base ho0) hb); have n2_ := Aside0.mk (Kd.R_below (qr HO597.out) hb); have n3_ := Aside0.mk (Kd.R_elder' (qr HO601.out) (Kd.R_base ho0) hb); have n4_ := Aside0.mk (Kd.R_below (qr HO607.out) hb); have n5_ := Aside0.mk (Kd.R_below (qr HO618.out) hb); have n6_ := Aside0.mk (Kd.R_lower (Kd.R_new' (Kd.R_new' ho0 (Kd.R_lt (qr HO592.out))) (Kd.R_lt (qr HO601.out))) (below_size (qw HB))); have n7_ := qbb BK584 hb; have n8_ := qbb BK598 hb; have n9_ := Aside0.mk (below_step (qw HB) hb); clear HO589; clear HO592; clear HO597; clear HO601; clear HO607; clear HO618; clear BK584; clear BK598; clear HB; have HO589 := n0_; have HO592 := n1_; have HO597 := n2_; have HO601 := n3_; have HO607 := n4_; have HO618 := n5_; have HO621 := n6_; have BK584 := n7_; have BK598 := n8_; have HB := n9_; clear n0_ n1_ n2_ n3_ n4_ n5_ n6_ n7_ n8_ n9_; (try clear hb); (try clear hb2); (try clear hk); (try clear hi); (try clear ho0); obtain ⟨Ao60, co60, eo60⟩ := Kd.R_slice HO621.out; subst eo60) | ((with_reducible refine gate_callee (f := 27) rfl ?_); refine goesL_ (some 81) rfl rfl Tryz.func27 (by kernel_rfl) rfl #[.slice Ao60 t619.length co60, .slice Ao48 t590.length co48] rfl (by (try simp only [List.map_toArray, List.map_cons, List.map_nil]); first | done | rfl | (simp only [List.length_drop, List.length_take]; rfl)) ?_; (with_reducible refine (laws_eqIntS.calls k _ _ t619 _ _ t590 true _ ?side1 ?side2 ?side3 ?side4 A27.out).mono ?_); (case side1 => repeat (first | exact (Kd.R_reads' HO621.out).2.2 | (with_reducible refine Kd.C_alloc ?_ _) | (with_reducible refine Kd.C_drewN ?_ _) | (with_reducible refine Kd.C_drew ?_))); (case side2 => exact (Kd.R_reads' HO621.out).2.1); (case side3 => repeat (first | exact (Kd.R_reads' HO592.out).2.2 | (with_reducible refine Kd.C_alloc ?_ _) | (with_reducible refine Kd.C_drewN ?_ _) | (with_reducible refine Kd.C_drew ?_))); (case side4 => exact (Kd.R_reads' HO592.out).2.1); rintro e w' ⟨rfl, ⟨nd, rfl⟩⟩; refine ⟨_, rfl, ?_⟩) | ((with_reducible refine gate_callee (f := 30) rfl ?_); refine goesL_ (some 90) rfl rfl Tryz.func30 (by kernel_rfl) rfl #[.slice Ao47 t613.length co47, .int .i64 1] rfl (by (try simp only [List.map_toArray, List.map_cons, List.map_nil]); first | done | (rw [show t613.length = t599.length from (Kd.R_reads' HO601.out).1.symm] <;> rfl) | rfl | (simp only [List.length_drop, List.length_take]; rfl)) ?_; (with_reducible refine (laws_heldIntS.calls k _ _ t613 1 t624 _ ?side1 ?side2 A30.out).mono ?_); (case side1 => repeat (first | exact (Kd.R_reads' HO601.out).2.2 | (with_reducible refine Kd.C_alloc ?_ _) | (with_reducible refine Kd.C_drewN ?_ _) | (with_reducible refine Kd.C_drew ?_))); (case side2 => rw [show t613.length = t599.length from (Kd.R_reads' HO601.out).1.symm]; exact (Kd.R_reads' HO601.out).2.1); rintro e w' ⟨rfl, ⟨nd, rfl⟩⟩; refine ⟨_, rfl, ?_⟩))
             go_ret
             exact ⟨by first | rfl | (simp [errW_none, errW_some] <;> rfl) | (simp [*, errW_none, errW_some] <;> rfl), qw HB⟩
            ·
             rw [if_neg c32] at H
             exact absurd H (by simp)
         ·
          replace c28 := Bool.eq_false_iff.mpr c28
          subst c28
          have H1 : (none) = some r := by rw [if_neg (show ¬ (false = true) by decide)] at H; exact H
          clear H
          have H := H1
          clear H1
          exact absurd H (by simp)
        ·
         rw [if_neg c24] at H
         exact absurd H (by simp)
      ·
       replace c20 := Bool.eq_false_iff.mpr c20
       subst c20
       have H1 : (none) = some r := by rw [if_neg (show ¬ (false = true) by decide)] at H; exact H
       clear H
       have H := H1
       clear H1
       exact absurd H (by simp)
    ·
     replace c16 := Bool.eq_false_iff.mpr c16
     subst c16
     have H1 : (none) = some r := by rw [if_neg (show ¬ (false = true) by decide)] at H; exact H
     clear H
     have H := H1
     clear H1
     exact absurd H (by simp)
  ·
   replace c12 := Bool.eq_false_iff.mpr c12
   subst c12
   have H1 : (none) = some r := by rw [if_neg (show ¬ (false = true) by decide)] at H; exact H
   clear H
   have H := H1
   clear H1
   exact absurd H (by simp)

end Go.Proofs.YtbgkaabbpdhhlaaGreatDoor.PA
