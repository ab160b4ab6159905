-- printed by xprint.py: the kit's print.py with given contracts
import Derived.Test.YtbigdaohimbkaaaGreatDoorPAx0
import Derived.Test.YtbigdaohimbkaaaGreatDoorPAx2
import Derived.Test.YtbigdaohimbkaaaGreatDoorPAx4
namespace Go.Proofs.YtbigdaohimbkaaaGreatDoor.PA
open Go.RowKit Go.Proofs.YtbigdaohimbkaaaGreatDoorW.PrintWords Go.Proofs.YtbigdaohimbkaaaGreatDoorW.PrintLast Go.Proofs.YtbigdaohimbkaaaGreatDoorW.PrintMore
attribute [local go_sem] max2_int min2_int max_two min_two max_three min_three max_four min_four   -- for this text's walks alone
set_option linter.unusedVariables false
set_option linter.unusedSimpArgs false

/-! ### impl_MakePuzzle: function 9 -/
theorem impl_MakePuzzle.next (g : Nat) (z : Int) (W : World) (hb : W.heap[g]? = some (.cells #[.int .i64 z] 3 (0, 0))) : Calls Tryz.prog 23 #[.pointer (some ⟨g, 0, none⟩)] W fun e w' => e = .returned (.int .i64 (Int.tmod (wrap64 ((wrap64 (z * 257)) + 1531)) 10007)) ∧ w' = W.setCell ⟨g, 0, none⟩ (.int .i64 (Int.tmod (wrap64 ((wrap64 (z * 257)) + 1531)) 10007)) ∧ w'.heap[g]? = some (.cells #[.int .i64 (Int.tmod (wrap64 ((wrap64 (z * 257)) + 1531)) 10007)] 3 (0, 0)) := by
  have h0 : W.cell? ⟨g, 0, none⟩ = some (.int .i64 z) := (blk_cell hb 0).trans rfl
  have hf := blk_frozen hb 0
  have hs := heap_setCell_same W g 0 #[.int .i64 z] 3 (.int .i64 (Int.tmod (wrap64 ((wrap64 (z * 257)) + 1531)) 10007)) hb
  clear hb
  go_enter Tryz.func23, Tryz.ntmps23
  go_wp2
  go_ret
  exact ⟨by first | rfl | simp [i64_w], by first | rfl | simp [i64_w], by first | exact hs | simpa [i64_w] using hs⟩
mutual
def impl_MakePuzzle.j0 : Nat → ByteArray → Int → Bool → Int → Option (Int × (List (S26)) × Bool)
 | 0, _, _, _, _ => none
 | k + 1, x0, x1, x25, x233000 => if x25 = true then (some (0, ([] : List (S26)), false)) else (impl_MakePuzzle.l0 k x0 x1 0 x233000 (x0.size : Int) ([] : List (S26)))
def impl_MakePuzzle.l0 : Nat → ByteArray → Int → Int → Int → Int → List (S26) → Option (Int × (List (S26)) × Bool)
 | 0, _, _, _, _, _, _ => none
 | k + 1, x0, x31, x32, x233000, x238000, x238001 => if x32 < x31 then (if (Int.tmod (Int.tmod (wrap64 ((wrap64 (x233000 * 257)) + 1531)) 10007) 6) = 1 then (if (x0.size : Int) = 0 then (none) else ((impl_truth.f k (Int.tmod (Int.tmod (wrap64 ((wrap64 (x233000 * 257)) + 1531)) 10007) 6) (Int.tmod (Int.tmod (wrap64 ((wrap64 ((Int.tmod (wrap64 ((wrap64 (x233000 * 257)) + 1531)) 10007) * 257)) + 1531)) 10007) (x0.size : Int)) x0).bind fun t238 => (if x238001.length < 5864062014805 then (impl_MakePuzzle.l0 k x0 x31 (wrap64 (x32 + 1)) (Int.tmod (wrap64 ((wrap64 ((Int.tmod (wrap64 ((wrap64 (x233000 * 257)) + 1531)) 10007) * 257)) + 1531)) 10007) x238000 (x238001 ++ [(⟨Int.tmod (Int.tmod (wrap64 ((wrap64 (x233000 * 257)) + 1531)) 10007) 6, Int.tmod (Int.tmod (wrap64 ((wrap64 ((Int.tmod (wrap64 ((wrap64 (x233000 * 257)) + 1531)) 10007) * 257)) + 1531)) 10007) (x0.size : Int), t238⟩ : S26)])) else (none)))) else (if (Int.tmod (Int.tmod (wrap64 ((wrap64 (x233000 * 257)) + 1531)) 10007) 6) = 4 then ((impl_truth.f k (Int.tmod (Int.tmod (wrap64 ((wrap64 (x233000 * 257)) + 1531)) 10007) 6) (wrap64 ((Int.tmod (Int.tmod (wrap64 ((wrap64 ((Int.tmod (wrap64 ((wrap64 (x233000 * 257)) + 1531)) 10007) * 257)) + 1531)) 10007) 8) + 2)) x0).bind fun t242 => (if x238001.length < 5864062014805 then (impl_MakePuzzle.l0 k x0 x31 (wrap64 (x32 + 1)) (Int.tmod (wrap64 ((wrap64 ((Int.tmod (wrap64 ((wrap64 (x233000 * 257)) + 1531)) 10007) * 257)) + 1531)) 10007) x238000 (x238001 ++ [(⟨Int.tmod (Int.tmod (wrap64 ((wrap64 (x233000 * 257)) + 1531)) 10007) 6, wrap64 ((Int.tmod (Int.tmod (wrap64 ((wrap64 ((Int.tmod (wrap64 ((wrap64 (x233000 * 257)) + 1531)) 10007) * 257)) + 1531)) 10007) 8) + 2), t242⟩ : S26)])) else (none))) else ((impl_truth.f k (Int.tmod (Int.tmod (wrap64 ((wrap64 (x233000 * 257)) + 1531)) 10007) 6) 0 x0).bind fun t246 => (if x238001.length < 5864062014805 then (impl_MakePuzzle.l0 k x0 x31 (wrap64 (x32 + 1)) (Int.tmod (wrap64 ((wrap64 ((Int.tmod (wrap64 ((wrap64 (x233000 * 257)) + 1531)) 10007) * 257)) + 1531)) 10007) x238000 (x238001 ++ [(⟨Int.tmod (Int.tmod (wrap64 ((wrap64 (x233000 * 257)) + 1531)) 10007) 6, 0, t246⟩ : S26)])) else (none))))) else (some (x238000, x238001, true))
end
def impl_MakePuzzle.f (k : Nat) (a0 : ByteArray) (a1 : Int) (a2 : Int) : Option (Int × (List (S26)) × Bool) := (impl_isHidden.f a0).bind fun t234 => (if t234 = true then ((impl_in.f a1 0 6).bind fun t235 => (if t235 = true then ((impl_in.f a2 0 9999).bind fun t236 => (impl_MakePuzzle.j0 k a0 a1 (!t236) a2)) else (impl_MakePuzzle.j0 k a0 a1 true a2))) else (impl_MakePuzzle.j0 k a0 a1 true a2))
theorem impl_MakePuzzle.mono_l : ∀ k, (∀ y0 y1 y2 y3, LeO (impl_MakePuzzle.j0 k y0 y1 y2 y3) (impl_MakePuzzle.j0 (k + 1) y0 y1 y2 y3)) ∧ (∀ y0 y1 y2 y3 y4 y5, LeO (impl_MakePuzzle.l0 k y0 y1 y2 y3 y4 y5) (impl_MakePuzzle.l0 (k + 1) y0 y1 y2 y3 y4 y5))
 | 0 => ⟨fun _ _ _ _ r h => by simp [impl_MakePuzzle.j0] at h, fun _ _ _ _ _ _ r h => by simp [impl_MakePuzzle.l0] at h⟩
 | k + 1 => by
  obtain ⟨ih0, ih1⟩ := impl_MakePuzzle.mono_l k
  refine ⟨?_, ?_⟩
  ·
   intro y0 y1 y2 y3
   unfold impl_MakePuzzle.j0
   repeat' first
   | (with_reducible exact ih0 _ _ _ _)
   | (with_reducible exact ih1 _ _ _ _ _ _)
   | (with_reducible exact impl_truth.mono _ _ _ _)
   | (with_reducible exact LeO.refl _)
   | (with_reducible exact LeO.none _)
   | (with_reducible refine LeO.ite ?_ ?_)
   | (with_reducible refine LeO.bind ?_ (fun _ => ?_))
   | exact ih0 _ _ _ _
   | exact ih1 _ _ _ _ _ _
   | exact impl_truth.mono _ _ _ _
   | exact LeO.none _
   | refine LeO.ite ?_ ?_
   | refine LeO.bind ?_ (fun _ => ?_)
  ·
   intro y0 y1 y2 y3 y4 y5
   unfold impl_MakePuzzle.l0
   repeat' first
   | (with_reducible exact ih0 _ _ _ _)
   | (with_reducible exact ih1 _ _ _ _ _ _)
   | (with_reducible exact impl_truth.mono _ _ _ _)
   | (with_reducible exact LeO.refl _)
   | (with_reducible exact LeO.none _)
   | (with_reducible refine LeO.ite ?_ ?_)
   | (with_reducible refine LeO.bind ?_ (fun _ => ?_))
   | exact ih0 _ _ _ _
   | exact ih1 _ _ _ _ _ _
   | exact impl_truth.mono _ _ _ _
   | exact LeO.none _
   | refine LeO.ite ?_ ?_
   | refine LeO.bind ?_ (fun _ => ?_)
theorem impl_MakePuzzle.mono : ∀ a0 a1 a2 k, LeO (impl_MakePuzzle.f k a0 a1 a2) (impl_MakePuzzle.f (k + 1) a0 a1 a2) := by
 intro a0 a1 a2 k
 obtain ⟨ih0, ih1⟩ := impl_MakePuzzle.mono_l k
 unfold impl_MakePuzzle.f
 repeat' first
   | (with_reducible exact ih0 _ _ _ _)
   | (with_reducible exact ih1 _ _ _ _ _ _)
   | (with_reducible exact impl_truth.mono _ _ _ _)
   | (with_reducible exact LeO.refl _)
   | (with_reducible exact LeO.none _)
   | (with_reducible refine LeO.ite ?_ ?_)
   | (with_reducible refine LeO.bind ?_ (fun _ => ?_))
   | exact ih0 _ _ _ _
   | exact ih1 _ _ _ _ _ _
   | exact impl_truth.mono _ _ _ _
   | exact LeO.none _
   | refine LeO.ite ?_ ?_
   | refine LeO.bind ?_ (fun _ => ?_)
def impl_MakePuzzle.T14 : Bool × List (List Nat × List Nat) := (true, [([], []), ([0], [0]), ([], []), ([], []), ([], []), ([], []), ([], []), ([4, 5, 6], [4, 5, 6]), ([2, 3, 7], [2, 3, 7]), ([8], [8]), ([1, 9, 7], [1, 9]), ([0, 1, 2, 3, 4, 5, 6, 7, 8, 9, 10], []), ([11, 10, 10, 0, 1, 2, 3, 4, 5, 6, 7, 8, 9, 10], [10, 11])])
def impl_MakePuzzle.B14 : List Nat := [0, 1, 0, 0, 0, 0, 0, 112, 252, 508, 1023, 2047, 4095]
theorem impl_MakePuzzle.tab14 : rtab .any (opsOf Tryz.f9 14) = impl_MakePuzzle.T14 := by kernel_rfl
theorem impl_MakePuzzle.bits14 : waitsOk impl_MakePuzzle.T14.2 impl_MakePuzzle.B14 = true := by kernel_rfl
set_option maxHeartbeats 8000000 in
set_option maxRecDepth 100000 in
theorem impl_MakePuzzle.calls (k : Nat) (a0 : ByteArray) (a1 : Int) (a2 : Int) (r1 : Int) (r2 : List (S26)) (r3 : Bool) (w : World) (h : impl_MakePuzzle.f k a0 a1 a2 = some (r1, r2, r3)) (hglob : Glob w := by first | exact Glob.below HG.out (by repeat (first | (with_reducible first | exact HB.out | apply below_alloc | apply pw_below_drewN | apply below_drew1 | refine below_set ?_ (Aside0.out (by assumption))) | exact HB.out)) | assumption) :
  Calls Tryz.prog 9 #[.string a0, .int .i64 a1, .int .i64 a2] w fun e w' => ∃ v1_ : Value, e = .returned (.tuple #[.agg #[.int .i64 r1, v1_], .bool r3]) ∧ Kd.R k26 26 w' w.heap.size (fun _ => True) v1_ r2 ∧ Below w.heap.size w w' := by
 have HG := Aside0.mk hglob
 clear hglob
 have hu31 := Tryz.underlying31
 have hu26 := Tryz.underlying26
 have HB := Aside0.mk (Below.refl w.heap.size w)
 have H : ((impl_isHidden.f a0).bind fun t234 => (if t234 = true then ((impl_in.f a1 0 6).bind fun t235 => (if t235 = true then ((impl_in.f a2 0 9999).bind fun t236 => (impl_MakePuzzle.j0 k a0 a1 (!t236) a2)) else (impl_MakePuzzle.j0 k a0 a1 true a2))) else (impl_MakePuzzle.j0 k a0 a1 true a2))) = some (r1, r2, r3) := h
 clear h
 have HC4 := Aside0.mk H
 clear H
 go_enter Tryz.func9, Tryz.ntmps9
 go_upto_region 1 with (first | ((with_reducible refine gate_dst (N := 5) rfl ?_); refine box_event ?hg (N := 5) ?hd (cs := #[.int .i64 a2]) (t := 3) ?hr ?_; (case hd => rfl); (case hg => rfl); (case hr => first | (go_simp; done) | (go_simp; rfl)); intro gb232 hg w5 hbox hb; have n0_ := Aside0.mk (below_step (qw HB) hb); have n1_ := Aside0.mk (hbox); have n2_ := Aside0.mk ((by rw [hg]; exact (below_size (qw HB)) : w.heap.size ≤ gb232)); have n3_ := Aside0.mk ((by rw [hg]; exact (below_size (qw HB)) : w.heap.size ≤ gb232)); clear HB; have HB := n0_; have BK232 := n1_; have GW232 := n2_; have GE232 := n3_; clear n0_ n1_ n2_ n3_; clear hb hbox hg) | ((with_reducible refine gate_dst (N := 6) rfl ?_); refine box_event ?hg (N := 6) ?hd (cs := #[.int .i64 0, .slice none 0 0]) (t := 31) ?hr ?_; (case hd => rfl); (case hg => rfl); (case hr => first | (go_simp; done) | (go_simp; rfl)); intro gb233 hg w6 hbox hb; have n0_ := qbb BK232 hb; have n1_ := Aside0.mk (below_step (qw HB) hb); have n2_ := Aside0.mk (hbox); have n3_ := Aside0.mk ((by rw [hg]; exact (below_size (qw HB)) : w.heap.size ≤ gb233)); have n4_ := Aside0.mk ((by rw [hg]; exact (below_size (qw HB)) : w.heap.size ≤ gb233)); have n5_ := Aside0.mk ((by rw [hg]; exact Nat.ne_of_lt (blk_lt (qb BK232)) : gb232 ≠ gb233)); have n6_ := Aside0.mk ((by rw [hg]; exact Nat.ne_of_gt (blk_lt (qb BK232)) : gb233 ≠ gb232)); clear BK232; clear HB; have BK232 := n0_; have HB := n1_; have BK233 := n2_; have GW233 := n3_; have GE233 := n4_; have NB232_233 := n5_; have NB233_232 := n6_; clear n0_ n1_ n2_ n3_ n4_ n5_ n6_; clear hb hbox hg))
 (try simp only [Act.put, List.setIfInBounds_toArray, List.set_cons_zero, List.set_cons_succ])
 go_cut [25] (fun v25 wc => ∃ (kq : Nat) (x25_3 : Bool), v25 = .bool x25_3 ∧ Aside0 (impl_MakePuzzle.j0 kq a0 a1 x25_3 a2 = some (r1, r2, r3)) ∧ Aside0 (kq ≤ k) ∧ Aside0 (wc.heap[gb232]? = some (.cells #[.int .i64 a2] 3 (0, 0))) ∧ Aside0 (wc.heap[gb233]? = some (.cells #[.int .i64 0, (.slice none 0 0)] 31 (0, 0))) ∧ Aside0 (Below w.heap.size w wc))
 case first =>
  have H := HC4.out
  clear HC4
  replace H := Option.bind_eq_some_iff.mp H
  obtain ⟨t234, A70, H⟩ := H
  replace H : (if t234 = true then ((impl_in.f a1 0 6).bind fun t235 => (if t235 = true then ((impl_in.f a2 0 9999).bind fun t236 => (impl_MakePuzzle.j0 k a0 a1 (!t236) a2)) else (impl_MakePuzzle.j0 k a0 a1 true a2))) else (impl_MakePuzzle.j0 k a0 a1 true a2)) = some (r1, r2, r3) := H
  have A7 := Aside0.mk A70
  clear A70
  by_cases c8 : t234 = true
  ·
   subst c8
   have H1 : ((impl_in.f a1 0 6).bind fun t235 => (if t235 = true then ((impl_in.f a2 0 9999).bind fun t236 => (impl_MakePuzzle.j0 k a0 a1 (!t236) a2)) else (impl_MakePuzzle.j0 k a0 a1 true a2))) = some (r1, r2, r3) := by rw [if_pos rfl] at H; exact H
   clear H
   have H := H1
   clear H1
   replace H := Option.bind_eq_some_iff.mp H
   obtain ⟨t235, A90, H⟩ := H
   replace H : (if t235 = true then ((impl_in.f a2 0 9999).bind fun t236 => (impl_MakePuzzle.j0 k a0 a1 (!t236) a2)) else (impl_MakePuzzle.j0 k a0 a1 true a2)) = some (r1, r2, r3) := H
   have A9 := Aside0.mk A90
   clear A90
   by_cases c10 : t235 = true
   ·
    subst c10
    have H1 : ((impl_in.f a2 0 9999).bind fun t236 => (impl_MakePuzzle.j0 k a0 a1 (!t236) a2)) = some (r1, r2, r3) := by rw [if_pos rfl] at H; exact H
    clear H
    have H := H1
    clear H1
    replace H := Option.bind_eq_some_iff.mp H
    obtain ⟨t236, A110, H⟩ := H
    replace H : (impl_MakePuzzle.j0 k a0 a1 (!t236) a2) = some (r1, r2, r3) := H
    have A11 := Aside0.mk A110
    clear A110
    have H' := Aside0.mk H
    clear H
    go_wp2_with (first | ((with_reducible refine gate_callee (f := 16) rfl ?_); refine goesL_ (some 14) rfl rfl Tryz.func16 (by kernel_rfl) rfl #[.string a0] rfl (by (try simp only [List.map_toArray, List.map_cons, List.map_nil]); first | done | rfl | (simp only [List.length_drop, List.length_take]; rfl)) ?_; (with_reducible refine (impl_isHidden.calls a0 true _ A7.out).mono ?_); rintro e w12 ⟨rfl, hb⟩; refine ⟨_, rfl, ?_⟩; have n0_ := qbb BK232 hb; have n1_ := qbb BK233 hb; have n2_ := Aside0.mk (below_step (qw HB) hb); clear BK232; clear BK233; clear HB; have BK232 := n0_; have BK233 := n1_; have HB := n2_; clear n0_ n1_ n2_; (try clear hb); (try clear hb2); (try clear hk); (try clear hi)) | (go_at_call 22; (with_reducible refine (impl_in.calls a1 0 6 true _ A9.out).mono ?_); rintro e w' ⟨rfl, ⟨nd, rfl⟩⟩; have hnb13 := NB232_233.out; have hnc13 := NB233_232.out; have hcz14_0 : w12.cell? ⟨gb232, 0, none⟩ = some (.int .i64 a2) := bc BK232 0; have hfz14_0 := blk_frozen BK232.out 0) | (go_at_call 22; (with_reducible refine (impl_in.calls a2 0 9999 t236 _ A11.out).mono ?_); rintro e w' ⟨rfl, ⟨nd, rfl⟩⟩))
    go_meet
    case rel => exact ⟨_, (!t236), (by first | rfl | (simp; done) | (simp [*]; done) | (simp [isEmpty_bne]; done) | (simp [i64_w]; done) | (simp only [i64_w]; done)), H', ⟨by first | omega | exact Nat.le_refl _⟩, ⟨by (with_reducible repeat (first | refine blk_drewN ?_ _ | refine blk_drew ?_ | refine blk_alloc ?_ _)); exact BK232.out⟩, ⟨by (with_reducible repeat (first | refine blk_drewN ?_ _ | refine blk_drew ?_ | refine blk_alloc ?_ _)); exact BK233.out⟩, ⟨by repeat (first | (with_reducible first | exact HB.out | apply below_alloc | apply pw_below_drewN | apply below_drew1 | refine below_set ?_ GE232.out | refine below_set ?_ GE233.out) | exact HB.out)⟩⟩
   ·
    replace c10 := Bool.eq_false_iff.mpr c10
    subst c10
    have H1 : (impl_MakePuzzle.j0 k a0 a1 true a2) = some (r1, r2, r3) := by rw [if_neg (show ¬ (false = true) by decide)] at H; exact H
    clear H
    have H := H1
    clear H1
    have H' := Aside0.mk H
    clear H
    go_wp2_with (first | ((with_reducible refine gate_callee (f := 16) rfl ?_); refine goesL_ (some 14) rfl rfl Tryz.func16 (by kernel_rfl) rfl #[.string a0] rfl (by (try simp only [List.map_toArray, List.map_cons, List.map_nil]); first | done | rfl | (simp only [List.length_drop, List.length_take]; rfl)) ?_; (with_reducible refine (impl_isHidden.calls a0 true _ A7.out).mono ?_); rintro e w15 ⟨rfl, hb⟩; refine ⟨_, rfl, ?_⟩; have n0_ := qbb BK232 hb; have n1_ := qbb BK233 hb; have n2_ := Aside0.mk (below_step (qw HB) hb); clear BK232; clear BK233; clear HB; have BK232 := n0_; have BK233 := n1_; have HB := n2_; clear n0_ n1_ n2_; (try clear hb); (try clear hb2); (try clear hk); (try clear hi)) | (go_at_call 22; (with_reducible refine (impl_in.calls a1 0 6 false _ A9.out).mono ?_); rintro e w' ⟨rfl, ⟨nd, rfl⟩⟩))
    go_meet
    case rel => exact ⟨_, (true), (by first | rfl | (simp; done) | (simp [*]; done) | (simp [isEmpty_bne]; done) | (simp [i64_w]; done) | (simp only [i64_w]; done)), H', ⟨by first | omega | exact Nat.le_refl _⟩, ⟨by (with_reducible repeat (first | refine blk_drewN ?_ _ | refine blk_drew ?_ | refine blk_alloc ?_ _)); exact BK232.out⟩, ⟨by (with_reducible repeat (first | refine blk_drewN ?_ _ | refine blk_drew ?_ | refine blk_alloc ?_ _)); exact BK233.out⟩, ⟨by repeat (first | (with_reducible first | exact HB.out | apply below_alloc | apply pw_below_drewN | apply below_drew1 | refine below_set ?_ GE232.out | refine below_set ?_ GE233.out) | exact HB.out)⟩⟩
  ·
   replace c8 := Bool.eq_false_iff.mpr c8
   subst c8
   have H1 : (impl_MakePuzzle.j0 k a0 a1 true a2) = some (r1, r2, r3) := by rw [if_neg (show ¬ (false = true) by decide)] at H; exact H
   clear H
   have H := H1
   clear H1
   have H' := Aside0.mk H
   clear H
   go_wp2_with (first | ((with_reducible refine gate_callee (f := 16) rfl ?_); refine goesL_ (some 14) rfl rfl Tryz.func16 (by kernel_rfl) rfl #[.string a0] rfl (by (try simp only [List.map_toArray, List.map_cons, List.map_nil]); first | done | rfl | (simp only [List.length_drop, List.length_take]; rfl)) ?_; (with_reducible refine (impl_isHidden.calls a0 false _ A7.out).mono ?_); rintro e w16 ⟨rfl, hb⟩; refine ⟨_, rfl, ?_⟩; have n0_ := qbb BK232 hb; have n1_ := qbb BK233 hb; have n2_ := Aside0.mk (below_step (qw HB) hb); clear BK232; clear BK233; clear HB; have BK232 := n0_; have BK233 := n1_; have HB := n2_; clear n0_ n1_ n2_; (try clear hb); (try clear hb2); (try clear hk); (try clear hi)))
   go_meet
   case rel => exact ⟨_, (true), (by first | rfl | (simp; done) | (simp [*]; done) | (simp [isEmpty_bne]; done) | (simp [i64_w]; done) | (simp only [i64_w]; done)), H', ⟨by first | omega | exact Nat.le_refl _⟩, ⟨by (with_reducible repeat (first | refine blk_drewN ?_ _ | refine blk_drew ?_ | refine blk_alloc ?_ _)); exact BK232.out⟩, ⟨by (with_reducible repeat (first | refine blk_drewN ?_ _ | refine blk_drew ?_ | refine blk_alloc ?_ _)); exact BK233.out⟩, ⟨by repeat (first | (with_reducible first | exact HB.out | apply below_alloc | apply pw_below_drewN | apply below_drew1 | refine below_set ?_ GE232.out | refine below_set ?_ GE233.out) | exact HB.out)⟩⟩
 case rest =>
  clear HC4
  try clear c1
  try clear p2
  try clear c8
  try clear c9
  try clear c10
  try clear c13
  try clear c16
  try clear hcz14_0
  try clear hfz14_0
  obtain ⟨kq, x25_3, rfl, HA, HJ3, BK232, BK233, HB⟩ := hcut
  cases kq with
  | zero => exact absurd HA.out (by simp [impl_MakePuzzle.j0])
  | succ kj3 =>
   have H := HA.out
   clear HA
   simp only [impl_MakePuzzle.j0] at H
   by_cases c17 : x25_3 = true
   ·
    subst c17
    have H1 : (some (0, ([] : List (S26)), false)) = some (r1, r2, r3) := by rw [if_pos rfl] at H; exact H
    clear H
    have H := H1
    clear H1
    simp only [Option.some.injEq, Prod.mk.injEq] at H
    obtain ⟨rfl, rfl, rfl⟩ := H
    have hnb18 := NB233_232.out
    have hnc18 := NB232_233.out
    have hcz19_0 : wc.cell? ⟨gb233, 0, none⟩ = some (.int .i64 0) := bc BK233 0
    have hcz19_1 : wc.cell? ⟨gb233, 1, none⟩ = some (.slice none 0 0) := bc BK233 1
    have hfz19_0 := blk_frozen BK233.out 0
    have hfz19_1 := blk_frozen BK233.out 1
    go_wp2
    refine bodyPost_ret (results_ct rfl _ _ gb233 31 #[.int .i64 0, .slice none 0 0] (0, 0) _ rfl (by (with_reducible repeat (first | refine blk_drewN ?_ _ | refine blk_drew ?_ | refine blk_alloc ?_ _)); refine blk_put (cs := #[.int .i64 0, .slice none 0 0]) ?_ 1 _ rfl; (with_reducible repeat (first | refine blk_drewN ?_ _ | refine blk_drew ?_ | refine blk_alloc ?_ _)); refine blk_put (cs := #[.int .i64 0, .slice none 0 0]) ?_ 0 _ rfl; (with_reducible repeat (first | refine blk_drewN ?_ _ | refine blk_drew ?_ | refine blk_alloc ?_ _)); exact BK233.out) Tryz.underlying31 rfl (by kernel_rfl)) rfl ?_
    exact ⟨_, by first | rfl | (simp [errW_none, errW_some] <;> rfl) | (simp [*, errW_none, errW_some] <;> rfl), by first | exact Kd.R_nil _ _ _ _ _ | exact Kd.N_nil _ _ _ _ _ | exact Kd.V_nil _ _ _ _ _ | exact Kd.Q_nil _ _ _ _ _ | exact Kd.S_nil _ _ _ _ _, qw HB⟩
   ·
    replace c17 := Bool.eq_false_iff.mpr c17
    subst c17
    have H1 : (impl_MakePuzzle.l0 kj3 a0 a1 0 a2 (a0.size : Int) ([] : List (S26))) = some (r1, r2, r3) := by rw [if_neg (show ¬ (false = true) by decide)] at H; exact H
    clear H
    have H := H1
    clear H1
    have H' := Aside0.mk H
    clear H
    go_wp2_with (first | ((with_reducible refine gate_dst (N := 9) rfl ?_); refine box_event ?hg (N := 9) ?hd (cs := #[.int .i64 0, .slice none 0 0]) (t := 31) ?hr ?_; (case hd => rfl); (case hg => rfl); (case hr => first | (go_simp; done) | (go_simp; rfl)); intro gb237 hg w20 hbox hb; have n0_ := qbb BK232 hb; have n1_ := qbb BK233 hb; have n2_ := Aside0.mk (below_step (qw HB) hb); have n3_ := Aside0.mk (hbox); have n4_ := Aside0.mk ((by rw [hg]; exact (below_size (qw HB)) : w.heap.size ≤ gb237)); have n5_ := Aside0.mk ((by rw [hg]; exact (below_size (qw HB)) : w.heap.size ≤ gb237)); have n6_ := Aside0.mk ((by rw [hg]; exact Nat.ne_of_lt (blk_lt (qb BK232)) : gb232 ≠ gb237)); have n7_ := Aside0.mk ((by rw [hg]; exact Nat.ne_of_gt (blk_lt (qb BK232)) : gb237 ≠ gb232)); have n8_ := Aside0.mk ((by rw [hg]; exact Nat.ne_of_lt (blk_lt (qb BK233)) : gb233 ≠ gb237)); have n9_ := Aside0.mk ((by rw [hg]; exact Nat.ne_of_gt (blk_lt (qb BK233)) : gb237 ≠ gb233)); clear BK232; clear BK233; clear HB; have BK232 := n0_; have BK233 := n1_; have HB := n2_; have BK237 := n3_; have GW237 := n4_; have GE237 := n5_; have NB232_237 := n6_; have NB237_232 := n7_; have NB233_237 := n8_; have NB237_233 := n9_; clear n0_ n1_ n2_ n3_ n4_ n5_ n6_ n7_ n8_ n9_; clear hb hbox hg; have hnb21 := NB237_232.out; have hnc21 := NB232_237.out; have hnb22 := NB237_233.out; have hnc22 := NB233_237.out; have hcz23_0 : w20.cell? ⟨gb237, 0, none⟩ = some (.int .i64 0) := bc BK237 0; have hcz23_1 : w20.cell? ⟨gb237, 1, none⟩ = some (.slice none 0 0) := bc BK237 1; have hfz23_0 := blk_frozen BK237.out 0; have hfz23_1 := blk_frozen BK237.out 1))
    go_loopg [32] kj3 (fun kq v32 w' => ∃ (x32_2 : Int) (x233000_2 : Int) (x238001_2 : List (S26)) (u238001 : Value), v32 = .int .i64 x32_2 ∧ Aside0 (impl_MakePuzzle.l0 kq a0 a1 x32_2 x233000_2 (a0.size : Int) x238001_2 = some (r1, r2, r3)) ∧ Aside0 (kq ≤ kj3) ∧ Aside0 (Kd.R k26 26 w' w.heap.size (fun _ => True) u238001 x238001_2) ∧ Aside0 (w'.heap[gb232]? = some (.cells #[.int .i64 x233000_2] 3 (0, 0))) ∧ Aside0 (w'.heap[gb233]? = some (.cells #[.int .i64 0, (.slice none 0 0)] 31 (0, 0))) ∧ Aside0 (w'.heap[gb237]? = some (.cells #[.int .i64 (a0.size : Int), u238001] 31 (0, 0))) ∧ Aside0 (Below w.heap.size w w'))
    case atStart => exact ⟨(0), (a2), (([] : List (S26))), (.slice none 0 0), (by first | rfl | (simp; done) | (simp [*]; done) | (simp [isEmpty_bne]; done) | (simp [i64_w]; done) | (simp only [i64_w]; done)), H', ⟨Nat.le_refl _⟩, ⟨by first | exact Kd.R_nil _ _ _ _ _ | exact Kd.N_nil _ _ _ _ _ | exact Kd.V_nil _ _ _ _ _ | exact Kd.Q_nil _ _ _ _ _ | exact Kd.S_nil _ _ _ _ _⟩, ⟨by (with_reducible repeat (first | refine blk_drewN ?_ _ | refine blk_drew ?_ | refine blk_alloc ?_ _)); refine blk_far ?_ NB232_237.out _; (with_reducible repeat (first | refine blk_drewN ?_ _ | refine blk_drew ?_ | refine blk_alloc ?_ _)); refine blk_far ?_ NB232_237.out _; (with_reducible repeat (first | refine blk_drewN ?_ _ | refine blk_drew ?_ | refine blk_alloc ?_ _)); exact BK232.out⟩, ⟨by (with_reducible repeat (first | refine blk_drewN ?_ _ | refine blk_drew ?_ | refine blk_alloc ?_ _)); refine blk_far ?_ NB233_237.out _; (with_reducible repeat (first | refine blk_drewN ?_ _ | refine blk_drew ?_ | refine blk_alloc ?_ _)); refine blk_far ?_ NB233_237.out _; (with_reducible repeat (first | refine blk_drewN ?_ _ | refine blk_drew ?_ | refine blk_alloc ?_ _)); exact BK233.out⟩, ⟨by (with_reducible repeat (first | refine blk_drewN ?_ _ | refine blk_drew ?_ | refine blk_alloc ?_ _)); refine blk_put (cs := #[.int .i64 (a0.size : Int), .slice none 0 0]) ?_ 1 _ rfl; (with_reducible repeat (first | refine blk_drewN ?_ _ | refine blk_drew ?_ | refine blk_alloc ?_ _)); refine blk_put (cs := #[.int .i64 0, .slice none 0 0]) ?_ 0 _ rfl; (with_reducible repeat (first | refine blk_drewN ?_ _ | refine blk_drew ?_ | refine blk_alloc ?_ _)); exact BK237.out⟩, ⟨by repeat (first | (with_reducible first | exact HB.out | apply below_alloc | apply pw_below_drewN | apply below_drew1 | refine below_set ?_ GE232.out | refine below_set ?_ GE233.out | refine below_set ?_ GE237.out) | exact HB.out)⟩⟩
    case round =>
     clear H'
     try clear c1
     try clear c2
     try clear p2
     try clear c8
     try clear c9
     try clear c10
     try clear c13
     try clear c16
     try clear c17
     try clear c18
     try clear c21
     try clear c22
     try clear hcz14_0
     try clear hcz19_0
     try clear hcz19_1
     try clear hcz23_0
     try clear hcz23_1
     try clear hfz14_0
     try clear hfz19_0
     try clear hfz19_1
     try clear hfz23_0
     try clear hfz23_1
     try clear p2
     obtain ⟨x32_2, x233000_2, x238001_2, u238001, rfl, HA, HK2, HO_238001, BK232, BK233, BK237, HB⟩ := hrel
     cases gk with
     | zero => exact absurd HA.out (by simp [impl_MakePuzzle.l0])
     | succ k2 =>
      have H := HA.out
      clear HA
      simp only [impl_MakePuzzle.l0] at H
      by_cases c24 : x32_2 < a1
      ·
       rw [if_pos c24] at H
       have c24b0 : decide (x32_2 < a1) = true := decide_eq_true c24
       clear c24
       by_cases c25 : (Int.tmod (Int.tmod (wrap64 ((wrap64 (x233000_2 * 257)) + 1531)) 10007) 6) = 1
       ·
        rw [if_pos c25] at H
        have c25b0 : ((Int.tmod (Int.tmod (wrap64 ((wrap64 (x233000_2 * 257)) + 1531)) 10007) 6) == 1) = true := beq_iff_eq.mpr c25
        have c25b1 : ((Int.tmod (Int.tmod (wrap64 ((wrap64 (x233000_2 * 257)) + 1531)) 10007) 6) != 1) = false := bne_eq_false_iff_eq.mpr c25
        clear c25
        by_cases c26 : (a0.size : Int) = 0
        ·
         rw [if_pos c26] at H
         exact absurd H (by simp)
        ·
         rw [if_neg c26] at H
         have c26b0 : ((a0.size : Int) == 0) = false := beq_eq_false_iff_ne.mpr c26
         have c26b1 : ((a0.size : Int) != 0) = true := bne_iff_ne.mpr c26
         replace H := Option.bind_eq_some_iff.mp H
         obtain ⟨t238, A270, H⟩ := H
         replace H : (if x238001_2.length < 5864062014805 then (impl_MakePuzzle.l0 k2 a0 a1 (wrap64 (x32_2 + 1)) (Int.tmod (wrap64 ((wrap64 ((Int.tmod (wrap64 ((wrap64 (x233000_2 * 257)) + 1531)) 10007) * 257)) + 1531)) 10007) (a0.size : Int) (x238001_2 ++ [(⟨Int.tmod (Int.tmod (wrap64 ((wrap64 (x233000_2 * 257)) + 1531)) 10007) 6, Int.tmod (Int.tmod (wrap64 ((wrap64 ((Int.tmod (wrap64 ((wrap64 (x233000_2 * 257)) + 1531)) 10007) * 257)) + 1531)) 10007) (a0.size : Int), t238⟩ : S26)])) else (none)) = some (r1, r2, r3) := H
         have A27 := Aside0.mk A270
         clear A270
         by_cases c28 : x238001_2.length < 5864062014805
         ·
          rw [if_pos c28] at H
          have LMc28 := Aside0.mk c28
          clear c28
          obtain ⟨y239, hy239⟩ : ∃ y_ : List (S26), y_ = (x238001_2 ++ [(⟨Int.tmod (Int.tmod (wrap64 ((wrap64 (x233000_2 * 257)) + 1531)) 10007) 6, Int.tmod (Int.tmod (wrap64 ((wrap64 ((Int.tmod (wrap64 ((wrap64 (x233000_2 * 257)) + 1531)) 10007) * 257)) + 1531)) 10007) (a0.size : Int), t238⟩ : S26)]) := ⟨_, rfl⟩
          replace H : (impl_MakePuzzle.l0 k2 a0 a1 (wrap64 (x32_2 + 1)) (Int.tmod (wrap64 ((wrap64 ((Int.tmod (wrap64 ((wrap64 (x233000_2 * 257)) + 1531)) 10007) * 257)) + 1531)) 10007) (a0.size : Int) y239) = some (r1, r2, r3) := by first | (rw [hy239]; with_reducible exact H) | (have H2_ := (Option.bind_some _ _).symm.trans H; rw [hy239]; with_reducible exact H2_) | (have H2_ := (Option.bind_some _ _).symm.trans H; with_reducible exact H2_) | with_reducible exact H | (rw [hy239]; exact H) | exact H
          have Ny239 := Aside0.mk hy239
          clear hy239
          have H' := Aside0.mk H
          clear H
          have hnb29 := NB232_233.out
          have hnc29 := NB233_232.out
          have hnb30 := NB232_237.out
          have hnc30 := NB237_232.out
          have hcz31_0 : wr.cell? ⟨gb232, 0, none⟩ = some (.int .i64 x233000_2) := bc BK232 0
          have hfz31_0 := blk_frozen BK232.out 0
          go_wp2_with fail
          refine (impl_MakePuzzle.next gb232 _ _ BK232.out).mono ?_
          rintro e w' ⟨rfl, rfl, hbx⟩
          go_wp2_with fail
          refine (impl_MakePuzzle.next gb232 _ _ hbx).mono ?_
          rintro e w' ⟨rfl, rfl, hbx2⟩
          clear hbx hbx2
          try go_wp2
          have n0_ : Aside0 (Kd.R k26 26 ((wr.setCell ⟨gb232, 0, none⟩ (.int .i64 (Int.tmod (wrap64 ((wrap64 (x233000_2 * 257)) + 1531)) 10007))).setCell ⟨gb232, 0, none⟩ (.int .i64 (Int.tmod (wrap64 ((wrap64 ((Int.tmod (wrap64 ((wrap64 (x233000_2 * 257)) + 1531)) 10007) * 257)) + 1531)) 10007))) w.heap.size (fun _ => True) u238001 x238001_2) := ⟨by (with_reducible repeat (first | apply Kd.R_alloc | apply Kd.R_drewN | apply Kd.R_drew)); exact Kd.R_mono (Kd.R_far (p := ⟨gb232, 0, none⟩) (Kd.R_far (p := ⟨gb232, 0, none⟩) (Kd.R_types HO_238001.out BK232.out (by decide)) (fun _ hk => hk.2) (.int .i64 (Int.tmod (wrap64 ((wrap64 (x233000_2 * 257)) + 1531)) 10007))) (fun _ hk => hk.2) (.int .i64 (Int.tmod (wrap64 ((wrap64 ((Int.tmod (wrap64 ((wrap64 (x233000_2 * 257)) + 1531)) 10007) * 257)) + 1531)) 10007))) (fun _ hk => trivial)⟩
          have n1_ : Aside0 (((wr.setCell ⟨gb232, 0, none⟩ (.int .i64 (Int.tmod (wrap64 ((wrap64 (x233000_2 * 257)) + 1531)) 10007))).setCell ⟨gb232, 0, none⟩ (.int .i64 (Int.tmod (wrap64 ((wrap64 ((Int.tmod (wrap64 ((wrap64 (x233000_2 * 257)) + 1531)) 10007) * 257)) + 1531)) 10007))).heap[gb232]? = some (.cells #[.int .i64 (Int.tmod (wrap64 ((wrap64 ((Int.tmod (wrap64 ((wrap64 (x233000_2 * 257)) + 1531)) 10007) * 257)) + 1531)) 10007)] 3 (0, 0))) := ⟨by (with_reducible repeat (first | refine blk_drewN ?_ _ | refine blk_drew ?_ | refine blk_alloc ?_ _)); refine blk_put (cs := #[.int .i64 (Int.tmod (wrap64 ((wrap64 (x233000_2 * 257)) + 1531)) 10007)]) ?_ 0 _ rfl; (with_reducible repeat (first | refine blk_drewN ?_ _ | refine blk_drew ?_ | refine blk_alloc ?_ _)); refine blk_put (cs := #[.int .i64 x233000_2]) ?_ 0 _ rfl; (with_reducible repeat (first | refine blk_drewN ?_ _ | refine blk_drew ?_ | refine blk_alloc ?_ _)); exact BK232.out⟩
          have n2_ : Aside0 (((wr.setCell ⟨gb232, 0, none⟩ (.int .i64 (Int.tmod (wrap64 ((wrap64 (x233000_2 * 257)) + 1531)) 10007))).setCell ⟨gb232, 0, none⟩ (.int .i64 (Int.tmod (wrap64 ((wrap64 ((Int.tmod (wrap64 ((wrap64 (x233000_2 * 257)) + 1531)) 10007) * 257)) + 1531)) 10007))).heap[gb233]? = some (.cells #[.int .i64 0, .slice none 0 0] 31 (0, 0))) := ⟨by (with_reducible repeat (first | refine blk_drewN ?_ _ | refine blk_drew ?_ | refine blk_alloc ?_ _)); refine blk_far ?_ NB233_232.out _; (with_reducible repeat (first | refine blk_drewN ?_ _ | refine blk_drew ?_ | refine blk_alloc ?_ _)); refine blk_far ?_ NB233_232.out _; (with_reducible repeat (first | refine blk_drewN ?_ _ | refine blk_drew ?_ | refine blk_alloc ?_ _)); exact BK233.out⟩
          have n3_ : Aside0 (((wr.setCell ⟨gb232, 0, none⟩ (.int .i64 (Int.tmod (wrap64 ((wrap64 (x233000_2 * 257)) + 1531)) 10007))).setCell ⟨gb232, 0, none⟩ (.int .i64 (Int.tmod (wrap64 ((wrap64 ((Int.tmod (wrap64 ((wrap64 (x233000_2 * 257)) + 1531)) 10007) * 257)) + 1531)) 10007))).heap[gb237]? = some (.cells #[.int .i64 (a0.size : Int), u238001] 31 (0, 0))) := ⟨by (with_reducible repeat (first | refine blk_drewN ?_ _ | refine blk_drew ?_ | refine blk_alloc ?_ _)); refine blk_far ?_ NB237_232.out _; (with_reducible repeat (first | refine blk_drewN ?_ _ | refine blk_drew ?_ | refine blk_alloc ?_ _)); refine blk_far ?_ NB237_232.out _; (with_reducible repeat (first | refine blk_drewN ?_ _ | refine blk_drew ?_ | refine blk_alloc ?_ _)); exact BK237.out⟩
          have n4_ : Aside0 (Below w.heap.size w ((wr.setCell ⟨gb232, 0, none⟩ (.int .i64 (Int.tmod (wrap64 ((wrap64 (x233000_2 * 257)) + 1531)) 10007))).setCell ⟨gb232, 0, none⟩ (.int .i64 (Int.tmod (wrap64 ((wrap64 ((Int.tmod (wrap64 ((wrap64 (x233000_2 * 257)) + 1531)) 10007) * 257)) + 1531)) 10007)))) := ⟨by repeat (first | (with_reducible first | exact HB.out | apply below_alloc | apply pw_below_drewN | apply below_drew1 | refine below_set ?_ GE232.out | refine below_set ?_ GE233.out | refine below_set ?_ GE237.out) | exact HB.out)⟩
          (try clear HO_238001)
          (try clear BK232)
          (try clear BK233)
          (try clear BK237)
          (try clear HB)
          generalize ((wr.setCell ⟨gb232, 0, none⟩ (.int .i64 (Int.tmod (wrap64 ((wrap64 (x233000_2 * 257)) + 1531)) 10007))).setCell ⟨gb232, 0, none⟩ (.int .i64 (Int.tmod (wrap64 ((wrap64 ((Int.tmod (wrap64 ((wrap64 (x233000_2 * 257)) + 1531)) 10007) * 257)) + 1531)) 10007))) = w32 at n0_ n1_ n2_ n3_ n4_ ⊢
          have HO_238001 := n0_
          have BK232 := n1_
          have BK233 := n2_
          have BK237 := n3_
          have HB := n4_
          clear n0_ n1_ n2_ n3_ n4_
          have n0_ := Aside0.mk (Kd.R_drew HO_238001.out)
          have n1_ := Aside0.mk (blk_drew BK232.out)
          have n2_ := Aside0.mk (blk_drew BK233.out)
          have n3_ := Aside0.mk (blk_drew BK237.out)
          have n4_ := Aside0.mk (below_drew1 HB.out)
          clear HO_238001
          clear BK232
          clear BK233
          clear BK237
          clear HB
          have HO_238001 := n0_
          have BK232 := n1_
          have BK233 := n2_
          have BK237 := n3_
          have HB := n4_
          clear n0_ n1_ n2_ n3_ n4_
          refine start_ (n := 13) (S := fun w' => w'.cell? ⟨gb237, 0, none⟩ = some (.int .i64 (a0.size : Int)) ∧ w'.cell? ⟨gb237, 1, none⟩ = some (u238001)) (ds := [12]) #[false, false, false, false, false, false, false, false, false, false, false, false, false] (by kernel_rfl) rfl rfl ⟨bc BK237 0, bc BK237 1⟩ (fun hHeld => ?_); refine with_tabW impl_MakePuzzle.tab14 impl_MakePuzzle.bits14 (fun HT_ HW_ => ?_)
          generalize w32.drew = w33 at HO_238001 BK232 BK233 BK237 HB hHeld ⊢
          refine pure_ (i := 0) (N := some 51) (v := ?_) (a' := ?_) #[true, false, false, false, false, false, false, false, false, false, false, false, false] rfl rfl (any_of HT_.out (by kernel_rfl)) (fun _ _ _ h => h) (Or.inl ⟨by rfl, ?_⟩) ?_ ?_
          rotate_left
          ·
           intro w'
           go_simp
           with_reducible rfl
          rotate_left
          ·
           simp only [Act.put, List.setIfInBounds_toArray, List.set_cons_zero, List.set_cons_succ, i64_w, i32_w]
           rfl
          refine pure_ (i := 2) (N := some 53) (v := ?_) (a' := ?_) #[true, false, true, false, false, false, false, false, false, false, false, false, false] rfl rfl (any_of HT_.out (by kernel_rfl)) (fun _ _ _ h => h) (Or.inl ⟨by rfl, ?_⟩) ?_ ?_
          rotate_left
          ·
           intro w'
           go_simp
           with_reducible rfl
          rotate_left
          ·
           simp only [Act.put, List.setIfInBounds_toArray, List.set_cons_zero, List.set_cons_succ, i64_w, i32_w]
           rfl
          refine pure_ (i := 3) (N := some 54) (v := ?_) (a' := ?_) #[true, false, true, true, false, false, false, false, false, false, false, false, false] rfl rfl (any_of HT_.out (by kernel_rfl)) (fun _ _ _ h => h) (Or.inl ⟨by rfl, ?_⟩) ?_ ?_
          rotate_left
          ·
           intro w'
           go_simp
           with_reducible rfl
          rotate_left
          ·
           simp only [Act.put, List.setIfInBounds_toArray, List.set_cons_zero, List.set_cons_succ, i64_w, i32_w]
           rfl
          refine pure_ (i := 4) (N := some 55) (v := ?_) (a' := ?_) #[true, false, true, true, true, false, false, false, false, false, false, false, false] rfl rfl (any_of HT_.out (by kernel_rfl)) (fun _ _ _ h => h) (Or.inl ⟨by rfl, ?_⟩) ?_ ?_
          rotate_left
          ·
           intro w'
           go_simp
           with_reducible rfl
          rotate_left
          ·
           simp only [Act.put, List.setIfInBounds_toArray, List.set_cons_zero, List.set_cons_succ, i64_w, i32_w]
           rfl
          refine pure_ (i := 5) (N := some 56) (v := ?_) (a' := ?_) #[true, false, true, true, true, true, false, false, false, false, false, false, false] rfl rfl (any_of HT_.out (by kernel_rfl)) (fun _ _ _ h => h) (Or.inl ⟨by rfl, ?_⟩) ?_ ?_
          rotate_left
          ·
           intro w'
           go_simp
           with_reducible rfl
          rotate_left
          ·
           simp only [Act.put, List.setIfInBounds_toArray, List.set_cons_zero, List.set_cons_succ, i64_w, i32_w]
           rfl
          refine pure_ (i := 6) (N := some 57) (v := ?_) (a' := ?_) #[true, false, true, true, true, true, true, false, false, false, false, false, false] rfl rfl (any_of HT_.out (by kernel_rfl)) (fun _ _ _ h => h) (Or.inl ⟨by rfl, ?_⟩) ?_ ?_
          rotate_left
          ·
           intro w'
           go_simp
           with_reducible rfl
          rotate_left
          ·
           simp only [Act.put, List.setIfInBounds_toArray, List.set_cons_zero, List.set_cons_succ, i64_w, i32_w]
           rfl
          refine take_ (i := 1) (N := some 52) (v := ?_) (a' := ?_) #[true, true, true, true, true, true, true, false, false, false, false, false, false] rfl rfl (take_ofW HT_.out HW_.out (by kernel_rfl)) (fun _ _ _ h => h) (Or.inl ⟨by rfl, ?_⟩) hHeld ?_ ?_
          rotate_left
          ·
           rintro w' ⟨s0, s1⟩
           go_simp
           with_reducible rfl
          rotate_left
          ·
           simp only [Act.put, List.setIfInBounds_toArray, List.set_cons_zero, List.set_cons_succ, i64_w, i32_w]
           rfl
          refine one_ (i := 7) (N := some 58) #[true, true, true, true, true, true, true, true, false, false, false, false, false] rfl rfl (one_of HT_.out (by kernel_rfl)) (by decide) (fun K hK => ?_)
          refine goes_ Tryz.func24 (by kernel_rfl) rfl #[.int .i64 (Int.tmod (Int.tmod (wrap64 ((wrap64 (x233000_2 * 257)) + 1531)) 10007) 6), .int .i64 (Int.tmod (Int.tmod (wrap64 ((wrap64 ((Int.tmod (wrap64 ((wrap64 (x233000_2 * 257)) + 1531)) 10007) * 257)) + 1531)) 10007) (a0.size : Int)), .string a0] (by rfl) rfl rfl (by (try simp only [List.map_toArray, List.map_cons, List.map_nil]); first | done | rfl | (simp only [List.length_drop, List.length_take]; rfl)) ?_
          with_reducible refine (impl_truth.calls k2 (Int.tmod (Int.tmod (wrap64 ((wrap64 (x233000_2 * 257)) + 1531)) 10007) 6) (Int.tmod (Int.tmod (wrap64 ((wrap64 ((Int.tmod (wrap64 ((wrap64 (x233000_2 * 257)) + 1531)) 10007) * 257)) + 1531)) 10007) (a0.size : Int)) a0 t238 _ A27.out).mono ?_
          rintro e w34 ⟨rfl, hb⟩
          refine ⟨_, rfl, ?_⟩
          have n0_ := Aside0.mk (Kd.R_below (qr HO_238001.out) hb)
          have n1_ := Aside0.mk (blk_below (g := gb232) (o := .cells #[.int .i64 (Int.tmod (wrap64 ((wrap64 ((Int.tmod (wrap64 ((wrap64 (x233000_2 * 257)) + 1531)) 10007) * 257)) + 1531)) 10007)] 3 (0, 0)) (qb BK232) hb)
          have n2_ := qbb BK233 hb
          have n3_ := qbb BK237 hb
          have n4_ := Aside0.mk (below_step (qw HB) hb)
          clear HO_238001
          clear BK232
          clear BK233
          clear BK237
          clear HB
          have HO_238001 := n0_
          have BK232 := n1_
          have BK233 := n2_
          have BK237 := n3_
          have HB := n4_
          clear n0_ n1_ n2_ n3_ n4_
          (try clear hb)
          (try clear hb2)
          (try clear hk)
          (try clear hi)
          refine hK.out _ _ ⟨bc BK237 0, bc BK237 1⟩ (fun hHeld => ?_)
          clear hK K
          refine norm_ (a' := ?_) ?_ ?_
          rotate_left
          ·
           show Act.put _ (some 58) _ = _
           simp only [Act.put, List.setIfInBounds_toArray, List.set_cons_zero, List.set_cons_succ, i64_w, i32_w]
           rfl
          refine pure_ (i := 8) (N := some 59) (v := ?_) (a' := ?_) #[true, true, true, true, true, true, true, true, true, false, false, false, false] rfl rfl (any_of HT_.out (by kernel_rfl)) (fun _ _ _ h => h) (Or.inl ⟨by rfl, ?_⟩) ?_ ?_
          rotate_left
          ·
           intro w'
           go_simp
           with_reducible rfl
          rotate_left
          ·
           simp only [Act.put, List.setIfInBounds_toArray, List.set_cons_zero, List.set_cons_succ, i64_w, i32_w]
           rfl
          refine one_ (i := 9) (N := some 60) #[true, true, true, true, true, true, true, true, true, true, false, false, false] rfl rfl (one_of HT_.out (by kernel_rfl)) (by decide) (fun K hK => ?_)
          refine value_ (w1 := ?_) (v := ?_) (by rfl) rfl ?_ ?_
          rotate_left 2
          ·
           go_simp
           constructor
           · rfl
           · rfl
          refine hK.out _ _ ⟨(blk_cell (blk_alloc BK237.out _) 0).trans rfl, (blk_cell (blk_alloc BK237.out _) 1).trans rfl⟩ (fun hHeld => ?_)
          clear hK K
          refine norm_ (a' := ?_) ?_ ?_
          rotate_left
          ·
           show Act.put _ (some 60) _ = _
           simp only [Act.put, List.setIfInBounds_toArray, List.set_cons_zero, List.set_cons_succ, i64_w, i32_w]
           rfl
          refine one_ (i := 10) (N := some 61) #[true, true, true, true, true, true, true, true, true, true, true, false, false] rfl rfl (one_of HT_.out (by kernel_rfl)) (by decide) (fun K hK => ?_)
          refine Kd.R_append_step k26 (w0 := w) w.heap.size (by rfl) (.tmp 52) (.tmp 60) 29 26 (.agg #[(.int .i64 0), (.int .i64 0), (.int .i64 0)]) 24 rfl Tryz.underlying29 info26 rfl (by decide) (by omega) u238001 x238001_2 (⟨Int.tmod (Int.tmod (wrap64 ((wrap64 (x233000_2 * 257)) + 1531)) 10007) 6, Int.tmod (Int.tmod (wrap64 ((wrap64 ((Int.tmod (wrap64 ((wrap64 (x233000_2 * 257)) + 1531)) 10007) * 257)) + 1531)) 10007) (a0.size : Int), t238⟩ : S26) [.int .i64 (Int.tmod (Int.tmod (wrap64 ((wrap64 (x233000_2 * 257)) + 1531)) 10007) 6), .int .i64 (Int.tmod (Int.tmod (wrap64 ((wrap64 ((Int.tmod (wrap64 ((wrap64 (x233000_2 * 257)) + 1531)) 10007) * 257)) + 1531)) 10007) (a0.size : Int)), .int .i64 t238] (fun _ => True) (fun _ => False) rfl rfl ?aP (fun _ hk => hk.elim) ?aF ?aO ?aB ?aS ?aL ?_
          (case aP => exact k26_mkM _ _ _ (⟨Int.tmod (Int.tmod (wrap64 ((wrap64 (x233000_2 * 257)) + 1531)) 10007) 6, Int.tmod (Int.tmod (wrap64 ((wrap64 ((Int.tmod (wrap64 ((wrap64 (x233000_2 * 257)) + 1531)) 10007) * 257)) + 1531)) 10007) (a0.size : Int), t238⟩ : S26))
          (case aB => exact (qw HB))
          (case aF => exact (fun _ _ => trivial))
          (case aO => exact (qr HO_238001.out))
          (case aS => exact (below_size (qw HB)))
          (case aL => have := LMc28.out; omega)
          intro v240 w35 ho hb hg hat
          rw [← Ny239.out] at ho
          have n0_ := Aside0.mk (blk_grown (g := gb232) (o := .cells #[.int .i64 (Int.tmod (wrap64 ((wrap64 ((Int.tmod (wrap64 ((wrap64 (x233000_2 * 257)) + 1531)) 10007) * 257)) + 1531)) 10007)] 3 (0, 0)) (qb BK232) hg (Kd.R_ne HO_238001.out BK232.out (by decide)))
          have n1_ := Aside0.mk (blk_grown (g := gb233) (o := .cells #[.int .i64 0, .slice none 0 0] 31 (0, 0)) (qb BK233) hg (Kd.R_ne HO_238001.out BK233.out (by decide)))
          have n2_ := Aside0.mk (blk_grown (g := gb237) (o := .cells #[.int .i64 (a0.size : Int), u238001] 31 (0, 0)) (qb BK237) hg (Kd.R_ne HO_238001.out BK237.out (by decide)))
          have n3_ := Aside0.mk (hb)
          have n4_ := Aside0.mk (ho)
          clear BK232
          clear BK233
          clear BK237
          clear HB
          clear HO_238001
          have BK232 := n0_
          have BK233 := n1_
          have BK237 := n2_
          have HB := n3_
          have HO241 := n4_
          clear n0_ n1_ n2_ n3_ n4_
          clear ho hb hg hat
          obtain ⟨Ao36, co36, eo36⟩ := Kd.R_slice HO241.out
          (first | subst eo36 | (injection eo36 with f1_ f2_ f3_; have f4_ := f1_.symm; have f5_ := f3_.symm; clear f1_ f2_ f3_; subst f4_; subst f5_))
          refine hK.out _ _ ⟨bc BK237 0, bc BK237 1⟩ (fun hHeld => ?_)
          clear hK K
          refine norm_ (a' := ?_) ?_ ?_
          rotate_left
          ·
           show Act.put _ (some 61) _ = _
           simp only [Act.put, List.setIfInBounds_toArray, List.set_cons_zero, List.set_cons_succ, i64_w, i32_w]
           rfl
          refine pure_ (i := 11) (N := some 62) (v := ?_) (a' := ?_) #[true, true, true, true, true, true, true, true, true, true, true, true, false] rfl rfl (any_of HT_.out (by kernel_rfl)) (fun _ _ _ h => h) (Or.inl ⟨by rfl, ?_⟩) ?_ ?_
          rotate_left
          ·
           intro w'
           go_simp
           with_reducible rfl
          rotate_left
          ·
           simp only [Act.put, List.setIfInBounds_toArray, List.set_cons_zero, List.set_cons_succ, i64_w, i32_w]
           rfl
          refine last_ (i := 12) (N := none) #[true, true, true, true, true, true, true, true, true, true, true, true, true] rfl rfl (one_of HT_.out (by kernel_rfl)) (by decide) (fun K hK => ?_)
          have hs37 : w35.cell? ⟨gb237, 1, none⟩ = some (u238001) := bc BK237 1
          have hfs37 := blk_frozen BK237.out 1
          have hns37_0 := NB232_237.out
          have hns37_1 := NB233_237.out
          have hms37_0 := NB237_232.out
          have hms37_1 := NB237_233.out
          refine skip_ (w1 := ?_) (by rfl) rfl ?_ ?_
          rotate_left
          ·
           go_simp
           rfl
          refine hK.out _ _ ?_
          clear hK K
          refine done_ (done_of HT_.out (by kernel_rfl)) ?_
          try go_wp2
          go_roundg k2
          case measure => have := HJ3.out; have := HK2.out; omega
          case rel => exact ⟨(wrap64 (x32_2 + 1)), (Int.tmod (wrap64 ((wrap64 ((Int.tmod (wrap64 ((wrap64 (x233000_2 * 257)) + 1531)) 10007) * 257)) + 1531)) 10007), (y239), (.slice Ao36 y239.length co36), (by first | rfl | (simp; done) | (simp [*]; done) | (simp [isEmpty_bne]; done) | (simp [i64_w]; done) | (simp only [i64_w]; done)), H', ⟨by have := HJ3.out; have := HK2.out; omega⟩, ⟨by (with_reducible repeat (first | apply Kd.R_alloc | apply Kd.R_drewN | apply Kd.R_drew)); exact Kd.R_mono (Kd.R_far (p := ⟨gb237, 1, none⟩) (Kd.R_types HO241.out BK237.out (by decide)) (fun _ hk => hk.2) (.slice Ao36 y239.length co36)) (fun _ hk => trivial)⟩, ⟨by (with_reducible repeat (first | refine blk_drewN ?_ _ | refine blk_drew ?_ | refine blk_alloc ?_ _)); refine blk_far ?_ NB232_237.out _; (with_reducible repeat (first | refine blk_drewN ?_ _ | refine blk_drew ?_ | refine blk_alloc ?_ _)); exact BK232.out⟩, ⟨by (with_reducible repeat (first | refine blk_drewN ?_ _ | refine blk_drew ?_ | refine blk_alloc ?_ _)); refine blk_far ?_ NB233_237.out _; (with_reducible repeat (first | refine blk_drewN ?_ _ | refine blk_drew ?_ | refine blk_alloc ?_ _)); exact BK233.out⟩, ⟨by (with_reducible repeat (first | refine blk_drewN ?_ _ | refine blk_drew ?_ | refine blk_alloc ?_ _)); refine blk_put (cs := #[.int .i64 (a0.size : Int), u238001]) ?_ 1 _ rfl; (with_reducible repeat (first | refine blk_drewN ?_ _ | refine blk_drew ?_ | refine blk_alloc ?_ _)); exact BK237.out⟩, ⟨by repeat (first | (with_reducible first | exact HB.out | apply below_alloc | apply pw_below_drewN | apply below_drew1 | refine below_set ?_ GE232.out | refine below_set ?_ GE233.out | refine below_set ?_ GE237.out) | exact HB.out)⟩⟩
         ·
          rw [if_neg c28] at H
          exact absurd H (by simp)
       ·
        rw [if_neg c25] at H
        have c25b0 : ((Int.tmod (Int.tmod (wrap64 ((wrap64 (x233000_2 * 257)) + 1531)) 10007) 6) == 1) = false := beq_eq_false_iff_ne.mpr c25
        have c25b1 : ((Int.tmod (Int.tmod (wrap64 ((wrap64 (x233000_2 * 257)) + 1531)) 10007) 6) != 1) = true := bne_iff_ne.mpr c25
        by_cases c38 : (Int.tmod (Int.tmod (wrap64 ((wrap64 (x233000_2 * 257)) + 1531)) 10007) 6) = 4
        ·
         rw [if_pos c38] at H
         have c38b0 : ((Int.tmod (Int.tmod (wrap64 ((wrap64 (x233000_2 * 257)) + 1531)) 10007) 6) == 4) = true := beq_iff_eq.mpr c38
         have c38b1 : ((Int.tmod (Int.tmod (wrap64 ((wrap64 (x233000_2 * 257)) + 1531)) 10007) 6) != 4) = false := bne_eq_false_iff_eq.mpr c38
         clear c38
         replace H := Option.bind_eq_some_iff.mp H
         obtain ⟨t242, A390, H⟩ := H
         replace H : (if x238001_2.length < 5864062014805 then (impl_MakePuzzle.l0 k2 a0 a1 (wrap64 (x32_2 + 1)) (Int.tmod (wrap64 ((wrap64 ((Int.tmod (wrap64 ((wrap64 (x233000_2 * 257)) + 1531)) 10007) * 257)) + 1531)) 10007) (a0.size : Int) (x238001_2 ++ [(⟨Int.tmod (Int.tmod (wrap64 ((wrap64 (x233000_2 * 257)) + 1531)) 10007) 6, wrap64 ((Int.tmod (Int.tmod (wrap64 ((wrap64 ((Int.tmod (wrap64 ((wrap64 (x233000_2 * 257)) + 1531)) 10007) * 257)) + 1531)) 10007) 8) + 2), t242⟩ : S26)])) else (none)) = some (r1, r2, r3) := H
         have A39 := Aside0.mk A390
         clear A390
         by_cases c40 : x238001_2.length < 5864062014805
         ·
          rw [if_pos c40] at H
          have LMc40 := Aside0.mk c40
          clear c40
          obtain ⟨y243, hy243⟩ : ∃ y_ : List (S26), y_ = (x238001_2 ++ [(⟨Int.tmod (Int.tmod (wrap64 ((wrap64 (x233000_2 * 257)) + 1531)) 10007) 6, wrap64 ((Int.tmod (Int.tmod (wrap64 ((wrap64 ((Int.tmod (wrap64 ((wrap64 (x233000_2 * 257)) + 1531)) 10007) * 257)) + 1531)) 10007) 8) + 2), t242⟩ : S26)]) := ⟨_, rfl⟩
          replace H : (impl_MakePuzzle.l0 k2 a0 a1 (wrap64 (x32_2 + 1)) (Int.tmod (wrap64 ((wrap64 ((Int.tmod (wrap64 ((wrap64 (x233000_2 * 257)) + 1531)) 10007) * 257)) + 1531)) 10007) (a0.size : Int) y243) = some (r1, r2, r3) := by first | (rw [hy243]; with_reducible exact H) | (have H2_ := (Option.bind_some _ _).symm.trans H; rw [hy243]; with_reducible exact H2_) | (have H2_ := (Option.bind_some _ _).symm.trans H; with_reducible exact H2_) | with_reducible exact H | (rw [hy243]; exact H) | exact H
          have Ny243 := Aside0.mk hy243
          clear hy243
          have H' := Aside0.mk H
          clear H
          have hnb41 := NB232_233.out
          have hnc41 := NB233_232.out
          have hnb42 := NB232_237.out
          have hnc42 := NB237_232.out
          have hcz43_0 : wr.cell? ⟨gb232, 0, none⟩ = some (.int .i64 x233000_2) := bc BK232 0
          have hfz43_0 := blk_frozen BK232.out 0
          go_wp2_with fail
          refine (impl_MakePuzzle.next gb232 _ _ BK232.out).mono ?_
          rintro e w' ⟨rfl, rfl, hbx⟩
          go_wp2_with fail
          refine (impl_MakePuzzle.next gb232 _ _ hbx).mono ?_
          rintro e w' ⟨rfl, rfl, hbx2⟩
          clear hbx hbx2
          try go_wp2
          have n0_ : Aside0 (Kd.R k26 26 ((wr.setCell ⟨gb232, 0, none⟩ (.int .i64 (Int.tmod (wrap64 ((wrap64 (x233000_2 * 257)) + 1531)) 10007))).setCell ⟨gb232, 0, none⟩ (.int .i64 (Int.tmod (wrap64 ((wrap64 ((Int.tmod (wrap64 ((wrap64 (x233000_2 * 257)) + 1531)) 10007) * 257)) + 1531)) 10007))) w.heap.size (fun _ => True) u238001 x238001_2) := ⟨by (with_reducible repeat (first | apply Kd.R_alloc | apply Kd.R_drewN | apply Kd.R_drew)); exact Kd.R_mono (Kd.R_far (p := ⟨gb232, 0, none⟩) (Kd.R_far (p := ⟨gb232, 0, none⟩) (Kd.R_types HO_238001.out BK232.out (by decide)) (fun _ hk => hk.2) (.int .i64 (Int.tmod (wrap64 ((wrap64 (x233000_2 * 257)) + 1531)) 10007))) (fun _ hk => hk.2) (.int .i64 (Int.tmod (wrap64 ((wrap64 ((Int.tmod (wrap64 ((wrap64 (x233000_2 * 257)) + 1531)) 10007) * 257)) + 1531)) 10007))) (fun _ hk => trivial)⟩
          have n1_ : Aside0 (((wr.setCell ⟨gb232, 0, none⟩ (.int .i64 (Int.tmod (wrap64 ((wrap64 (x233000_2 * 257)) + 1531)) 10007))).setCell ⟨gb232, 0, none⟩ (.int .i64 (Int.tmod (wrap64 ((wrap64 ((Int.tmod (wrap64 ((wrap64 (x233000_2 * 257)) + 1531)) 10007) * 257)) + 1531)) 10007))).heap[gb232]? = some (.cells #[.int .i64 (Int.tmod (wrap64 ((wrap64 ((Int.tmod (wrap64 ((wrap64 (x233000_2 * 257)) + 1531)) 10007) * 257)) + 1531)) 10007)] 3 (0, 0))) := ⟨by (with_reducible repeat (first | refine blk_drewN ?_ _ | refine blk_drew ?_ | refine blk_alloc ?_ _)); refine blk_put (cs := #[.int .i64 (Int.tmod (wrap64 ((wrap64 (x233000_2 * 257)) + 1531)) 10007)]) ?_ 0 _ rfl; (with_reducible repeat (first | refine blk_drewN ?_ _ | refine blk_drew ?_ | refine blk_alloc ?_ _)); refine blk_put (cs := #[.int .i64 x233000_2]) ?_ 0 _ rfl; (with_reducible repeat (first | refine blk_drewN ?_ _ | refine blk_drew ?_ | refine blk_alloc ?_ _)); exact BK232.out⟩
          have n2_ : Aside0 (((wr.setCell ⟨gb232, 0, none⟩ (.int .i64 (Int.tmod (wrap64 ((wrap64 (x233000_2 * 257)) + 1531)) 10007))).setCell ⟨gb232, 0, none⟩ (.int .i64 (Int.tmod (wrap64 ((wrap64 ((Int.tmod (wrap64 ((wrap64 (x233000_2 * 257)) + 1531)) 10007) * 257)) + 1531)) 10007))).heap[gb233]? = some (.cells #[.int .i64 0, .slice none 0 0] 31 (0, 0))) := ⟨by (with_reducible repeat (first | refine blk_drewN ?_ _ | refine blk_drew ?_ | refine blk_alloc ?_ _)); refine blk_far ?_ NB233_232.out _; (with_reducible repeat (first | refine blk_drewN ?_ _ | refine blk_drew ?_ | refine blk_alloc ?_ _)); refine blk_far ?_ NB233_232.out _; (with_reducible repeat (first | refine blk_drewN ?_ _ | refine blk_drew ?_ | refine blk_alloc ?_ _)); exact BK233.out⟩
          have n3_ : Aside0 (((wr.setCell ⟨gb232, 0, none⟩ (.int .i64 (Int.tmod (wrap64 ((wrap64 (x233000_2 * 257)) + 1531)) 10007))).setCell ⟨gb232, 0, none⟩ (.int .i64 (Int.tmod (wrap64 ((wrap64 ((Int.tmod (wrap64 ((wrap64 (x233000_2 * 257)) + 1531)) 10007) * 257)) + 1531)) 10007))).heap[gb237]? = some (.cells #[.int .i64 (a0.size : Int), u238001] 31 (0, 0))) := ⟨by (with_reducible repeat (first | refine blk_drewN ?_ _ | refine blk_drew ?_ | refine blk_alloc ?_ _)); refine blk_far ?_ NB237_232.out _; (with_reducible repeat (first | refine blk_drewN ?_ _ | refine blk_drew ?_ | refine blk_alloc ?_ _)); refine blk_far ?_ NB237_232.out _; (with_reducible repeat (first | refine blk_drewN ?_ _ | refine blk_drew ?_ | refine blk_alloc ?_ _)); exact BK237.out⟩
          have n4_ : Aside0 (Below w.heap.size w ((wr.setCell ⟨gb232, 0, none⟩ (.int .i64 (Int.tmod (wrap64 ((wrap64 (x233000_2 * 257)) + 1531)) 10007))).setCell ⟨gb232, 0, none⟩ (.int .i64 (Int.tmod (wrap64 ((wrap64 ((Int.tmod (wrap64 ((wrap64 (x233000_2 * 257)) + 1531)) 10007) * 257)) + 1531)) 10007)))) := ⟨by repeat (first | (with_reducible first | exact HB.out | apply below_alloc | apply pw_below_drewN | apply below_drew1 | refine below_set ?_ GE232.out | refine below_set ?_ GE233.out | refine below_set ?_ GE237.out) | exact HB.out)⟩
          (try clear HO_238001)
          (try clear BK232)
          (try clear BK233)
          (try clear BK237)
          (try clear HB)
          generalize ((wr.setCell ⟨gb232, 0, none⟩ (.int .i64 (Int.tmod (wrap64 ((wrap64 (x233000_2 * 257)) + 1531)) 10007))).setCell ⟨gb232, 0, none⟩ (.int .i64 (Int.tmod (wrap64 ((wrap64 ((Int.tmod (wrap64 ((wrap64 (x233000_2 * 257)) + 1531)) 10007) * 257)) + 1531)) 10007))) = w44 at n0_ n1_ n2_ n3_ n4_ ⊢
          have HO_238001 := n0_
          have BK232 := n1_
          have BK233 := n2_
          have BK237 := n3_
          have HB := n4_
          clear n0_ n1_ n2_ n3_ n4_
          have n0_ := Aside0.mk (Kd.R_drew HO_238001.out)
          have n1_ := Aside0.mk (blk_drew BK232.out)
          have n2_ := Aside0.mk (blk_drew BK233.out)
          have n3_ := Aside0.mk (blk_drew BK237.out)
          have n4_ := Aside0.mk (below_drew1 HB.out)
          clear HO_238001
          clear BK232
          clear BK233
          clear BK237
          clear HB
          have HO_238001 := n0_
          have BK232 := n1_
          have BK233 := n2_
          have BK237 := n3_
          have HB := n4_
          clear n0_ n1_ n2_ n3_ n4_
          refine start_ (n := 13) (S := fun w' => w'.cell? ⟨gb237, 0, none⟩ = some (.int .i64 (a0.size : Int)) ∧ w'.cell? ⟨gb237, 1, none⟩ = some (u238001)) (ds := [12]) #[false, false, false, false, false, false, false, false, false, false, false, false, false] (by kernel_rfl) rfl rfl ⟨bc BK237 0, bc BK237 1⟩ (fun hHeld => ?_); refine with_tabW impl_MakePuzzle.tab14 impl_MakePuzzle.bits14 (fun HT_ HW_ => ?_)
          generalize w44.drew = w45 at HO_238001 BK232 BK233 BK237 HB hHeld ⊢
          refine pure_ (i := 0) (N := some 51) (v := ?_) (a' := ?_) #[true, false, false, false, false, false, false, false, false, false, false, false, false] rfl rfl (any_of HT_.out (by kernel_rfl)) (fun _ _ _ h => h) (Or.inl ⟨by rfl, ?_⟩) ?_ ?_
          rotate_left
          ·
           intro w'
           go_simp
           with_reducible rfl
          rotate_left
          ·
           simp only [Act.put, List.setIfInBounds_toArray, List.set_cons_zero, List.set_cons_succ, i64_w, i32_w]
           rfl
          refine pure_ (i := 2) (N := some 53) (v := ?_) (a' := ?_) #[true, false, true, false, false, false, false, false, false, false, false, false, false] rfl rfl (any_of HT_.out (by kernel_rfl)) (fun _ _ _ h => h) (Or.inl ⟨by rfl, ?_⟩) ?_ ?_
          rotate_left
          ·
           intro w'
           go_simp
           with_reducible rfl
          rotate_left
          ·
           simp only [Act.put, List.setIfInBounds_toArray, List.set_cons_zero, List.set_cons_succ, i64_w, i32_w]
           rfl
          refine pure_ (i := 3) (N := some 54) (v := ?_) (a' := ?_) #[true, false, true, true, false, false, false, false, false, false, false, false, false] rfl rfl (any_of HT_.out (by kernel_rfl)) (fun _ _ _ h => h) (Or.inl ⟨by rfl, ?_⟩) ?_ ?_
          rotate_left
          ·
           intro w'
           go_simp
           with_reducible rfl
          rotate_left
          ·
           simp only [Act.put, List.setIfInBounds_toArray, List.set_cons_zero, List.set_cons_succ, i64_w, i32_w]
           rfl
          refine pure_ (i := 4) (N := some 55) (v := ?_) (a' := ?_) #[true, false, true, true, true, false, false, false, false, false, false, false, false] rfl rfl (any_of HT_.out (by kernel_rfl)) (fun _ _ _ h => h) (Or.inl ⟨by rfl, ?_⟩) ?_ ?_
          rotate_left
          ·
           intro w'
           go_simp
           with_reducible rfl
          rotate_left
          ·
           simp only [Act.put, List.setIfInBounds_toArray, List.set_cons_zero, List.set_cons_succ, i64_w, i32_w]
           rfl
          refine pure_ (i := 5) (N := some 56) (v := ?_) (a' := ?_) #[true, false, true, true, true, true, false, false, false, false, false, false, false] rfl rfl (any_of HT_.out (by kernel_rfl)) (fun _ _ _ h => h) (Or.inl ⟨by rfl, ?_⟩) ?_ ?_
          rotate_left
          ·
           intro w'
           go_simp
           with_reducible rfl
          rotate_left
          ·
           simp only [Act.put, List.setIfInBounds_toArray, List.set_cons_zero, List.set_cons_succ, i64_w, i32_w]
           rfl
          refine pure_ (i := 6) (N := some 57) (v := ?_) (a' := ?_) #[true, false, true, true, true, true, true, false, false, false, false, false, false] rfl rfl (any_of HT_.out (by kernel_rfl)) (fun _ _ _ h => h) (Or.inl ⟨by rfl, ?_⟩) ?_ ?_
          rotate_left
          ·
           intro w'
           go_simp
           with_reducible rfl
          rotate_left
          ·
           simp only [Act.put, List.setIfInBounds_toArray, List.set_cons_zero, List.set_cons_succ, i64_w, i32_w]
           rfl
          refine take_ (i := 1) (N := some 52) (v := ?_) (a' := ?_) #[true, true, true, true, true, true, true, false, false, false, false, false, false] rfl rfl (take_ofW HT_.out HW_.out (by kernel_rfl)) (fun _ _ _ h => h) (Or.inl ⟨by rfl, ?_⟩) hHeld ?_ ?_
          rotate_left
          ·
           rintro w' ⟨s0, s1⟩
           go_simp
           with_reducible rfl
          rotate_left
          ·
           simp only [Act.put, List.setIfInBounds_toArray, List.set_cons_zero, List.set_cons_succ, i64_w, i32_w]
           rfl
          refine one_ (i := 7) (N := some 58) #[true, true, true, true, true, true, true, true, false, false, false, false, false] rfl rfl (one_of HT_.out (by kernel_rfl)) (by decide) (fun K hK => ?_)
          refine goes_ Tryz.func24 (by kernel_rfl) rfl #[.int .i64 (Int.tmod (Int.tmod (wrap64 ((wrap64 (x233000_2 * 257)) + 1531)) 10007) 6), .int .i64 (wrap64 ((Int.tmod (Int.tmod (wrap64 ((wrap64 ((Int.tmod (wrap64 ((wrap64 (x233000_2 * 257)) + 1531)) 10007) * 257)) + 1531)) 10007) 8) + 2)), .string a0] (by rfl) rfl rfl (by (try simp only [List.map_toArray, List.map_cons, List.map_nil]); first | done | rfl | (simp only [List.length_drop, List.length_take]; rfl)) ?_
          with_reducible refine (impl_truth.calls k2 (Int.tmod (Int.tmod (wrap64 ((wrap64 (x233000_2 * 257)) + 1531)) 10007) 6) (wrap64 ((Int.tmod (Int.tmod (wrap64 ((wrap64 ((Int.tmod (wrap64 ((wrap64 (x233000_2 * 257)) + 1531)) 10007) * 257)) + 1531)) 10007) 8) + 2)) a0 t242 _ A39.out).mono ?_
          rintro e w46 ⟨rfl, hb⟩
          refine ⟨_, rfl, ?_⟩
          have n0_ := Aside0.mk (Kd.R_below (qr HO_238001.out) hb)
          have n1_ := Aside0.mk (blk_below (g := gb232) (o := .cells #[.int .i64 (Int.tmod (wrap64 ((wrap64 ((Int.tmod (wrap64 ((wrap64 (x233000_2 * 257)) + 1531)) 10007) * 257)) + 1531)) 10007)] 3 (0, 0)) (qb BK232) hb)
          have n2_ := qbb BK233 hb
          have n3_ := qbb BK237 hb
          have n4_ := Aside0.mk (below_step (qw HB) hb)
          clear HO_238001
          clear BK232
          clear BK233
          clear BK237
          clear HB
          have HO_238001 := n0_
          have BK232 := n1_
          have BK233 := n2_
          have BK237 := n3_
          have HB := n4_
          clear n0_ n1_ n2_ n3_ n4_
          (try clear hb)
          (try clear hb2)
          (try clear hk)
          (try clear hi)
          refine hK.out _ _ ⟨bc BK237 0, bc BK237 1⟩ (fun hHeld => ?_)
          clear hK K
          refine norm_ (a' := ?_) ?_ ?_
          rotate_left
          ·
           show Act.put _ (some 58) _ = _
           simp only [Act.put, List.setIfInBounds_toArray, List.set_cons_zero, List.set_cons_succ, i64_w, i32_w]
           rfl
          refine pure_ (i := 8) (N := some 59) (v := ?_) (a' := ?_) #[true, true, true, true, true, true, true, true, true, false, false, false, false] rfl rfl (any_of HT_.out (by kernel_rfl)) (fun _ _ _ h => h) (Or.inl ⟨by rfl, ?_⟩) ?_ ?_
          rotate_left
          ·
           intro w'
           go_simp
           with_reducible rfl
          rotate_left
          ·
           simp only [Act.put, List.setIfInBounds_toArray, List.set_cons_zero, List.set_cons_succ, i64_w, i32_w]
           rfl
          refine one_ (i := 9) (N := some 60) #[true, true, true, true, true, true, true, true, true, true, false, false, false] rfl rfl (one_of HT_.out (by kernel_rfl)) (by decide) (fun K hK => ?_)
          refine value_ (w1 := ?_) (v := ?_) (by rfl) rfl ?_ ?_
          rotate_left 2
          ·
           go_simp
           constructor
           · rfl
           · rfl
          refine hK.out _ _ ⟨(blk_cell (blk_alloc BK237.out _) 0).trans rfl, (blk_cell (blk_alloc BK237.out _) 1).trans rfl⟩ (fun hHeld => ?_)
          clear hK K
          refine norm_ (a' := ?_) ?_ ?_
          rotate_left
          ·
           show Act.put _ (some 60) _ = _
           simp only [Act.put, List.setIfInBounds_toArray, List.set_cons_zero, List.set_cons_succ, i64_w, i32_w]
           rfl
          refine one_ (i := 10) (N := some 61) #[true, true, true, true, true, true, true, true, true, true, true, false, false] rfl rfl (one_of HT_.out (by kernel_rfl)) (by decide) (fun K hK => ?_)
          refine Kd.R_append_step k26 (w0 := w) w.heap.size (by rfl) (.tmp 52) (.tmp 60) 29 26 (.agg #[(.int .i64 0), (.int .i64 0), (.int .i64 0)]) 24 rfl Tryz.underlying29 info26 rfl (by decide) (by omega) u238001 x238001_2 (⟨Int.tmod (Int.tmod (wrap64 ((wrap64 (x233000_2 * 257)) + 1531)) 10007) 6, wrap64 ((Int.tmod (Int.tmod (wrap64 ((wrap64 ((Int.tmod (wrap64 ((wrap64 (x233000_2 * 257)) + 1531)) 10007) * 257)) + 1531)) 10007) 8) + 2), t242⟩ : S26) [.int .i64 (Int.tmod (Int.tmod (wrap64 ((wrap64 (x233000_2 * 257)) + 1531)) 10007) 6), .int .i64 (wrap64 ((Int.tmod (Int.tmod (wrap64 ((wrap64 ((Int.tmod (wrap64 ((wrap64 (x233000_2 * 257)) + 1531)) 10007) * 257)) + 1531)) 10007) 8) + 2)), .int .i64 t242] (fun _ => True) (fun _ => False) rfl rfl ?aP (fun _ hk => hk.elim) ?aF ?aO ?aB ?aS ?aL ?_
          (case aP => exact k26_mkM _ _ _ (⟨Int.tmod (Int.tmod (wrap64 ((wrap64 (x233000_2 * 257)) + 1531)) 10007) 6, wrap64 ((Int.tmod (Int.tmod (wrap64 ((wrap64 ((Int.tmod (wrap64 ((wrap64 (x233000_2 * 257)) + 1531)) 10007) * 257)) + 1531)) 10007) 8) + 2), t242⟩ : S26))
          (case aB => exact (qw HB))
          (case aF => exact (fun _ _ => trivial))
          (case aO => exact (qr HO_238001.out))
          (case aS => exact (below_size (qw HB)))
          (case aL => have := LMc40.out; omega)
          intro v244 w47 ho hb hg hat
          rw [← Ny243.out] at ho
          have n0_ := Aside0.mk (blk_grown (g := gb232) (o := .cells #[.int .i64 (Int.tmod (wrap64 ((wrap64 ((Int.tmod (wrap64 ((wrap64 (x233000_2 * 257)) + 1531)) 10007) * 257)) + 1531)) 10007)] 3 (0, 0)) (qb BK232) hg (Kd.R_ne HO_238001.out BK232.out (by decide)))
          have n1_ := Aside0.mk (blk_grown (g := gb233) (o := .cells #[.int .i64 0, .slice none 0 0] 31 (0, 0)) (qb BK233) hg (Kd.R_ne HO_238001.out BK233.out (by decide)))
          have n2_ := Aside0.mk (blk_grown (g := gb237) (o := .cells #[.int .i64 (a0.size : Int), u238001] 31 (0, 0)) (qb BK237) hg (Kd.R_ne HO_238001.out BK237.out (by decide)))
          have n3_ := Aside0.mk (hb)
          have n4_ := Aside0.mk (ho)
          clear BK232
          clear BK233
          clear BK237
          clear HB
          clear HO_238001
          have BK232 := n0_
          have BK233 := n1_
          have BK237 := n2_
          have HB := n3_
          have HO245 := n4_
          clear n0_ n1_ n2_ n3_ n4_
          clear ho hb hg hat
          obtain ⟨Ao48, co48, eo48⟩ := Kd.R_slice HO245.out
          (first | subst eo48 | (injection eo48 with f1_ f2_ f3_; have f4_ := f1_.symm; have f5_ := f3_.symm; clear f1_ f2_ f3_; subst f4_; subst f5_))
          refine hK.out _ _ ⟨bc BK237 0, bc BK237 1⟩ (fun hHeld => ?_)
          clear hK K
          refine norm_ (a' := ?_) ?_ ?_
          rotate_left
          ·
           show Act.put _ (some 61) _ = _
           simp only [Act.put, List.setIfInBounds_toArray, List.set_cons_zero, List.set_cons_succ, i64_w, i32_w]
           rfl
          refine pure_ (i := 11) (N := some 62) (v := ?_) (a' := ?_) #[true, true, true, true, true, true, true, true, true, true, true, true, false] rfl rfl (any_of HT_.out (by kernel_rfl)) (fun _ _ _ h => h) (Or.inl ⟨by rfl, ?_⟩) ?_ ?_
          rotate_left
          ·
           intro w'
           go_simp
           with_reducible rfl
          rotate_left
          ·
           simp only [Act.put, List.setIfInBounds_toArray, List.set_cons_zero, List.set_cons_succ, i64_w, i32_w]
           rfl
          refine last_ (i := 12) (N := none) #[true, true, true, true, true, true, true, true, true, true, true, true, true] rfl rfl (one_of HT_.out (by kernel_rfl)) (by decide) (fun K hK => ?_)
          have hs49 : w47.cell? ⟨gb237, 1, none⟩ = some (u238001) := bc BK237 1
          have hfs49 := blk_frozen BK237.out 1
          have hns49_0 := NB232_237.out
          have hns49_1 := NB233_237.out
          have hms49_0 := NB237_232.out
          have hms49_1 := NB237_233.out
          refine skip_ (w1 := ?_) (by rfl) rfl ?_ ?_
          rotate_left
          ·
           go_simp
           rfl
          refine hK.out _ _ ?_
          clear hK K
          refine done_ (done_of HT_.out (by kernel_rfl)) ?_
          try go_wp2
          go_roundg k2
          case measure => have := HJ3.out; have := HK2.out; omega
          case rel => exact ⟨(wrap64 (x32_2 + 1)), (Int.tmod (wrap64 ((wrap64 ((Int.tmod (wrap64 ((wrap64 (x233000_2 * 257)) + 1531)) 10007) * 257)) + 1531)) 10007), (y243), (.slice Ao48 y243.length co48), (by first | rfl | (simp; done) | (simp [*]; done) | (simp [isEmpty_bne]; done) | (simp [i64_w]; done) | (simp only [i64_w]; done)), H', ⟨by have := HJ3.out; have := HK2.out; omega⟩, ⟨by (with_reducible repeat (first | apply Kd.R_alloc | apply Kd.R_drewN | apply Kd.R_drew)); exact Kd.R_mono (Kd.R_far (p := ⟨gb237, 1, none⟩) (Kd.R_types HO245.out BK237.out (by decide)) (fun _ hk => hk.2) (.slice Ao48 y243.length co48)) (fun _ hk => trivial)⟩, ⟨by (with_reducible repeat (first | refine blk_drewN ?_ _ | refine blk_drew ?_ | refine blk_alloc ?_ _)); refine blk_far ?_ NB232_237.out _; (with_reducible repeat (first | refine blk_drewN ?_ _ | refine blk_drew ?_ | refine blk_alloc ?_ _)); exact BK232.out⟩, ⟨by (with_reducible repeat (first | refine blk_drewN ?_ _ | refine blk_drew ?_ | refine blk_alloc ?_ _)); refine blk_far ?_ NB233_237.out _; (with_reducible repeat (first | refine blk_drewN ?_ _ | refine blk_drew ?_ | refine blk_alloc ?_ _)); exact BK233.out⟩, ⟨by (with_reducible repeat (first | refine blk_drewN ?_ _ | refine blk_drew ?_ | refine blk_alloc ?_ _)); refine blk_put (cs := #[.int .i64 (a0.size : Int), u238001]) ?_ 1 _ rfl; (with_reducible repeat (first | refine blk_drewN ?_ _ | refine blk_drew ?_ | refine blk_alloc ?_ _)); exact BK237.out⟩, ⟨by repeat (first | (with_reducible first | exact HB.out | apply below_alloc | apply pw_below_drewN | apply below_drew1 | refine below_set ?_ GE232.out | refine below_set ?_ GE233.out | refine below_set ?_ GE237.out) | exact HB.out)⟩⟩
         ·
          rw [if_neg c40] at H
          exact absurd H (by simp)
        ·
         rw [if_neg c38] at H
         have c38b0 : ((Int.tmod (Int.tmod (wrap64 ((wrap64 (x233000_2 * 257)) + 1531)) 10007) 6) == 4) = false := beq_eq_false_iff_ne.mpr c38
         have c38b1 : ((Int.tmod (Int.tmod (wrap64 ((wrap64 (x233000_2 * 257)) + 1531)) 10007) 6) != 4) = true := bne_iff_ne.mpr c38
         replace H := Option.bind_eq_some_iff.mp H
         obtain ⟨t246, A500, H⟩ := H
         replace H : (if x238001_2.length < 5864062014805 then (impl_MakePuzzle.l0 k2 a0 a1 (wrap64 (x32_2 + 1)) (Int.tmod (wrap64 ((wrap64 ((Int.tmod (wrap64 ((wrap64 (x233000_2 * 257)) + 1531)) 10007) * 257)) + 1531)) 10007) (a0.size : Int) (x238001_2 ++ [(⟨Int.tmod (Int.tmod (wrap64 ((wrap64 (x233000_2 * 257)) + 1531)) 10007) 6, 0, t246⟩ : S26)])) else (none)) = some (r1, r2, r3) := H
         have A50 := Aside0.mk A500
         clear A500
         by_cases c51 : x238001_2.length < 5864062014805
         ·
          rw [if_pos c51] at H
          have LMc51 := Aside0.mk c51
          clear c51
          obtain ⟨y247, hy247⟩ : ∃ y_ : List (S26), y_ = (x238001_2 ++ [(⟨Int.tmod (Int.tmod (wrap64 ((wrap64 (x233000_2 * 257)) + 1531)) 10007) 6, 0, t246⟩ : S26)]) := ⟨_, rfl⟩
          replace H : (impl_MakePuzzle.l0 k2 a0 a1 (wrap64 (x32_2 + 1)) (Int.tmod (wrap64 ((wrap64 ((Int.tmod (wrap64 ((wrap64 (x233000_2 * 257)) + 1531)) 10007) * 257)) + 1531)) 10007) (a0.size : Int) y247) = some (r1, r2, r3) := by first | (rw [hy247]; with_reducible exact H) | (have H2_ := (Option.bind_some _ _).symm.trans H; rw [hy247]; with_reducible exact H2_) | (have H2_ := (Option.bind_some _ _).symm.trans H; with_reducible exact H2_) | with_reducible exact H | (rw [hy247]; exact H) | exact H
          have Ny247 := Aside0.mk hy247
          clear hy247
          have H' := Aside0.mk H
          clear H
          have hnb52 := NB232_233.out
          have hnc52 := NB233_232.out
          have hnb53 := NB232_237.out
          have hnc53 := NB237_232.out
          have hcz54_0 : wr.cell? ⟨gb232, 0, none⟩ = some (.int .i64 x233000_2) := bc BK232 0
          have hfz54_0 := blk_frozen BK232.out 0
          go_wp2_with fail
          refine (impl_MakePuzzle.next gb232 _ _ BK232.out).mono ?_
          rintro e w' ⟨rfl, rfl, hbx⟩
          go_wp2_with fail
          refine (impl_MakePuzzle.next gb232 _ _ hbx).mono ?_
          rintro e w' ⟨rfl, rfl, hbx2⟩
          clear hbx hbx2
          try go_wp2
          have n0_ : Aside0 (Kd.R k26 26 ((wr.setCell ⟨gb232, 0, none⟩ (.int .i64 (Int.tmod (wrap64 ((wrap64 (x233000_2 * 257)) + 1531)) 10007))).setCell ⟨gb232, 0, none⟩ (.int .i64 (Int.tmod (wrap64 ((wrap64 ((Int.tmod (wrap64 ((wrap64 (x233000_2 * 257)) + 1531)) 10007) * 257)) + 1531)) 10007))) w.heap.size (fun _ => True) u238001 x238001_2) := ⟨by (with_reducible repeat (first | apply Kd.R_alloc | apply Kd.R_drewN | apply Kd.R_drew)); exact Kd.R_mono (Kd.R_far (p := ⟨gb232, 0, none⟩) (Kd.R_far (p := ⟨gb232, 0, none⟩) (Kd.R_types HO_238001.out BK232.out (by decide)) (fun _ hk => hk.2) (.int .i64 (Int.tmod (wrap64 ((wrap64 (x233000_2 * 257)) + 1531)) 10007))) (fun _ hk => hk.2) (.int .i64 (Int.tmod (wrap64 ((wrap64 ((Int.tmod (wrap64 ((wrap64 (x233000_2 * 257)) + 1531)) 10007) * 257)) + 1531)) 10007))) (fun _ hk => trivial)⟩
          have n1_ : Aside0 (((wr.setCell ⟨gb232, 0, none⟩ (.int .i64 (Int.tmod (wrap64 ((wrap64 (x233000_2 * 257)) + 1531)) 10007))).setCell ⟨gb232, 0, none⟩ (.int .i64 (Int.tmod (wrap64 ((wrap64 ((Int.tmod (wrap64 ((wrap64 (x233000_2 * 257)) + 1531)) 10007) * 257)) + 1531)) 10007))).heap[gb232]? = some (.cells #[.int .i64 (Int.tmod (wrap64 ((wrap64 ((Int.tmod (wrap64 ((wrap64 (x233000_2 * 257)) + 1531)) 10007) * 257)) + 1531)) 10007)] 3 (0, 0))) := ⟨by (with_reducible repeat (first | refine blk_drewN ?_ _ | refine blk_drew ?_ | refine blk_alloc ?_ _)); refine blk_put (cs := #[.int .i64 (Int.tmod (wrap64 ((wrap64 (x233000_2 * 257)) + 1531)) 10007)]) ?_ 0 _ rfl; (with_reducible repeat (first | refine blk_drewN ?_ _ | refine blk_drew ?_ | refine blk_alloc ?_ _)); refine blk_put (cs := #[.int .i64 x233000_2]) ?_ 0 _ rfl; (with_reducible repeat (first | refine blk_drewN ?_ _ | refine blk_drew ?_ | refine blk_alloc ?_ _)); exact BK232.out⟩
          have n2_ : Aside0 (((wr.setCell ⟨gb232, 0, none⟩ (.int .i64 (Int.tmod (wrap64 ((wrap64 (x233000_2 * 257)) + 1531)) 10007))).setCell ⟨gb232, 0, none⟩ (.int .i64 (Int.tmod (wrap64 ((wrap64 ((Int.tmod (wrap64 ((wrap64 (x233000_2 * 257)) + 1531)) 10007) * 257)) + 1531)) 10007))).heap[gb233]? = some (.cells #[.int .i64 0, .slice none 0 0] 31 (0, 0))) := ⟨by (with_reducible repeat (first | refine blk_drewN ?_ _ | refine blk_drew ?_ | refine blk_alloc ?_ _)); refine blk_far ?_ NB233_232.out _; (with_reducible repeat (first | refine blk_drewN ?_ _ | refine blk_drew ?_ | refine blk_alloc ?_ _)); refine blk_far ?_ NB233_232.out _; (with_reducible repeat (first | refine blk_drewN ?_ _ | refine blk_drew ?_ | refine blk_alloc ?_ _)); exact BK233.out⟩
          have n3_ : Aside0 (((wr.setCell ⟨gb232, 0, none⟩ (.int .i64 (Int.tmod (wrap64 ((wrap64 (x233000_2 * 257)) + 1531)) 10007))).setCell ⟨gb232, 0, none⟩ (.int .i64 (Int.tmod (wrap64 ((wrap64 ((Int.tmod (wrap64 ((wrap64 (x233000_2 * 257)) + 1531)) 10007) * 257)) + 1531)) 10007))).heap[gb237]? = some (.cells #[.int .i64 (a0.size : Int), u238001] 31 (0, 0))) := ⟨by (with_reducible repeat (first | refine blk_drewN ?_ _ | refine blk_drew ?_ | refine blk_alloc ?_ _)); refine blk_far ?_ NB237_232.out _; (with_reducible repeat (first | refine blk_drewN ?_ _ | refine blk_drew ?_ | refine blk_alloc ?_ _)); refine blk_far ?_ NB237_232.out _; (with_reducible repeat (first | refine blk_drewN ?_ _ | refine blk_drew ?_ | refine blk_alloc ?_ _)); exact BK237.out⟩
          have n4_ : Aside0 (Below w.heap.size w ((wr.setCell ⟨gb232, 0, none⟩ (.int .i64 (Int.tmod (wrap64 ((wrap64 (x233000_2 * 257)) + 1531)) 10007))).setCell ⟨gb232, 0, none⟩ (.int .i64 (Int.tmod (wrap64 ((wrap64 ((Int.tmod (wrap64 ((wrap64 (x233000_2 * 257)) + 1531)) 10007) * 257)) + 1531)) 10007)))) := ⟨by repeat (first | (with_reducible first | exact HB.out | apply below_alloc | apply pw_below_drewN | apply below_drew1 | refine below_set ?_ GE232.out | refine below_set ?_ GE233.out | refine below_set ?_ GE237.out) | exact HB.out)⟩
          (try clear HO_238001)
          (try clear BK232)
          (try clear BK233)
          (try clear BK237)
          (try clear HB)
          generalize ((wr.setCell ⟨gb232, 0, none⟩ (.int .i64 (Int.tmod (wrap64 ((wrap64 (x233000_2 * 257)) + 1531)) 10007))).setCell ⟨gb232, 0, none⟩ (.int .i64 (Int.tmod (wrap64 ((wrap64 ((Int.tmod (wrap64 ((wrap64 (x233000_2 * 257)) + 1531)) 10007) * 257)) + 1531)) 10007))) = w55 at n0_ n1_ n2_ n3_ n4_ ⊢
          have HO_238001 := n0_
          have BK232 := n1_
          have BK233 := n2_
          have BK237 := n3_
          have HB := n4_
          clear n0_ n1_ n2_ n3_ n4_
          have n0_ := Aside0.mk (Kd.R_drew HO_238001.out)
          have n1_ := Aside0.mk (blk_drew BK232.out)
          have n2_ := Aside0.mk (blk_drew BK233.out)
          have n3_ := Aside0.mk (blk_drew BK237.out)
          have n4_ := Aside0.mk (below_drew1 HB.out)
          clear HO_238001
          clear BK232
          clear BK233
          clear BK237
          clear HB
          have HO_238001 := n0_
          have BK232 := n1_
          have BK233 := n2_
          have BK237 := n3_
          have HB := n4_
          clear n0_ n1_ n2_ n3_ n4_
          refine start_ (n := 13) (S := fun w' => w'.cell? ⟨gb237, 0, none⟩ = some (.int .i64 (a0.size : Int)) ∧ w'.cell? ⟨gb237, 1, none⟩ = some (u238001)) (ds := [12]) #[false, false, false, false, false, false, false, false, false, false, false, false, false] (by kernel_rfl) rfl rfl ⟨bc BK237 0, bc BK237 1⟩ (fun hHeld => ?_); refine with_tabW impl_MakePuzzle.tab14 impl_MakePuzzle.bits14 (fun HT_ HW_ => ?_)
          generalize w55.drew = w56 at HO_238001 BK232 BK233 BK237 HB hHeld ⊢
          refine pure_ (i := 0) (N := some 51) (v := ?_) (a' := ?_) #[true, false, false, false, false, false, false, false, false, false, false, false, false] rfl rfl (any_of HT_.out (by kernel_rfl)) (fun _ _ _ h => h) (Or.inl ⟨by rfl, ?_⟩) ?_ ?_
          rotate_left
          ·
           intro w'
           go_simp
           with_reducible rfl
          rotate_left
          ·
           simp only [Act.put, List.setIfInBounds_toArray, List.set_cons_zero, List.set_cons_succ, i64_w, i32_w]
           rfl
          refine pure_ (i := 2) (N := some 53) (v := ?_) (a' := ?_) #[true, false, true, false, false, false, false, false, false, false, false, false, false] rfl rfl (any_of HT_.out (by kernel_rfl)) (fun _ _ _ h => h) (Or.inl ⟨by rfl, ?_⟩) ?_ ?_
          rotate_left
          ·
           intro w'
           go_simp
           with_reducible rfl
          rotate_left
          ·
           simp only [Act.put, List.setIfInBounds_toArray, List.set_cons_zero, List.set_cons_succ, i64_w, i32_w]
           rfl
          refine pure_ (i := 3) (N := some 54) (v := ?_) (a' := ?_) #[true, false, true, true, false, false, false, false, false, false, false, false, false] rfl rfl (any_of HT_.out (by kernel_rfl)) (fun _ _ _ h => h) (Or.inl ⟨by rfl, ?_⟩) ?_ ?_
          rotate_left
          ·
           intro w'
           go_simp
           with_reducible rfl
          rotate_left
          ·
           simp only [Act.put, List.setIfInBounds_toArray, List.set_cons_zero, List.set_cons_succ, i64_w, i32_w]
           rfl
          refine pure_ (i := 4) (N := some 55) (v := ?_) (a' := ?_) #[true, false, true, true, true, false, false, false, false, false, false, false, false] rfl rfl (any_of HT_.out (by kernel_rfl)) (fun _ _ _ h => h) (Or.inl ⟨by rfl, ?_⟩) ?_ ?_
          rotate_left
          ·
           intro w'
           go_simp
           with_reducible rfl
          rotate_left
          ·
           simp only [Act.put, List.setIfInBounds_toArray, List.set_cons_zero, List.set_cons_succ, i64_w, i32_w]
           rfl
          refine pure_ (i := 5) (N := some 56) (v := ?_) (a' := ?_) #[true, false, true, true, true, true, false, false, false, false, false, false, false] rfl rfl (any_of HT_.out (by kernel_rfl)) (fun _ _ _ h => h) (Or.inl ⟨by rfl, ?_⟩) ?_ ?_
          rotate_left
          ·
           intro w'
           go_simp
           with_reducible rfl
          rotate_left
          ·
           simp only [Act.put, List.setIfInBounds_toArray, List.set_cons_zero, List.set_cons_succ, i64_w, i32_w]
           rfl
          refine pure_ (i := 6) (N := some 57) (v := ?_) (a' := ?_) #[true, false, true, true, true, true, true, false, false, false, false, false, false] rfl rfl (any_of HT_.out (by kernel_rfl)) (fun _ _ _ h => h) (Or.inl ⟨by rfl, ?_⟩) ?_ ?_
          rotate_left
          ·
           intro w'
           go_simp
           with_reducible rfl
          rotate_left
          ·
           simp only [Act.put, List.setIfInBounds_toArray, List.set_cons_zero, List.set_cons_succ, i64_w, i32_w]
           rfl
          refine take_ (i := 1) (N := some 52) (v := ?_) (a' := ?_) #[true, true, true, true, true, true, true, false, false, false, false, false, false] rfl rfl (take_ofW HT_.out HW_.out (by kernel_rfl)) (fun _ _ _ h => h) (Or.inl ⟨by rfl, ?_⟩) hHeld ?_ ?_
          rotate_left
          ·
           rintro w' ⟨s0, s1⟩
           go_simp
           with_reducible rfl
          rotate_left
          ·
           simp only [Act.put, List.setIfInBounds_toArray, List.set_cons_zero, List.set_cons_succ, i64_w, i32_w]
           rfl
          refine one_ (i := 7) (N := some 58) #[true, true, true, true, true, true, true, true, false, false, false, false, false] rfl rfl (one_of HT_.out (by kernel_rfl)) (by decide) (fun K hK => ?_)
          refine goes_ Tryz.func24 (by kernel_rfl) rfl #[.int .i64 (Int.tmod (Int.tmod (wrap64 ((wrap64 (x233000_2 * 257)) + 1531)) 10007) 6), .int .i64 0, .string a0] (by rfl) rfl rfl (by (try simp only [List.map_toArray, List.map_cons, List.map_nil]); first | done | rfl | (simp only [List.length_drop, List.length_take]; rfl)) ?_
          with_reducible refine (impl_truth.calls k2 (Int.tmod (Int.tmod (wrap64 ((wrap64 (x233000_2 * 257)) + 1531)) 10007) 6) 0 a0 t246 _ A50.out).mono ?_
          rintro e w57 ⟨rfl, hb⟩
          refine ⟨_, rfl, ?_⟩
          have n0_ := Aside0.mk (Kd.R_below (qr HO_238001.out) hb)
          have n1_ := Aside0.mk (blk_below (g := gb232) (o := .cells #[.int .i64 (Int.tmod (wrap64 ((wrap64 ((Int.tmod (wrap64 ((wrap64 (x233000_2 * 257)) + 1531)) 10007) * 257)) + 1531)) 10007)] 3 (0, 0)) (qb BK232) hb)
          have n2_ := qbb BK233 hb
          have n3_ := qbb BK237 hb
          have n4_ := Aside0.mk (below_step (qw HB) hb)
          clear HO_238001
          clear BK232
          clear BK233
          clear BK237
          clear HB
          have HO_238001 := n0_
          have BK232 := n1_
          have BK233 := n2_
          have BK237 := n3_
          have HB := n4_
          clear n0_ n1_ n2_ n3_ n4_
          (try clear hb)
          (try clear hb2)
          (try clear hk)
          (try clear hi)
          refine hK.out _ _ ⟨bc BK237 0, bc BK237 1⟩ (fun hHeld => ?_)
          clear hK K
          refine norm_ (a' := ?_) ?_ ?_
          rotate_left
          ·
           show Act.put _ (some 58) _ = _
           simp only [Act.put, List.setIfInBounds_toArray, List.set_cons_zero, List.set_cons_succ, i64_w, i32_w]
           rfl
          refine pure_ (i := 8) (N := some 59) (v := ?_) (a' := ?_) #[true, true, true, true, true, true, true, true, true, false, false, false, false] rfl rfl (any_of HT_.out (by kernel_rfl)) (fun _ _ _ h => h) (Or.inl ⟨by rfl, ?_⟩) ?_ ?_
          rotate_left
          ·
           intro w'
           go_simp
           with_reducible rfl
          rotate_left
          ·
           simp only [Act.put, List.setIfInBounds_toArray, List.set_cons_zero, List.set_cons_succ, i64_w, i32_w]
           rfl
          refine one_ (i := 9) (N := some 60) #[true, true, true, true, true, true, true, true, true, true, false, false, false] rfl rfl (one_of HT_.out (by kernel_rfl)) (by decide) (fun K hK => ?_)
          refine value_ (w1 := ?_) (v := ?_) (by rfl) rfl ?_ ?_
          rotate_left 2
          ·
           go_simp
           constructor
           · rfl
           · rfl
          refine hK.out _ _ ⟨(blk_cell (blk_alloc BK237.out _) 0).trans rfl, (blk_cell (blk_alloc BK237.out _) 1).trans rfl⟩ (fun hHeld => ?_)
          clear hK K
          refine norm_ (a' := ?_) ?_ ?_
          rotate_left
          ·
           show Act.put _ (some 60) _ = _
           simp only [Act.put, List.setIfInBounds_toArray, List.set_cons_zero, List.set_cons_succ, i64_w, i32_w]
           rfl
          refine one_ (i := 10) (N := some 61) #[true, true, true, true, true, true, true, true, true, true, true, false, false] rfl rfl (one_of HT_.out (by kernel_rfl)) (by decide) (fun K hK => ?_)
          refine Kd.R_append_step k26 (w0 := w) w.heap.size (by rfl) (.tmp 52) (.tmp 60) 29 26 (.agg #[(.int .i64 0), (.int .i64 0), (.int .i64 0)]) 24 rfl Tryz.underlying29 info26 rfl (by decide) (by omega) u238001 x238001_2 (⟨Int.tmod (Int.tmod (wrap64 ((wrap64 (x233000_2 * 257)) + 1531)) 10007) 6, 0, t246⟩ : S26) [.int .i64 (Int.tmod (Int.tmod (wrap64 ((wrap64 (x233000_2 * 257)) + 1531)) 10007) 6), .int .i64 0, .int .i64 t246] (fun _ => True) (fun _ => False) rfl rfl ?aP (fun _ hk => hk.elim) ?aF ?aO ?aB ?aS ?aL ?_
          (case aP => exact k26_mkM _ _ _ (⟨Int.tmod (Int.tmod (wrap64 ((wrap64 (x233000_2 * 257)) + 1531)) 10007) 6, 0, t246⟩ : S26))
          (case aB => exact (qw HB))
          (case aF => exact (fun _ _ => trivial))
          (case aO => exact (qr HO_238001.out))
          (case aS => exact (below_size (qw HB)))
          (case aL => have := LMc51.out; omega)
          intro v248 w58 ho hb hg hat
          rw [← Ny247.out] at ho
          have n0_ := Aside0.mk (blk_grown (g := gb232) (o := .cells #[.int .i64 (Int.tmod (wrap64 ((wrap64 ((Int.tmod (wrap64 ((wrap64 (x233000_2 * 257)) + 1531)) 10007) * 257)) + 1531)) 10007)] 3 (0, 0)) (qb BK232) hg (Kd.R_ne HO_238001.out BK232.out (by decide)))
          have n1_ := Aside0.mk (blk_grown (g := gb233) (o := .cells #[.int .i64 0, .slice none 0 0] 31 (0, 0)) (qb BK233) hg (Kd.R_ne HO_238001.out BK233.out (by decide)))
          have n2_ := Aside0.mk (blk_grown (g := gb237) (o := .cells #[.int .i64 (a0.size : Int), u238001] 31 (0, 0)) (qb BK237) hg (Kd.R_ne HO_238001.out BK237.out (by decide)))
          have n3_ := Aside0.mk (hb)
          have n4_ := Aside0.mk (ho)
          clear BK232
          clear BK233
          clear BK237
          clear HB
          clear HO_238001
          have BK232 := n0_
          have BK233 := n1_
          have BK237 := n2_
          have HB := n3_
          have HO249 := n4_
          clear n0_ n1_ n2_ n3_ n4_
          clear ho hb hg hat
          obtain ⟨Ao59, co59, eo59⟩ := Kd.R_slice HO249.out
          (first | subst eo59 | (injection eo59 with f1_ f2_ f3_; have f4_ := f1_.symm; have f5_ := f3_.symm; clear f1_ f2_ f3_; subst f4_; subst f5_))
          refine hK.out _ _ ⟨bc BK237 0, bc BK237 1⟩ (fun hHeld => ?_)
          clear hK K
          refine norm_ (a' := ?_) ?_ ?_
          rotate_left
          ·
           show Act.put _ (some 61) _ = _
           simp only [Act.put, List.setIfInBounds_toArray, List.set_cons_zero, List.set_cons_succ, i64_w, i32_w]
           rfl
          refine pure_ (i := 11) (N := some 62) (v := ?_) (a' := ?_) #[true, true, true, true, true, true, true, true, true, true, true, true, false] rfl rfl (any_of HT_.out (by kernel_rfl)) (fun _ _ _ h => h) (Or.inl ⟨by rfl, ?_⟩) ?_ ?_
          rotate_left
          ·
           intro w'
           go_simp
           with_reducible rfl
          rotate_left
          ·
           simp only [Act.put, List.setIfInBounds_toArray, List.set_cons_zero, List.set_cons_succ, i64_w, i32_w]
           rfl
          refine last_ (i := 12) (N := none) #[true, true, true, true, true, true, true, true, true, true, true, true, true] rfl rfl (one_of HT_.out (by kernel_rfl)) (by decide) (fun K hK => ?_)
          have hs60 : w58.cell? ⟨gb237, 1, none⟩ = some (u238001) := bc BK237 1
          have hfs60 := blk_frozen BK237.out 1
          have hns60_0 := NB232_237.out
          have hns60_1 := NB233_237.out
          have hms60_0 := NB237_232.out
          have hms60_1 := NB237_233.out
          refine skip_ (w1 := ?_) (by rfl) rfl ?_ ?_
          rotate_left
          ·
           go_simp
           rfl
          refine hK.out _ _ ?_
          clear hK K
          refine done_ (done_of HT_.out (by kernel_rfl)) ?_
          try go_wp2
          go_roundg k2
          case measure => have := HJ3.out; have := HK2.out; omega
          case rel => exact ⟨(wrap64 (x32_2 + 1)), (Int.tmod (wrap64 ((wrap64 ((Int.tmod (wrap64 ((wrap64 (x233000_2 * 257)) + 1531)) 10007) * 257)) + 1531)) 10007), (y247), (.slice Ao59 y247.length co59), (by first | rfl | (simp; done) | (simp [*]; done) | (simp [isEmpty_bne]; done) | (simp [i64_w]; done) | (simp only [i64_w]; done)), H', ⟨by have := HJ3.out; have := HK2.out; omega⟩, ⟨by (with_reducible repeat (first | apply Kd.R_alloc | apply Kd.R_drewN | apply Kd.R_drew)); exact Kd.R_mono (Kd.R_far (p := ⟨gb237, 1, none⟩) (Kd.R_types HO249.out BK237.out (by decide)) (fun _ hk => hk.2) (.slice Ao59 y247.length co59)) (fun _ hk => trivial)⟩, ⟨by (with_reducible repeat (first | refine blk_drewN ?_ _ | refine blk_drew ?_ | refine blk_alloc ?_ _)); refine blk_far ?_ NB232_237.out _; (with_reducible repeat (first | refine blk_drewN ?_ _ | refine blk_drew ?_ | refine blk_alloc ?_ _)); exact BK232.out⟩, ⟨by (with_reducible repeat (first | refine blk_drewN ?_ _ | refine blk_drew ?_ | refine blk_alloc ?_ _)); refine blk_far ?_ NB233_237.out _; (with_reducible repeat (first | refine blk_drewN ?_ _ | refine blk_drew ?_ | refine blk_alloc ?_ _)); exact BK233.out⟩, ⟨by (with_reducible repeat (first | refine blk_drewN ?_ _ | refine blk_drew ?_ | refine blk_alloc ?_ _)); refine blk_put (cs := #[.int .i64 (a0.size : Int), u238001]) ?_ 1 _ rfl; (with_reducible repeat (first | refine blk_drewN ?_ _ | refine blk_drew ?_ | refine blk_alloc ?_ _)); exact BK237.out⟩, ⟨by repeat (first | (with_reducible first | exact HB.out | apply below_alloc | apply pw_below_drewN | apply below_drew1 | refine below_set ?_ GE232.out | refine below_set ?_ GE233.out | refine below_set ?_ GE237.out) | exact HB.out)⟩⟩
         ·
          rw [if_neg c51] at H
          exact absurd H (by simp)
      ·
       rw [if_neg c24] at H
       have c24b0 : decide (x32_2 < a1) = false := decide_eq_false c24
       clear c24
       simp only [Option.some.injEq, Prod.mk.injEq] at H
       obtain ⟨rfl, rfl, rfl⟩ := H
       have hnb61 := NB237_232.out
       have hnc61 := NB232_237.out
       have hnb62 := NB237_233.out
       have hnc62 := NB233_237.out
       have hcz63_0 : wr.cell? ⟨gb237, 0, none⟩ = some (.int .i64 (a0.size : Int)) := bc BK237 0
       have hcz63_1 : wr.cell? ⟨gb237, 1, none⟩ = some (u238001) := bc BK237 1
       have hfz63_0 := blk_frozen BK237.out 0
       have hfz63_1 := blk_frozen BK237.out 1
       have hnb64 := NB233_232.out
       have hnc64 := NB232_233.out
       have hcz65_0 : wr.cell? ⟨gb233, 0, none⟩ = some (.int .i64 0) := bc BK233 0
       have hcz65_1 : wr.cell? ⟨gb233, 1, none⟩ = some (.slice none 0 0) := bc BK233 1
       have hfz65_0 := blk_frozen BK233.out 0
       have hfz65_1 := blk_frozen BK233.out 1
       obtain ⟨Ao66, co66, eo66⟩ := Kd.R_slice HO_238001.out
       subst eo66
       go_wp2
       refine bodyPost_ret (results_ct rfl _ _ gb233 31 #[.int .i64 (a0.size : Int), .slice Ao66 x238001_2.length co66] (0, 0) _ rfl (by (with_reducible repeat (first | refine blk_drewN ?_ _ | refine blk_drew ?_ | refine blk_alloc ?_ _)); refine blk_put (cs := #[.int .i64 (a0.size : Int), .slice none 0 0]) ?_ 1 _ rfl; (with_reducible repeat (first | refine blk_drewN ?_ _ | refine blk_drew ?_ | refine blk_alloc ?_ _)); refine blk_put (cs := #[.int .i64 0, .slice none 0 0]) ?_ 0 _ rfl; (with_reducible repeat (first | refine blk_drewN ?_ _ | refine blk_drew ?_ | refine blk_alloc ?_ _)); exact BK233.out) Tryz.underlying31 rfl (by kernel_rfl)) rfl ?_
       exact ⟨_, by first | rfl | (simp [errW_none, errW_some] <;> rfl) | (simp [*, errW_none, errW_some] <;> rfl), by (with_reducible repeat (first | apply Kd.R_alloc | apply Kd.R_drewN | apply Kd.R_drew)); exact Kd.R_mono (Kd.R_far (p := ⟨gb233, 1, none⟩) (Kd.R_far (p := ⟨gb233, 0, none⟩) (Kd.R_types HO_238001.out BK233.out (by decide)) (fun _ hk => hk.2) (.int .i64 (a0.size : Int))) (fun _ hk => hk.2) (.slice Ao66 x238001_2.length co66)) (fun _ hk => trivial), qw HB⟩

/-! ### laws_eqClue: function 37 -/
def laws_eqClue.f (a0_0 : Int) (a0_1 : Int) (a0_2 : Int) (a1_0 : Int) (a1_1 : Int) (a1_2 : Int) : Option (Bool) := if a0_0 = a1_0 then (if a0_1 = a1_1 then (if a0_2 = a1_2 then (some true) else (none)) else (none)) else (none)
set_option maxHeartbeats 8000000 in
set_option maxRecDepth 100000 in
theorem laws_eqClue.calls (a0_0 : Int) (a0_1 : Int) (a0_2 : Int) (a1_0 : Int) (a1_1 : Int) (a1_2 : Int) (r : Bool) (w : World) (h : laws_eqClue.f a0_0 a0_1 a0_2 a1_0 a1_1 a1_2 = some r) :
  Calls Tryz.prog 37 #[.agg #[.int .i64 a0_0, .int .i64 a0_1, .int .i64 a0_2], .agg #[.int .i64 a1_0, .int .i64 a1_1, .int .i64 a1_2]] w fun e w' => e = .returned (.bool r) ∧ Below w.heap.size w w' := by
 have hu26 := Tryz.underlying26
 have HB := Aside0.mk (Below.refl w.heap.size w)
 have H : (if a0_0 = a1_0 then (if a0_1 = a1_1 then (if a0_2 = a1_2 then (some true) else (none)) else (none)) else (none)) = some r := h
 clear h
 by_cases c3 : a0_0 = a1_0
 ·
  rw [if_pos c3] at H
  have c3b0 : (a0_0 == a1_0) = true := beq_iff_eq.mpr c3
  have c3b1 : (a0_0 != a1_0) = false := bne_eq_false_iff_eq.mpr c3
  clear c3
  by_cases c4 : a0_1 = a1_1
  ·
   rw [if_pos c4] at H
   have c4b0 : (a0_1 == a1_1) = true := beq_iff_eq.mpr c4
   have c4b1 : (a0_1 != a1_1) = false := bne_eq_false_iff_eq.mpr c4
   clear c4
   by_cases c5 : a0_2 = a1_2
   ·
    rw [if_pos c5] at H
    have c5b0 : (a0_2 == a1_2) = true := beq_iff_eq.mpr c5
    have c5b1 : (a0_2 != a1_2) = false := bne_eq_false_iff_eq.mpr c5
    clear c5
    obtain rfl := Option.some.inj H
    go_enter Tryz.func37, Tryz.ntmps37
    go_wp2_with (first | ((with_reducible refine gate_dst (N := 2) rfl ?_); refine box_event ?hg (N := 2) ?hd (cs := #[.int .i64 a0_0, .int .i64 a0_1, .int .i64 a0_2]) (t := 26) ?hr ?_; (case hd => rfl); (case hg => rfl); (case hr => first | (go_simp; done) | (go_simp; rfl)); intro gb250 hg w6 hbox hb; have n0_ := Aside0.mk (below_step (qw HB) hb); have n1_ := Aside0.mk (hbox); have n2_ := Aside0.mk ((by rw [hg]; exact (below_size (qw HB)) : w.heap.size ≤ gb250)); have n3_ := Aside0.mk ((by rw [hg]; exact (below_size (qw HB)) : w.heap.size ≤ gb250)); clear HB; have HB := n0_; have BK250 := n1_; have GW250 := n2_; have GE250 := n3_; clear n0_ n1_ n2_ n3_; clear hb hbox hg) | ((with_reducible refine gate_dst (N := 3) rfl ?_); refine box_event ?hg (N := 3) ?hd (cs := #[.int .i64 a1_0, .int .i64 a1_1, .int .i64 a1_2]) (t := 26) ?hr ?_; (case hd => rfl); (case hg => rfl); (case hr => first | (go_simp; done) | (go_simp; rfl)); intro gb251 hg w7 hbox hb; have n0_ := qbb BK250 hb; have n1_ := Aside0.mk (below_step (qw HB) hb); have n2_ := Aside0.mk (hbox); have n3_ := Aside0.mk ((by rw [hg]; exact (below_size (qw HB)) : w.heap.size ≤ gb251)); have n4_ := Aside0.mk ((by rw [hg]; exact (below_size (qw HB)) : w.heap.size ≤ gb251)); have n5_ := Aside0.mk ((by rw [hg]; exact Nat.ne_of_lt (blk_lt (qb BK250)) : gb250 ≠ gb251)); have n6_ := Aside0.mk ((by rw [hg]; exact Nat.ne_of_gt (blk_lt (qb BK250)) : gb251 ≠ gb250)); clear BK250; clear HB; have BK250 := n0_; have HB := n1_; have BK251 := n2_; have GW251 := n3_; have GE251 := n4_; have NB250_251 := n5_; have NB251_250 := n6_; clear n0_ n1_ n2_ n3_ n4_ n5_ n6_; clear hb hbox hg; have hnb8 := NB250_251.out; have hnc8 := NB251_250.out; have hcz9_0 : w7.cell? ⟨gb250, 0, none⟩ = some (.int .i64 a0_0) := bc BK250 0; have hcz9_1 : w7.cell? ⟨gb250, 1, none⟩ = some (.int .i64 a0_1) := bc BK250 1; have hcz9_2 : w7.cell? ⟨gb250, 2, none⟩ = some (.int .i64 a0_2) := bc BK250 2; have hfz9_0 := blk_frozen BK250.out 0; have hfz9_1 := blk_frozen BK250.out 1; have hfz9_2 := blk_frozen BK250.out 2; have hcz10_0 : w7.cell? ⟨gb251, 0, none⟩ = some (.int .i64 a1_0) := bc BK251 0; have hcz10_1 : w7.cell? ⟨gb251, 1, none⟩ = some (.int .i64 a1_1) := bc BK251 1; have hcz10_2 : w7.cell? ⟨gb251, 2, none⟩ = some (.int .i64 a1_2) := bc BK251 2; have hfz10_0 := blk_frozen BK251.out 0; have hfz10_1 := blk_frozen BK251.out 1; have hfz10_2 := blk_frozen BK251.out 2))
    go_ret
    exact ⟨by first | rfl | (simp [errW_none, errW_some] <;> rfl) | (simp [*, errW_none, errW_some] <;> rfl), qw HB⟩
   ·
    rw [if_neg c5] at H
    exact absurd H (by simp)
  ·
   rw [if_neg c4] at H
   exact absurd H (by simp)
 ·
  rw [if_neg c3] at H
  exact absurd H (by simp)

/-! ### laws_eqClueS: function 25 -/
def laws_eqClueS.l0 : Nat → List (S26) → List (S26) → Int → Option (Bool)
 | 0, _, _, _ => none
 | k + 1, x0, x1, x5 => if x5 < (x0.length : Int) then (if 0 ≤ x5 then (if x5 < (x1.length : Int) then ((laws_eqClue.f ((rd_T26 x0 x5).f0) ((rd_T26 x0 x5).f1) ((rd_T26 x0 x5).f2) ((rd_T26 x1 x5).f0) ((rd_T26 x1 x5).f1) ((rd_T26 x1 x5).f2)).bind fun t254 => (if t254 = true then (laws_eqClueS.l0 k x0 x1 (wrap64 (x5 + 1))) else (none))) else (none)) else (none)) else (some true)
def laws_eqClueS.f (k : Nat) (l0 : List (S26)) (l1 : List (S26)) : Option (Bool) := if (l0.length : Int) = (l1.length : Int) then (laws_eqClueS.l0 k l0 l1 0) else (none)
theorem laws_eqClueS.mono_l : ∀ k, (∀ y0 y1 y2, LeO (laws_eqClueS.l0 k y0 y1 y2) (laws_eqClueS.l0 (k + 1) y0 y1 y2))
 | 0 => fun _ _ _ r h => by simp [laws_eqClueS.l0] at h
 | k + 1 => by
  have ih0 := laws_eqClueS.mono_l k
  ·
   intro y0 y1 y2
   unfold laws_eqClueS.l0
   repeat' first
   | (with_reducible exact ih0 _ _ _)
   | (with_reducible exact LeO.refl _)
   | (with_reducible exact LeO.none _)
   | (with_reducible refine LeO.ite ?_ ?_)
   | (with_reducible refine LeO.bind ?_ (fun _ => ?_))
   | exact ih0 _ _ _
   | exact LeO.none _
   | refine LeO.ite ?_ ?_
   | refine LeO.bind ?_ (fun _ => ?_)
theorem laws_eqClueS.mono : ∀ a0 a1 k, LeO (laws_eqClueS.f k a0 a1) (laws_eqClueS.f (k + 1) a0 a1) := by
 intro a0 a1 k
 have ih0 := laws_eqClueS.mono_l k
 unfold laws_eqClueS.f
 repeat' first
   | (with_reducible exact ih0 _ _ _)
   | (with_reducible exact LeO.refl _)
   | (with_reducible exact LeO.none _)
   | (with_reducible refine LeO.ite ?_ ?_)
   | (with_reducible refine LeO.bind ?_ (fun _ => ?_))
   | exact ih0 _ _ _
   | exact LeO.none _
   | refine LeO.ite ?_ ?_
   | refine LeO.bind ?_ (fun _ => ?_)
def laws_eqClueS.T6 : Bool × List (List Nat × List Nat) := (true, [([], []), ([], []), ([0, 1], [0, 1]), ([2], [2]), ([], []), ([], []), ([4, 5], [4, 5]), ([6], [6]), ([3, 7], [3, 7]), ([8], [8])])
def laws_eqClueS.B6 : List Nat := [0, 0, 3, 7, 0, 0, 48, 112, 255, 511]
theorem laws_eqClueS.tab6 : rtab .any (opsOf Tryz.f25 6) = laws_eqClueS.T6 := by kernel_rfl
theorem laws_eqClueS.bits6 : waitsOk laws_eqClueS.T6.2 laws_eqClueS.B6 = true := by kernel_rfl
set_option maxHeartbeats 8000000 in
set_option maxRecDepth 100000 in
theorem laws_eqClueS.calls (k : Nat) (A0 : Option Addr) (c0 : Nat) (l0 : List (S26)) (A1 : Option Addr) (c1 : Nat) (l1 : List (S26)) (r : Bool) (w : World) (hr0 : Kd.C k26 w A0 l0.length l0) (hc0 : l0.length ≤ c0) (hr1 : Kd.C k26 w A1 l1.length l1) (hc1 : l1.length ≤ c1) (h : laws_eqClueS.f k l0 l1 = some r) :
  Calls Tryz.prog 25 #[.slice A0 l0.length c0, .slice A1 l1.length c1] w fun e w' => e = .returned (.bool r) ∧ Below w.heap.size w w' := by
 have hu26 := Tryz.underlying26
 have HR0 := Aside0.mk hr0
 have HC0 := Aside0.mk hc0
 clear hr0 hc0
 have HR1 := Aside0.mk hr1
 have HC1 := Aside0.mk hc1
 clear hr1 hc1
 have HB := Aside0.mk (Below.refl w.heap.size w)
 have H : (if (l0.length : Int) = (l1.length : Int) then (laws_eqClueS.l0 k l0 l1 0) else (none)) = some r := h
 clear h
 by_cases c3 : (l0.length : Int) = (l1.length : Int)
 ·
  rw [if_pos c3] at H
  have c3b0 : ((l0.length : Int) == (l1.length : Int)) = true := beq_iff_eq.mpr c3
  have c3b1 : ((l0.length : Int) != (l1.length : Int)) = false := bne_eq_false_iff_eq.mpr c3
  have c3b2 : (l0.length == l1.length) = true := by first | simpa using c3 | (simp at c3 ⊢; omega)
  clear c3
  have H' := Aside0.mk H
  clear H
  go_enter Tryz.func25, Tryz.ntmps25
  go_wp2
  go_loopg [5] k (fun kq v5 w' => ∃ (x5_1 : Int), v5 = .int .i64 x5_1 ∧ Aside0 (laws_eqClueS.l0 kq l0 l1 x5_1 = some r) ∧ Aside0 (kq ≤ k) ∧ Aside0 (Below w.heap.size w w'))
  case atStart => exact ⟨(0), (by first | rfl | (simp; done) | (simp [*]; done) | (simp [isEmpty_bne]; done) | (simp [i64_w]; done) | (simp only [i64_w]; done)), H', ⟨Nat.le_refl _⟩, ⟨by repeat (first | (with_reducible first | exact HB.out | apply below_alloc | apply pw_below_drewN | apply below_drew1) | exact HB.out)⟩⟩
  case round =>
   clear H'
   try clear c1
   try clear c2
   try clear p2
   try clear c3
   try clear c3b0
   try clear c3b1
   try clear c3b2
   obtain ⟨x5_1, rfl, HA, HK1, HB⟩ := hrel
   cases gk with
   | zero => exact absurd HA.out (by simp [laws_eqClueS.l0])
   | succ k1 =>
    have H := HA.out
    clear HA
    simp only [laws_eqClueS.l0] at H
    by_cases c4 : x5_1 < (l0.length : Int)
    ·
     rw [if_pos c4] at H
     have c4b0 : decide (x5_1 < (l0.length : Int)) = true := decide_eq_true c4
     clear c4
     by_cases c5 : 0 ≤ x5_1
     ·
      rw [if_pos c5] at H
      have c5b0 : decide (0 ≤ x5_1) = true := decide_eq_true c5
      clear c5
      by_cases c6 : x5_1 < (l1.length : Int)
      ·
       rw [if_pos c6] at H
       have c6b0 : decide (x5_1 < (l1.length : Int)) = true := decide_eq_true c6
       clear c6
       replace H := Option.bind_eq_some_iff.mp H
       obtain ⟨t254, A70, H⟩ := H
       replace H : (if t254 = true then (laws_eqClueS.l0 k1 l0 l1 (wrap64 (x5_1 + 1))) else (none)) = some r := H
       have A7 := Aside0.mk A70
       clear A70
       by_cases c8 : t254 = true
       ·
        subst c8
        have H1 : (laws_eqClueS.l0 k1 l0 l1 (wrap64 (x5_1 + 1))) = some r := by rw [if_pos rfl] at H; exact H
        clear H
        have H := H1
        clear H1
        have H' := Aside0.mk H
        clear H
        try go_wp2
        have n0_ := Aside0.mk (below_drew1 HB.out)
        clear HB
        have HB := n0_
        clear n0_
        have p252 : 0 ≤ (x5_1 : Int) := of_decide_eq_true (by first | (with_reducible assumption) | assumption)
        have q252 : x5_1 < (l0.length : Int) := of_decide_eq_true (by first | (with_reducible assumption) | assumption)
        obtain ⟨ad252, e252, hx252_0, hx252_1, hx252_2⟩ := at_T26 HR0.out x5_1 p252 q252
        have hw252_2 := hx252_2
        have hw252_1 := hx252_1
        have hw252_0 := hx252_0
        cases e252
        replace hx252_0 := (HB.out.cell (World.block_lt_of_cell? w _ hx252_0)).trans hx252_0
        replace hx252_1 := (HB.out.cell (World.block_lt_of_cell? w _ hx252_1)).trans hx252_1
        replace hx252_2 := (HB.out.cell (World.block_lt_of_cell? w _ hx252_2)).trans hx252_2
        replace p252 := eq_true p252
        replace q252 := eq_true q252
        have p253 : 0 ≤ (x5_1 : Int) := of_decide_eq_true (by first | (with_reducible assumption) | assumption)
        have q253 : x5_1 < (l1.length : Int) := of_decide_eq_true (by first | (with_reducible assumption) | assumption)
        obtain ⟨ad253, e253, hx253_0, hx253_1, hx253_2⟩ := at_T26 HR1.out x5_1 p253 q253
        have hw253_2 := hx253_2
        have hw253_1 := hx253_1
        have hw253_0 := hx253_0
        cases e253
        replace hx253_0 := (HB.out.cell (World.block_lt_of_cell? w _ hx253_0)).trans hx253_0
        replace hx253_1 := (HB.out.cell (World.block_lt_of_cell? w _ hx253_1)).trans hx253_1
        replace hx253_2 := (HB.out.cell (World.block_lt_of_cell? w _ hx253_2)).trans hx253_2
        replace p253 := eq_true p253
        replace q253 := eq_true q253
        refine start_ (n := 10) (S := fun w' => w'.cell? (ad252.add ((x5_1).toNat * 3)) = some (.int .i64 ((rd_T26 l0 x5_1).f0)) ∧ w'.cell? ⟨(ad252.add ((x5_1).toNat * 3)).block, (ad252.add ((x5_1).toNat * 3)).off + 1, none⟩ = some (.int .i64 ((rd_T26 l0 x5_1).f1)) ∧ w'.cell? ⟨(ad252.add ((x5_1).toNat * 3)).block, (ad252.add ((x5_1).toNat * 3)).off + 2, none⟩ = some (.int .i64 ((rd_T26 l0 x5_1).f2)) ∧ w'.cell? (ad253.add ((x5_1).toNat * 3)) = some (.int .i64 ((rd_T26 l1 x5_1).f0)) ∧ w'.cell? ⟨(ad253.add ((x5_1).toNat * 3)).block, (ad253.add ((x5_1).toNat * 3)).off + 1, none⟩ = some (.int .i64 ((rd_T26 l1 x5_1).f1)) ∧ w'.cell? ⟨(ad253.add ((x5_1).toNat * 3)).block, (ad253.add ((x5_1).toNat * 3)).off + 2, none⟩ = some (.int .i64 ((rd_T26 l1 x5_1).f2))) (ds := []) #[false, false, false, false, false, false, false, false, false, false] (by kernel_rfl) rfl rfl ⟨((HB.out.cell (World.block_lt_of_cell? w _ hw252_0)).trans hw252_0), ((HB.out.cell (World.block_lt_of_cell? w _ hw252_1)).trans hw252_1), ((HB.out.cell (World.block_lt_of_cell? w _ hw252_2)).trans hw252_2), ((HB.out.cell (World.block_lt_of_cell? w _ hw253_0)).trans hw253_0), ((HB.out.cell (World.block_lt_of_cell? w _ hw253_1)).trans hw253_1), ((HB.out.cell (World.block_lt_of_cell? w _ hw253_2)).trans hw253_2)⟩ (fun hHeld => ?_); refine with_tabW laws_eqClueS.tab6 laws_eqClueS.bits6 (fun HT_ HW_ => ?_)
        generalize wr.drew = w9 at HB hx252_0 hx252_1 hx252_2 hx253_0 hx253_1 hx253_2 hHeld ⊢
        refine pure_ (i := 0) (N := some 17) (v := ?_) (a' := ?_) #[true, false, false, false, false, false, false, false, false, false] rfl rfl (any_of HT_.out (by kernel_rfl)) (fun _ _ _ h => h) (Or.inl ⟨by rfl, ?_⟩) ?_ ?_
        rotate_left
        ·
         intro w'
         go_simp
         with_reducible rfl
        rotate_left
        ·
         simp only [Act.put, List.setIfInBounds_toArray, List.set_cons_zero, List.set_cons_succ, i64_w, i32_w]
         rfl
        refine pure_ (i := 1) (N := some 18) (v := ?_) (a' := ?_) #[true, true, false, false, false, false, false, false, false, false] rfl rfl (any_of HT_.out (by kernel_rfl)) (fun _ _ _ h => h) (Or.inl ⟨by rfl, ?_⟩) ?_ ?_
        rotate_left
        ·
         intro w'
         go_simp
         with_reducible rfl
        rotate_left
        ·
         simp only [Act.put, List.setIfInBounds_toArray, List.set_cons_zero, List.set_cons_succ, i64_w, i32_w]
         rfl
        refine pure_ (i := 2) (N := some 19) (v := ?_) (a' := ?_) #[true, true, true, false, false, false, false, false, false, false] rfl rfl (any_of HT_.out (by kernel_rfl)) (fun _ _ _ h => h) (Or.inl ⟨by rfl, ?_⟩) ?_ ?_
        rotate_left
        ·
         intro w'
         go_simp
         with_reducible rfl
        rotate_left
        ·
         simp only [Act.put, List.setIfInBounds_toArray, List.set_cons_zero, List.set_cons_succ, i64_w, i32_w]
         rfl
        refine pure_ (i := 4) (N := some 21) (v := ?_) (a' := ?_) #[true, true, true, false, true, false, false, false, false, false] rfl rfl (any_of HT_.out (by kernel_rfl)) (fun _ _ _ h => h) (Or.inl ⟨by rfl, ?_⟩) ?_ ?_
        rotate_left
        ·
         intro w'
         go_simp
         with_reducible rfl
        rotate_left
        ·
         simp only [Act.put, List.setIfInBounds_toArray, List.set_cons_zero, List.set_cons_succ, i64_w, i32_w]
         rfl
        refine pure_ (i := 5) (N := some 22) (v := ?_) (a' := ?_) #[true, true, true, false, true, true, false, false, false, false] rfl rfl (any_of HT_.out (by kernel_rfl)) (fun _ _ _ h => h) (Or.inl ⟨by rfl, ?_⟩) ?_ ?_
        rotate_left
        ·
         intro w'
         go_simp
         with_reducible rfl
        rotate_left
        ·
         simp only [Act.put, List.setIfInBounds_toArray, List.set_cons_zero, List.set_cons_succ, i64_w, i32_w]
         rfl
        refine pure_ (i := 6) (N := some 23) (v := ?_) (a' := ?_) #[true, true, true, false, true, true, true, false, false, false] rfl rfl (any_of HT_.out (by kernel_rfl)) (fun _ _ _ h => h) (Or.inl ⟨by rfl, ?_⟩) ?_ ?_
        rotate_left
        ·
         intro w'
         go_simp
         with_reducible rfl
        rotate_left
        ·
         simp only [Act.put, List.setIfInBounds_toArray, List.set_cons_zero, List.set_cons_succ, i64_w, i32_w]
         rfl
        refine take_ (i := 3) (N := some 20) (v := ?_) (a' := ?_) #[true, true, true, true, true, true, true, false, false, false] rfl rfl (take_ofW HT_.out HW_.out (by kernel_rfl)) (fun _ _ _ h => h) (Or.inl ⟨by rfl, ?_⟩) hHeld ?_ ?_
        rotate_left
        ·
         rintro w' ⟨s0, s1, s2, s3, s4, s5⟩
         go_simp
         with_reducible rfl
        rotate_left
        ·
         simp only [Act.put, List.setIfInBounds_toArray, List.set_cons_zero, List.set_cons_succ, i64_w, i32_w]
         rfl
        refine take_ (i := 7) (N := some 24) (v := ?_) (a' := ?_) #[true, true, true, true, true, true, true, true, false, false] rfl rfl (take_ofW HT_.out HW_.out (by kernel_rfl)) (fun _ _ _ h => h) (Or.inl ⟨by rfl, ?_⟩) hHeld ?_ ?_
        rotate_left
        ·
         rintro w' ⟨s0, s1, s2, s3, s4, s5⟩
         go_simp
         with_reducible rfl
        rotate_left
        ·
         simp only [Act.put, List.setIfInBounds_toArray, List.set_cons_zero, List.set_cons_succ, i64_w, i32_w]
         rfl
        refine one_ (i := 8) (N := some 25) #[true, true, true, true, true, true, true, true, true, false] rfl rfl (one_of HT_.out (by kernel_rfl)) (by decide) (fun K hK => ?_)
        refine goes_ Tryz.func37 (by kernel_rfl) rfl #[.agg #[.int .i64 ((rd_T26 l0 x5_1).f0), .int .i64 ((rd_T26 l0 x5_1).f1), .int .i64 ((rd_T26 l0 x5_1).f2)], .agg #[.int .i64 ((rd_T26 l1 x5_1).f0), .int .i64 ((rd_T26 l1 x5_1).f1), .int .i64 ((rd_T26 l1 x5_1).f2)]] (by rfl) rfl rfl (by (try simp only [List.map_toArray, List.map_cons, List.map_nil]); first | done | rfl | (simp only [List.length_drop, List.length_take]; rfl)) ?_
        with_reducible refine (laws_eqClue.calls ((rd_T26 l0 x5_1).f0) ((rd_T26 l0 x5_1).f1) ((rd_T26 l0 x5_1).f2) ((rd_T26 l1 x5_1).f0) ((rd_T26 l1 x5_1).f1) ((rd_T26 l1 x5_1).f2) true _ A7.out).mono ?_
        rintro e w10 ⟨rfl, hb⟩
        refine ⟨_, rfl, ?_⟩
        have n0_ := Aside0.mk (below_step (qw HB) hb)
        clear HB
        have HB := n0_
        clear n0_
        (try clear hb)
        (try clear hb2)
        (try clear hk)
        (try clear hi)
        refine hK.out _ _ ⟨((HB.out.cell (World.block_lt_of_cell? w _ hw252_0)).trans hw252_0), ((HB.out.cell (World.block_lt_of_cell? w _ hw252_1)).trans hw252_1), ((HB.out.cell (World.block_lt_of_cell? w _ hw252_2)).trans hw252_2), ((HB.out.cell (World.block_lt_of_cell? w _ hw253_0)).trans hw253_0), ((HB.out.cell (World.block_lt_of_cell? w _ hw253_1)).trans hw253_1), ((HB.out.cell (World.block_lt_of_cell? w _ hw253_2)).trans hw253_2)⟩ (fun hHeld => ?_)
        clear hK K
        refine norm_ (a' := ?_) ?_ ?_
        rotate_left
        ·
         show Act.put _ (some 25) _ = _
         simp only [Act.put, List.setIfInBounds_toArray, List.set_cons_zero, List.set_cons_succ, i64_w, i32_w]
         rfl
        refine pure_ (i := 9) (N := some 26) (v := ?_) (a' := ?_) #[true, true, true, true, true, true, true, true, true, true] rfl rfl (any_of HT_.out (by kernel_rfl)) (fun _ _ _ h => h) (Or.inl ⟨by rfl, ?_⟩) ?_ ?_
        rotate_left
        ·
         intro w'
         go_simp
         with_reducible rfl
        rotate_left
        ·
         simp only [Act.put, List.setIfInBounds_toArray, List.set_cons_zero, List.set_cons_succ, i64_w, i32_w]
         rfl
        refine done_ (done_of HT_.out (by kernel_rfl)) ?_
        try go_wp2
        go_roundg k1
        case measure => have := HK1.out; omega
        case rel => exact ⟨(wrap64 (x5_1 + 1)), (by first | rfl | (simp; done) | (simp [*]; done) | (simp [isEmpty_bne]; done) | (simp [i64_w]; done) | (simp only [i64_w]; done)), H', ⟨by have := HK1.out; omega⟩, ⟨by repeat (first | (with_reducible first | exact HB.out | apply below_alloc | apply pw_below_drewN | apply below_drew1) | exact HB.out)⟩⟩
       ·
        replace c8 := Bool.eq_false_iff.mpr c8
        subst c8
        have H1 : (none) = some r := by rw [if_neg (show ¬ (false = true) by decide)] at H; exact H
        clear H
        have H := H1
        clear H1
        exact absurd H (by simp)
      ·
       rw [if_neg c6] at H
       exact absurd H (by simp)
     ·
      rw [if_neg c5] at H
      exact absurd H (by simp)
    ·
     rw [if_neg c4] at H
     have c4b0 : decide (x5_1 < (l0.length : Int)) = false := decide_eq_false c4
     clear c4
     obtain rfl := Option.some.inj H
     go_wp2
     go_ret
     exact ⟨by first | rfl | (simp [errW_none, errW_some] <;> rfl) | (simp [*, errW_none, errW_some] <;> rfl), qw HB⟩
 ·
  rw [if_neg c3] at H
  exact absurd H (by simp)

end Go.Proofs.YtbigdaohimbkaaaGreatDoor.PA
