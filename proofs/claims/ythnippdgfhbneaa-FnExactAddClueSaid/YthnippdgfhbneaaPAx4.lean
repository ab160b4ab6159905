-- printed by xprint.py: the kit's print.py with given contracts
import Derived.Test.YthnippdgfhbneaaPAx0
import Derived.Test.YthnippdgfhbneaaPAx1
import Derived.Test.YthnippdgfhbneaaPAx2
import Derived.Test.YthnippdgfhbneaaPAx3
namespace Go.Proofs.Ythnippdgfhbneaa.PA
open Go.RowKit Go.Proofs.YthnippdgfhbneaaW.PrintWords Go.Proofs.YthnippdgfhbneaaW.PrintLast Go.Proofs.YthnippdgfhbneaaW.PrintMore
attribute [local go_sem] max2_int min2_int max_two min_two max_three min_three max_four min_four   -- for this text's walks alone
set_option linter.unusedVariables false
set_option linter.unusedSimpArgs false

/-! ### laws_FnExactAddClue: function 3 -/
mutual
def laws_FnExactAddClue.j0 : Nat → Bool → Bool → Bool → Int → List (S26) → Int → Int → Int → Int → List (S34) → Int → List (S34) → Int → List (S34) → Option (Bool)
 | 0, _, _, _, _, _, _, _, _, _, _, _, _, _, _ => none
 | k + 1, x7, x10, x46, x195000, x195001, x196000, x196001, x196002, x210000, x210001, x215000, x215001, x224000, x224001 => if x46 = true then (some false) else ((laws_toPuzzle.f k x195000 x195001).bind fun bt225 => ((laws_eqPuzzle.f k x215000 x215001 bt225.1 bt225.2).bind fun t229 => (if t229 = true then ((laws_markPuzzle.f k x215000 x215001 1).bind fun bt230 => (if bt230.1 < 0 then (laws_FnExactAddClue.j1 k x7 true x195000 x195001 x196000 x196001 x196002 x210000 x210001 x224000 x224001) else ((laws_eqPuzzle.f k x224000 x224001 x210000 x210001).bind fun t232 => (if t232 = true then (laws_FnExactAddClue.j1 k x7 (x10 != x7) x195000 x195001 x196000 x196001 x196002 x210000 x210001 x224000 x224001) else (laws_FnExactAddClue.j1 k x7 true x195000 x195001 x196000 x196001 x196002 x210000 x210001 x224000 x224001))))) else (some false))))
def laws_FnExactAddClue.j1 : Nat → Bool → Bool → Int → List (S26) → Int → Int → Int → Int → List (S34) → Int → List (S34) → Option (Bool)
 | 0, _, _, _, _, _, _, _, _, _, _, _ => none
 | k + 1, x7, x67, x195000, x195001, x196000, x196001, x196002, x210000, x210001, x224000, x224001 => if x67 = true then (some false) else ((laws_markPuzzle.f k x224000 x224001 1).bind fun bt233 => ((laws_heldPuzzle.f k x224000 bt233.2 1).bind fun t235 => (if t235 < 0 then (some false) else (if t235 = bt233.1 then ((laws_toPuzzle.f k x195000 x195001).bind fun bt236 => ((laws_toClue.f x196000 x196001 x196002).bind fun bt240 => ((impl_AddClue.f bt236.1 bt236.2 bt240.1 bt240.2.1 bt240.2.2).bind fun bt243 => ((laws_eqPuzzle.f k bt243.1 bt243.2.1 x210000 x210001).bind fun t249 => (if t249 = true then (laws_FnExactAddClue.j2 k bt233.1 (bt243.2.2 != x7) x224000 bt233.2) else (laws_FnExactAddClue.j2 k bt233.1 true x224000 bt233.2)))))) else (some false)))))
def laws_FnExactAddClue.j2 : Nat → Int → Bool → Int → List (S34) → Option (Bool)
 | 0, _, _, _, _ => none
 | k + 1, x12, x95, x224000, x224001 => if x95 = true then (some false) else ((laws_heldPuzzle.f k x224000 x224001 1).bind fun t250 => (if t250 < 0 then (some false) else (if t250 = x12 then (some true) else (some false))))
end
def laws_FnExactAddClue.f (k : Nat) (a0_0 : Int) (l0_1 : List (S26)) (a1_0 : Int) (a1_1 : Int) (a1_2 : Int) : Option (Bool) := (laws_szPuzzle.f a0_0 l0_1 1048576).bind fun t196 => (if t196 < 0 then (some true) else ((laws_toPuzzle.f k a0_0 l0_1).bind fun bt197 => ((laws_toClue.f a1_0 a1_1 a1_2).bind fun bt201 => ((spec_AddClue.f k bt197.1 bt197.2 bt201.1 bt201.2.1 bt201.2.2).bind fun bt204 => ((laws_toPuzzle.f k a0_0 l0_1).bind fun bt210 => ((laws_toClue.f a1_0 a1_1 a1_2).bind fun bt215 => ((impl_AddClue.f bt210.1 bt210.2 bt215.1 bt215.2.1 bt215.2.2).bind fun bt218 => ((laws_eqPuzzle.f k bt218.1 bt218.2.1 bt204.1 bt204.2.1).bind fun t224 => (if t224 = true then (laws_FnExactAddClue.j0 k bt204.2.2 bt218.2.2 (bt218.2.2 != bt204.2.2) a0_0 l0_1 a1_0 a1_1 a1_2 bt204.1 bt204.2.1 bt210.1 bt210.2 bt218.1 bt218.2.1) else (laws_FnExactAddClue.j0 k bt204.2.2 bt218.2.2 true a0_0 l0_1 a1_0 a1_1 a1_2 bt204.1 bt204.2.1 bt210.1 bt210.2 bt218.1 bt218.2.1))))))))))
theorem laws_FnExactAddClue.mono_l : ∀ k, (∀ y0 y1 y2 y3 y4 y5 y6 y7 y8 y9 y10 y11 y12 y13, LeO (laws_FnExactAddClue.j0 k y0 y1 y2 y3 y4 y5 y6 y7 y8 y9 y10 y11 y12 y13) (laws_FnExactAddClue.j0 (k + 1) y0 y1 y2 y3 y4 y5 y6 y7 y8 y9 y10 y11 y12 y13)) ∧ (∀ y0 y1 y2 y3 y4 y5 y6 y7 y8 y9 y10, LeO (laws_FnExactAddClue.j1 k y0 y1 y2 y3 y4 y5 y6 y7 y8 y9 y10) (laws_FnExactAddClue.j1 (k + 1) y0 y1 y2 y3 y4 y5 y6 y7 y8 y9 y10)) ∧ (∀ y0 y1 y2 y3, LeO (laws_FnExactAddClue.j2 k y0 y1 y2 y3) (laws_FnExactAddClue.j2 (k + 1) y0 y1 y2 y3))
 | 0 => ⟨fun _ _ _ _ _ _ _ _ _ _ _ _ _ _ r h => by simp [laws_FnExactAddClue.j0] at h, fun _ _ _ _ _ _ _ _ _ _ _ r h => by simp [laws_FnExactAddClue.j1] at h, fun _ _ _ _ r h => by simp [laws_FnExactAddClue.j2] at h⟩
 | k + 1 => by
  obtain ⟨ih0, ih1, ih2⟩ := laws_FnExactAddClue.mono_l k
  refine ⟨?_, ?_, ?_⟩
  ·
   intro y0 y1 y2 y3 y4 y5 y6 y7 y8 y9 y10 y11 y12 y13
   unfold laws_FnExactAddClue.j0
   repeat' first
   | (with_reducible exact ih0 _ _ _ _ _ _ _ _ _ _ _ _ _ _)
   | (with_reducible exact ih1 _ _ _ _ _ _ _ _ _ _ _)
   | (with_reducible exact ih2 _ _ _ _)
   | (with_reducible exact laws_eqPuzzle.mono _ _ _ _ _)
   | (with_reducible exact laws_heldPuzzle.mono _ _ _ _)
   | (with_reducible exact laws_markPuzzle.mono _ _ _ _)
   | (with_reducible exact laws_toPuzzle.mono _ _ _)
   | (with_reducible exact spec_AddClue.mono _ _ _ _ _ _)
   | (with_reducible exact LeO.refl _)
   | (with_reducible exact LeO.none _)
   | (with_reducible refine LeO.ite ?_ ?_)
   | (with_reducible refine LeO.bind ?_ (fun _ => ?_))
   | exact ih0 _ _ _ _ _ _ _ _ _ _ _ _ _ _
   | exact ih1 _ _ _ _ _ _ _ _ _ _ _
   | exact ih2 _ _ _ _
   | exact laws_eqPuzzle.mono _ _ _ _ _
   | exact laws_heldPuzzle.mono _ _ _ _
   | exact laws_markPuzzle.mono _ _ _ _
   | exact laws_toPuzzle.mono _ _ _
   | exact spec_AddClue.mono _ _ _ _ _ _
   | exact LeO.none _
   | refine LeO.ite ?_ ?_
   | refine LeO.bind ?_ (fun _ => ?_)
  ·
   intro y0 y1 y2 y3 y4 y5 y6 y7 y8 y9 y10
   unfold laws_FnExactAddClue.j1
   repeat' first
   | (with_reducible exact ih0 _ _ _ _ _ _ _ _ _ _ _ _ _ _)
   | (with_reducible exact ih1 _ _ _ _ _ _ _ _ _ _ _)
   | (with_reducible exact ih2 _ _ _ _)
   | (with_reducible exact laws_eqPuzzle.mono _ _ _ _ _)
   | (with_reducible exact laws_heldPuzzle.mono _ _ _ _)
   | (with_reducible exact laws_markPuzzle.mono _ _ _ _)
   | (with_reducible exact laws_toPuzzle.mono _ _ _)
   | (with_reducible exact spec_AddClue.mono _ _ _ _ _ _)
   | (with_reducible exact LeO.refl _)
   | (with_reducible exact LeO.none _)
   | (with_reducible refine LeO.ite ?_ ?_)
   | (with_reducible refine LeO.bind ?_ (fun _ => ?_))
   | exact ih0 _ _ _ _ _ _ _ _ _ _ _ _ _ _
   | exact ih1 _ _ _ _ _ _ _ _ _ _ _
   | exact ih2 _ _ _ _
   | exact laws_eqPuzzle.mono _ _ _ _ _
   | exact laws_heldPuzzle.mono _ _ _ _
   | exact laws_markPuzzle.mono _ _ _ _
   | exact laws_toPuzzle.mono _ _ _
   | exact spec_AddClue.mono _ _ _ _ _ _
   | exact LeO.none _
   | refine LeO.ite ?_ ?_
   | refine LeO.bind ?_ (fun _ => ?_)
  ·
   intro y0 y1 y2 y3
   unfold laws_FnExactAddClue.j2
   repeat' first
   | (with_reducible exact ih0 _ _ _ _ _ _ _ _ _ _ _ _ _ _)
   | (with_reducible exact ih1 _ _ _ _ _ _ _ _ _ _ _)
   | (with_reducible exact ih2 _ _ _ _)
   | (with_reducible exact laws_eqPuzzle.mono _ _ _ _ _)
   | (with_reducible exact laws_heldPuzzle.mono _ _ _ _)
   | (with_reducible exact laws_markPuzzle.mono _ _ _ _)
   | (with_reducible exact laws_toPuzzle.mono _ _ _)
   | (with_reducible exact spec_AddClue.mono _ _ _ _ _ _)
   | (with_reducible exact LeO.refl _)
   | (with_reducible exact LeO.none _)
   | (with_reducible refine LeO.ite ?_ ?_)
   | (with_reducible refine LeO.bind ?_ (fun _ => ?_))
   | exact ih0 _ _ _ _ _ _ _ _ _ _ _ _ _ _
   | exact ih1 _ _ _ _ _ _ _ _ _ _ _
   | exact ih2 _ _ _ _
   | exact laws_eqPuzzle.mono _ _ _ _ _
   | exact laws_heldPuzzle.mono _ _ _ _
   | exact laws_markPuzzle.mono _ _ _ _
   | exact laws_toPuzzle.mono _ _ _
   | exact spec_AddClue.mono _ _ _ _ _ _
   | exact LeO.none _
   | refine LeO.ite ?_ ?_
   | refine LeO.bind ?_ (fun _ => ?_)
theorem laws_FnExactAddClue.mono : ∀ a0 a1 a2 a3 a4 k, LeO (laws_FnExactAddClue.f k a0 a1 a2 a3 a4) (laws_FnExactAddClue.f (k + 1) a0 a1 a2 a3 a4) := by
 intro a0 a1 a2 a3 a4 k
 obtain ⟨ih0, ih1, ih2⟩ := laws_FnExactAddClue.mono_l k
 unfold laws_FnExactAddClue.f
 repeat' first
   | (with_reducible exact ih0 _ _ _ _ _ _ _ _ _ _ _ _ _ _)
   | (with_reducible exact ih1 _ _ _ _ _ _ _ _ _ _ _)
   | (with_reducible exact ih2 _ _ _ _)
   | (with_reducible exact laws_eqPuzzle.mono _ _ _ _ _)
   | (with_reducible exact laws_heldPuzzle.mono _ _ _ _)
   | (with_reducible exact laws_markPuzzle.mono _ _ _ _)
   | (with_reducible exact laws_toPuzzle.mono _ _ _)
   | (with_reducible exact spec_AddClue.mono _ _ _ _ _ _)
   | (with_reducible exact LeO.refl _)
   | (with_reducible exact LeO.none _)
   | (with_reducible refine LeO.ite ?_ ?_)
   | (with_reducible refine LeO.bind ?_ (fun _ => ?_))
   | exact ih0 _ _ _ _ _ _ _ _ _ _ _ _ _ _
   | exact ih1 _ _ _ _ _ _ _ _ _ _ _
   | exact ih2 _ _ _ _
   | exact laws_eqPuzzle.mono _ _ _ _ _
   | exact laws_heldPuzzle.mono _ _ _ _
   | exact laws_markPuzzle.mono _ _ _ _
   | exact laws_toPuzzle.mono _ _ _
   | exact spec_AddClue.mono _ _ _ _ _ _
   | exact LeO.none _
   | refine LeO.ite ?_ ?_
   | refine LeO.bind ?_ (fun _ => ?_)
def laws_FnExactAddClue.T5 : Bool × List (List Nat × List Nat) := (true, [([], []), ([0], [0]), ([], []), ([2, 1], [2]), ([1, 3, 3], [1, 3]), ([4], [4]), ([5], [5]), ([5], [5]), ([], []), ([8, 6, 4, 0, 1, 2, 3, 4, 5, 6, 8], [6, 8]), ([7, 9, 0, 1, 2, 3, 4, 5, 6, 7, 8, 9], [7])])
def laws_FnExactAddClue.B5 : List Nat := [0, 1, 0, 7, 15, 31, 63, 63, 0, 383, 1023]
theorem laws_FnExactAddClue.tab5 : rtab .any (opsOf Try.f3 5) = laws_FnExactAddClue.T5 := by kernel_rfl
theorem laws_FnExactAddClue.bits5 : waitsOk laws_FnExactAddClue.T5.2 laws_FnExactAddClue.B5 = true := by kernel_rfl
def laws_FnExactAddClue.T7 : Bool × List (List Nat × List Nat) := (true, [([], []), ([], []), ([1], [1]), ([0, 2, 2], [0, 2]), ([3], [3]), ([4], [4]), ([4], [4]), ([], []), ([7, 5, 3, 0, 1, 2, 3, 4, 5, 7], [5, 7]), ([6, 8, 0, 1, 2, 3, 4, 5, 6, 7, 8], [6])])
def laws_FnExactAddClue.B7 : List Nat := [0, 0, 2, 7, 15, 31, 31, 0, 191, 511]
theorem laws_FnExactAddClue.tab7 : rtab .any (opsOf Try.f3 7) = laws_FnExactAddClue.T7 := by kernel_rfl
theorem laws_FnExactAddClue.bits7 : waitsOk laws_FnExactAddClue.T7.2 laws_FnExactAddClue.B7 = true := by kernel_rfl
def laws_FnExactAddClue.T24 : Bool × List (List Nat × List Nat) := (true, [([], []), ([0], [0]), ([], []), ([2, 1], [2]), ([1, 3, 3], [1, 3]), ([4], [4]), ([5], [5]), ([5], [5]), ([], []), ([8, 6, 4, 0, 1, 2, 3, 4, 5, 6, 8], [6, 8]), ([7, 9, 0, 1, 2, 3, 4, 5, 6, 7, 8, 9], [7])])
def laws_FnExactAddClue.B24 : List Nat := [0, 1, 0, 7, 15, 31, 63, 63, 0, 383, 1023]
theorem laws_FnExactAddClue.tab24 : rtab .any (opsOf Try.f3 24) = laws_FnExactAddClue.T24 := by kernel_rfl
theorem laws_FnExactAddClue.bits24 : waitsOk laws_FnExactAddClue.T24.2 laws_FnExactAddClue.B24 = true := by kernel_rfl
set_option maxHeartbeats 8000000 in
set_option maxRecDepth 100000 in
theorem laws_FnExactAddClue.calls (k : Nat) (a0_0 : Int) (A0_1 : Option Addr) (c0_1 : Nat) (l0_1 : List (S26)) (a1_0 : Int) (a1_1 : Int) (a1_2 : Int) (r : Bool) (w : World) (hr0_1 : Kd.C k26 w A0_1 l0_1.length l0_1) (hc0_1 : l0_1.length ≤ c0_1) (h : laws_FnExactAddClue.f k a0_0 l0_1 a1_0 a1_1 a1_2 = some r) :
  Calls Try.prog 3 #[.agg #[.int .i64 a0_0, .slice A0_1 l0_1.length c0_1], .agg #[.int .i64 a1_0, .int .i64 a1_1, .int .i64 a1_2]] w fun e w' => e = .returned (.bool r) ∧ Below w.heap.size w w' := by
 have hu24 := Try.underlying24
 have hu26 := Try.underlying26
 have hu30 := Try.underlying30
 have HR0_1 := Aside0.mk hr0_1
 have HC0_1 := Aside0.mk hc0_1
 clear hr0_1 hc0_1
 have HB := Aside0.mk (Below.refl w.heap.size w)
 have H : ((laws_szPuzzle.f a0_0 l0_1 1048576).bind fun t196 => (if t196 < 0 then (some true) else ((laws_toPuzzle.f k a0_0 l0_1).bind fun bt197 => ((laws_toClue.f a1_0 a1_1 a1_2).bind fun bt201 => ((spec_AddClue.f k bt197.1 bt197.2 bt201.1 bt201.2.1 bt201.2.2).bind fun bt204 => ((laws_toPuzzle.f k a0_0 l0_1).bind fun bt210 => ((laws_toClue.f a1_0 a1_1 a1_2).bind fun bt215 => ((impl_AddClue.f bt210.1 bt210.2 bt215.1 bt215.2.1 bt215.2.2).bind fun bt218 => ((laws_eqPuzzle.f k bt218.1 bt218.2.1 bt204.1 bt204.2.1).bind fun t224 => (if t224 = true then (laws_FnExactAddClue.j0 k bt204.2.2 bt218.2.2 (bt218.2.2 != bt204.2.2) a0_0 l0_1 a1_0 a1_1 a1_2 bt204.1 bt204.2.1 bt210.1 bt210.2 bt218.1 bt218.2.1) else (laws_FnExactAddClue.j0 k bt204.2.2 bt218.2.2 true a0_0 l0_1 a1_0 a1_1 a1_2 bt204.1 bt204.2.1 bt210.1 bt210.2 bt218.1 bt218.2.1))))))))))) = some r := h
 clear h
 replace H := Option.bind_eq_some_iff.mp H
 obtain ⟨t196, A30, H⟩ := H
 replace H : (if t196 < 0 then (some true) else ((laws_toPuzzle.f k a0_0 l0_1).bind fun bt197 => ((laws_toClue.f a1_0 a1_1 a1_2).bind fun bt201 => ((spec_AddClue.f k bt197.1 bt197.2 bt201.1 bt201.2.1 bt201.2.2).bind fun bt204 => ((laws_toPuzzle.f k a0_0 l0_1).bind fun bt210 => ((laws_toClue.f a1_0 a1_1 a1_2).bind fun bt215 => ((impl_AddClue.f bt210.1 bt210.2 bt215.1 bt215.2.1 bt215.2.2).bind fun bt218 => ((laws_eqPuzzle.f k bt218.1 bt218.2.1 bt204.1 bt204.2.1).bind fun t224 => (if t224 = true then (laws_FnExactAddClue.j0 k bt204.2.2 bt218.2.2 (bt218.2.2 != bt204.2.2) a0_0 l0_1 a1_0 a1_1 a1_2 bt204.1 bt204.2.1 bt210.1 bt210.2 bt218.1 bt218.2.1) else (laws_FnExactAddClue.j0 k bt204.2.2 bt218.2.2 true a0_0 l0_1 a1_0 a1_1 a1_2 bt204.1 bt204.2.1 bt210.1 bt210.2 bt218.1 bt218.2.1)))))))))) = some r := H
 have A3 := Aside0.mk A30
 clear A30
 by_cases c4 : t196 < 0
 ·
  rw [if_pos c4] at H
  have c4b0 : decide (t196 < 0) = true := decide_eq_true c4
  clear c4
  obtain rfl := Option.some.inj H
  go_enter Try.func3, Try.ntmps3
  go_wp2_with (first | ((with_reducible refine gate_dst (N := 2) rfl ?_); refine box_event ?hg (N := 2) ?hd (cs := #[.int .i64 a0_0, .slice A0_1 l0_1.length c0_1]) (t := 24) ?hr ?_; (case hd => rfl); (case hg => rfl); (case hr => first | (go_simp; done) | (go_simp; rfl)); intro gb194 hg w5 hbox hb; have n0_ := Aside0.mk (below_step (qw HB) hb); have n1_ := Aside0.mk (hbox); have n2_ := Aside0.mk ((by rw [hg]; exact (below_size (qw HB)) : w.heap.size ≤ gb194)); have n3_ := Aside0.mk ((by rw [hg]; exact (below_size (qw HB)) : w.heap.size ≤ gb194)); clear HB; have HB := n0_; have BK194 := n1_; have GW194 := n2_; have GE194 := n3_; clear n0_ n1_ n2_ n3_; clear hb hbox hg) | ((with_reducible refine gate_dst (N := 3) rfl ?_); refine box_event ?hg (N := 3) ?hd (cs := #[.int .i64 a1_0, .int .i64 a1_1, .int .i64 a1_2]) (t := 26) ?hr ?_; (case hd => rfl); (case hg => rfl); (case hr => first | (go_simp; done) | (go_simp; rfl)); intro gb195 hg w6 hbox hb; have n0_ := qbb BK194 hb; have n1_ := Aside0.mk (below_step (qw HB) hb); have n2_ := Aside0.mk (hbox); have n3_ := Aside0.mk ((by rw [hg]; exact (below_size (qw HB)) : w.heap.size ≤ gb195)); have n4_ := Aside0.mk ((by rw [hg]; exact (below_size (qw HB)) : w.heap.size ≤ gb195)); have n5_ := Aside0.mk ((by rw [hg]; exact Nat.ne_of_lt (blk_lt (qb BK194)) : gb194 ≠ gb195)); have n6_ := Aside0.mk ((by rw [hg]; exact Nat.ne_of_gt (blk_lt (qb BK194)) : gb195 ≠ gb194)); clear BK194; clear HB; have BK194 := n0_; have HB := n1_; have BK195 := n2_; have GW195 := n3_; have GE195 := n4_; have NB194_195 := n5_; have NB195_194 := n6_; clear n0_ n1_ n2_ n3_ n4_ n5_ n6_; clear hb hbox hg; have hnb7 := NB194_195.out; have hnc7 := NB195_194.out; have hcz8_0 : w6.cell? ⟨gb194, 0, none⟩ = some (.int .i64 a0_0) := bc BK194 0; have hcz8_1 : w6.cell? ⟨gb194, 1, none⟩ = some (.slice A0_1 l0_1.length c0_1) := bc BK194 1; have hfz8_0 := blk_frozen BK194.out 0; have hfz8_1 := blk_frozen BK194.out 1) | ((with_reducible refine gate_callee (f := 5) rfl ?_); refine goesL_ (some 18) rfl rfl Try.func5 (by kernel_rfl) rfl #[.agg #[.int .i64 a0_0, .slice A0_1 l0_1.length c0_1], .int .i64 1048576] rfl (by (try simp only [List.map_toArray, List.map_cons, List.map_nil]); first | done | rfl | (simp only [List.length_drop, List.length_take]; rfl)) ?_; (with_reducible refine (laws_szPuzzle.calls a0_0 _ _ l0_1 1048576 t196 _ ?side1 ?side2 A3.out).mono ?_); (case side1 => repeat (first | exact (Kd.C_below HR0_1.out HB.out) | (with_reducible refine Kd.C_alloc ?_ _) | (with_reducible refine Kd.C_drewN ?_ _) | (with_reducible refine Kd.C_drew ?_))); (case side2 => exact HC0_1.out); rintro e w9 ⟨rfl, hb⟩; refine ⟨_, rfl, ?_⟩; have n0_ := qbb BK194 hb; have n1_ := qbb BK195 hb; have n2_ := Aside0.mk (below_step (qw HB) hb); clear BK194; clear BK195; clear HB; have BK194 := n0_; have BK195 := n1_; have HB := n2_; clear n0_ n1_ n2_; (try clear hb); (try clear hb2); (try clear hk); (try clear hi)))
  go_ret
  exact ⟨by first | rfl | (simp [errW_none, errW_some] <;> rfl) | (simp [*, errW_none, errW_some] <;> rfl), qw HB⟩
 ·
  rw [if_neg c4] at H
  have c4b0 : decide (t196 < 0) = false := decide_eq_false c4
  clear c4
  replace H := Option.bind_eq_some_iff.mp H
  obtain ⟨⟨t197, t198⟩, A100, H⟩ := H
  replace H : ((laws_toClue.f a1_0 a1_1 a1_2).bind fun bt201 => ((spec_AddClue.f k t197 t198 bt201.1 bt201.2.1 bt201.2.2).bind fun bt204 => ((laws_toPuzzle.f k a0_0 l0_1).bind fun bt210 => ((laws_toClue.f a1_0 a1_1 a1_2).bind fun bt215 => ((impl_AddClue.f bt210.1 bt210.2 bt215.1 bt215.2.1 bt215.2.2).bind fun bt218 => ((laws_eqPuzzle.f k bt218.1 bt218.2.1 bt204.1 bt204.2.1).bind fun t224 => (if t224 = true then (laws_FnExactAddClue.j0 k bt204.2.2 bt218.2.2 (bt218.2.2 != bt204.2.2) a0_0 l0_1 a1_0 a1_1 a1_2 bt204.1 bt204.2.1 bt210.1 bt210.2 bt218.1 bt218.2.1) else (laws_FnExactAddClue.j0 k bt204.2.2 bt218.2.2 true a0_0 l0_1 a1_0 a1_1 a1_2 bt204.1 bt204.2.1 bt210.1 bt210.2 bt218.1 bt218.2.1)))))))) = some r := H
  have A10 := Aside0.mk A100
  clear A100
  replace H := Option.bind_eq_some_iff.mp H
  obtain ⟨⟨t201, t202, t203⟩, A110, H⟩ := H
  replace H : ((spec_AddClue.f k t197 t198 t201 t202 t203).bind fun bt204 => ((laws_toPuzzle.f k a0_0 l0_1).bind fun bt210 => ((laws_toClue.f a1_0 a1_1 a1_2).bind fun bt215 => ((impl_AddClue.f bt210.1 bt210.2 bt215.1 bt215.2.1 bt215.2.2).bind fun bt218 => ((laws_eqPuzzle.f k bt218.1 bt218.2.1 bt204.1 bt204.2.1).bind fun t224 => (if t224 = true then (laws_FnExactAddClue.j0 k bt204.2.2 bt218.2.2 (bt218.2.2 != bt204.2.2) a0_0 l0_1 a1_0 a1_1 a1_2 bt204.1 bt204.2.1 bt210.1 bt210.2 bt218.1 bt218.2.1) else (laws_FnExactAddClue.j0 k bt204.2.2 bt218.2.2 true a0_0 l0_1 a1_0 a1_1 a1_2 bt204.1 bt204.2.1 bt210.1 bt210.2 bt218.1 bt218.2.1))))))) = some r := H
  have A11 := Aside0.mk A110
  clear A110
  replace H := Option.bind_eq_some_iff.mp H
  obtain ⟨⟨t204, t205, t208⟩, A120, H⟩ := H
  replace H : ((laws_toPuzzle.f k a0_0 l0_1).bind fun bt210 => ((laws_toClue.f a1_0 a1_1 a1_2).bind fun bt215 => ((impl_AddClue.f bt210.1 bt210.2 bt215.1 bt215.2.1 bt215.2.2).bind fun bt218 => ((laws_eqPuzzle.f k bt218.1 bt218.2.1 t204 t205).bind fun t224 => (if t224 = true then (laws_FnExactAddClue.j0 k t208 bt218.2.2 (bt218.2.2 != t208) a0_0 l0_1 a1_0 a1_1 a1_2 t204 t205 bt210.1 bt210.2 bt218.1 bt218.2.1) else (laws_FnExactAddClue.j0 k t208 bt218.2.2 true a0_0 l0_1 a1_0 a1_1 a1_2 t204 t205 bt210.1 bt210.2 bt218.1 bt218.2.1)))))) = some r := H
  have A12 := Aside0.mk A120
  clear A120
  replace H := Option.bind_eq_some_iff.mp H
  obtain ⟨⟨t210, t211⟩, A130, H⟩ := H
  replace H : ((laws_toClue.f a1_0 a1_1 a1_2).bind fun bt215 => ((impl_AddClue.f t210 t211 bt215.1 bt215.2.1 bt215.2.2).bind fun bt218 => ((laws_eqPuzzle.f k bt218.1 bt218.2.1 t204 t205).bind fun t224 => (if t224 = true then (laws_FnExactAddClue.j0 k t208 bt218.2.2 (bt218.2.2 != t208) a0_0 l0_1 a1_0 a1_1 a1_2 t204 t205 t210 t211 bt218.1 bt218.2.1) else (laws_FnExactAddClue.j0 k t208 bt218.2.2 true a0_0 l0_1 a1_0 a1_1 a1_2 t204 t205 t210 t211 bt218.1 bt218.2.1))))) = some r := H
  have A13 := Aside0.mk A130
  clear A130
  replace H := Option.bind_eq_some_iff.mp H
  obtain ⟨⟨t215, t216, t217⟩, A140, H⟩ := H
  replace H : ((impl_AddClue.f t210 t211 t215 t216 t217).bind fun bt218 => ((laws_eqPuzzle.f k bt218.1 bt218.2.1 t204 t205).bind fun t224 => (if t224 = true then (laws_FnExactAddClue.j0 k t208 bt218.2.2 (bt218.2.2 != t208) a0_0 l0_1 a1_0 a1_1 a1_2 t204 t205 t210 t211 bt218.1 bt218.2.1) else (laws_FnExactAddClue.j0 k t208 bt218.2.2 true a0_0 l0_1 a1_0 a1_1 a1_2 t204 t205 t210 t211 bt218.1 bt218.2.1)))) = some r := H
  have A14 := Aside0.mk A140
  clear A140
  replace H := Option.bind_eq_some_iff.mp H
  obtain ⟨⟨t218, t219, t222⟩, A150, H⟩ := H
  replace H : ((laws_eqPuzzle.f k t218 t219 t204 t205).bind fun t224 => (if t224 = true then (laws_FnExactAddClue.j0 k t208 t222 (t222 != t208) a0_0 l0_1 a1_0 a1_1 a1_2 t204 t205 t210 t211 t218 t219) else (laws_FnExactAddClue.j0 k t208 t222 true a0_0 l0_1 a1_0 a1_1 a1_2 t204 t205 t210 t211 t218 t219))) = some r := H
  have A15 := Aside0.mk A150
  clear A150
  have HC16 := Aside0.mk H
  clear H
  go_enter Try.func3, Try.ntmps3
  try go_wp2_with (first | ((with_reducible refine gate_dst (N := 2) rfl ?_); refine box_event ?hg (N := 2) ?hd (cs := #[.int .i64 a0_0, .slice A0_1 l0_1.length c0_1]) (t := 24) ?hr ?_; (case hd => rfl); (case hg => rfl); (case hr => first | (go_simp; done) | (go_simp; rfl)); intro gb194 hg w17 hbox hb; have n0_ := Aside0.mk (below_step (qw HB) hb); have n1_ := Aside0.mk (hbox); have n2_ := Aside0.mk ((by rw [hg]; exact (below_size (qw HB)) : w.heap.size ≤ gb194)); have n3_ := Aside0.mk ((by rw [hg]; exact (below_size (qw HB)) : w.heap.size ≤ gb194)); clear HB; have HB := n0_; have BK194 := n1_; have GW194 := n2_; have GE194 := n3_; clear n0_ n1_ n2_ n3_; clear hb hbox hg) | ((with_reducible refine gate_dst (N := 3) rfl ?_); refine box_event ?hg (N := 3) ?hd (cs := #[.int .i64 a1_0, .int .i64 a1_1, .int .i64 a1_2]) (t := 26) ?hr ?_; (case hd => rfl); (case hg => rfl); (case hr => first | (go_simp; done) | (go_simp; rfl)); intro gb195 hg w18 hbox hb; have n0_ := qbb BK194 hb; have n1_ := Aside0.mk (below_step (qw HB) hb); have n2_ := Aside0.mk (hbox); have n3_ := Aside0.mk ((by rw [hg]; exact (below_size (qw HB)) : w.heap.size ≤ gb195)); have n4_ := Aside0.mk ((by rw [hg]; exact (below_size (qw HB)) : w.heap.size ≤ gb195)); have n5_ := Aside0.mk ((by rw [hg]; exact Nat.ne_of_lt (blk_lt (qb BK194)) : gb194 ≠ gb195)); have n6_ := Aside0.mk ((by rw [hg]; exact Nat.ne_of_gt (blk_lt (qb BK194)) : gb195 ≠ gb194)); clear BK194; clear HB; have BK194 := n0_; have HB := n1_; have BK195 := n2_; have GW195 := n3_; have GE195 := n4_; have NB194_195 := n5_; have NB195_194 := n6_; clear n0_ n1_ n2_ n3_ n4_ n5_ n6_; clear hb hbox hg; have hnb19 := NB194_195.out; have hnc19 := NB195_194.out; have hcz20_0 : w18.cell? ⟨gb194, 0, none⟩ = some (.int .i64 a0_0) := bc BK194 0; have hcz20_1 : w18.cell? ⟨gb194, 1, none⟩ = some (.slice A0_1 l0_1.length c0_1) := bc BK194 1; have hfz20_0 := blk_frozen BK194.out 0; have hfz20_1 := blk_frozen BK194.out 1) | ((with_reducible refine gate_callee (f := 5) rfl ?_); refine goesL_ (some 18) rfl rfl Try.func5 (by kernel_rfl) rfl #[.agg #[.int .i64 a0_0, .slice A0_1 l0_1.length c0_1], .int .i64 1048576] rfl (by (try simp only [List.map_toArray, List.map_cons, List.map_nil]); first | done | rfl | (simp only [List.length_drop, List.length_take]; rfl)) ?_; (with_reducible refine (laws_szPuzzle.calls a0_0 _ _ l0_1 1048576 t196 _ ?side1 ?side2 A3.out).mono ?_); (case side1 => repeat (first | exact (Kd.C_below HR0_1.out HB.out) | (with_reducible refine Kd.C_alloc ?_ _) | (with_reducible refine Kd.C_drewN ?_ _) | (with_reducible refine Kd.C_drew ?_))); (case side2 => exact HC0_1.out); rintro e w21 ⟨rfl, hb⟩; refine ⟨_, rfl, ?_⟩; have n0_ := qbb BK194 hb; have n1_ := qbb BK195 hb; have n2_ := Aside0.mk (below_step (qw HB) hb); clear BK194; clear BK195; clear HB; have BK194 := n0_; have BK195 := n1_; have HB := n2_; clear n0_ n1_ n2_; (try clear hb); (try clear hb2); (try clear hk); (try clear hi)))
  have n0_ := Aside0.mk (blk_drew BK194.out)
  have n1_ := Aside0.mk (blk_drew BK195.out)
  have n2_ := Aside0.mk (below_drew1 HB.out)
  clear BK194
  clear BK195
  clear HB
  have BK194 := n0_
  have BK195 := n1_
  have HB := n2_
  clear n0_ n1_ n2_
  refine start_ (n := 11) (S := fun w' => w'.cell? ⟨gb194, 0, none⟩ = some (.int .i64 a0_0) ∧ w'.cell? ⟨gb194, 1, none⟩ = some (.slice A0_1 l0_1.length c0_1) ∧ w'.cell? ⟨gb195, 0, none⟩ = some (.int .i64 a1_0) ∧ w'.cell? ⟨gb195, 1, none⟩ = some (.int .i64 a1_1) ∧ w'.cell? ⟨gb195, 2, none⟩ = some (.int .i64 a1_2)) (ds := []) #[false, false, false, false, false, false, false, false, false, false, false] (by kernel_rfl) rfl rfl ⟨bc BK194 0, bc BK194 1, bc BK195 0, bc BK195 1, bc BK195 2⟩ (fun hHeld => ?_); refine with_tabW laws_FnExactAddClue.tab5 laws_FnExactAddClue.bits5 (fun HT_ HW_ => ?_)
  generalize w21.drew = w22 at BK194 BK195 HB hHeld ⊢
  refine take_ (i := 0) (N := some 22) (v := ?_) (a' := ?_) #[true, false, false, false, false, false, false, false, false, false, false] rfl rfl (take_ofW HT_.out HW_.out (by kernel_rfl)) (fun _ _ _ h => h) (Or.inl ⟨by rfl, ?_⟩) hHeld ?_ ?_
  rotate_left
  ·
   rintro w' ⟨s0, s1, s2, s3, s4⟩
   go_simp
   with_reducible rfl
  rotate_left
  ·
   simp only [Act.put, List.setIfInBounds_toArray, List.set_cons_zero, List.set_cons_succ, i64_w, i32_w]
   rfl
  refine take_ (i := 2) (N := some 24) (v := ?_) (a' := ?_) #[true, false, true, false, false, false, false, false, false, false, false] rfl rfl (take_ofW HT_.out HW_.out (by kernel_rfl)) (fun _ _ _ h => h) (Or.inl ⟨by rfl, ?_⟩) hHeld ?_ ?_
  rotate_left
  ·
   rintro w' ⟨s0, s1, s2, s3, s4⟩
   go_simp
   with_reducible rfl
  rotate_left
  ·
   simp only [Act.put, List.setIfInBounds_toArray, List.set_cons_zero, List.set_cons_succ, i64_w, i32_w]
   rfl
  refine join_ (σ := Value × Value × Nat) 2 #[true, true, true, true, true, true, true, true, true, false, false] (fun s_ => [(23, .agg #[.int .i64 t197, s_.1]), (25, .agg #[.int .i64 t201, .int .i64 t202, .int .i64 t203]), (26, .tuple #[.agg #[.int .i64 t204, s_.2.1], .bool t208]), (6, .pointer (some ⟨s_.2.2, 0, none⟩)), (21, .tuple #[.agg #[.int .i64 t204, s_.2.1], .bool t208]), (27, .agg #[.int .i64 t204, s_.2.1]), (28, .bool t208)]) (fun s_ w' => (w'.cell? ⟨gb194, 0, none⟩ = some (.int .i64 a0_0) ∧ w'.cell? ⟨gb194, 1, none⟩ = some (.slice A0_1 l0_1.length c0_1) ∧ w'.cell? ⟨gb195, 0, none⟩ = some (.int .i64 a1_0) ∧ w'.cell? ⟨gb195, 1, none⟩ = some (.int .i64 a1_1) ∧ w'.cell? ⟨gb195, 2, none⟩ = some (.int .i64 a1_2)) ∧ (Kd.R k34 34 w' w.heap.size (fun k_ => some k_ ≠ (s_.2.1 : Value).ownBlock) s_.1 t198) ∧ (Kd.R k34 34 w' w.heap.size (fun k_ => some k_ ≠ (s_.1 : Value).ownBlock) s_.2.1 t205) ∧ (w'.heap[gb194]? = some (.cells #[.int .i64 a0_0, .slice A0_1 l0_1.length c0_1] 24 (0, 0))) ∧ (w'.heap[gb195]? = some (.cells #[.int .i64 a1_0, .int .i64 a1_1, .int .i64 a1_2] 26 (0, 0))) ∧ (w'.heap[s_.2.2]? = some (.cells #[.int .i64 0, .slice none 0 0] 30 (0, 0))) ∧ (w.heap.size ≤ s_.2.2) ∧ (w.heap.size ≤ s_.2.2) ∧ (gb194 ≠ s_.2.2) ∧ (s_.2.2 ≠ gb194) ∧ (gb195 ≠ s_.2.2) ∧ (s_.2.2 ≠ gb195) ∧ (Below w.heap.size w w')) ?_ ?_
  rotate_left
  ·
   intro hCont
   refine two_ (i := 1) (j := 8) (Ni := some 23) (Nj := some 6) #[true, true, true, false, false, false, false, false, false, false, false] #[true, false, true, false, false, false, false, false, true, false, false] rfl rfl rfl rfl (two_of HT_.out (by kernel_rfl)) (by decide) (by decide) (fun K hK => ?_) (fun K hK => ?_)
   ·
    skip
    refine goes_ Try.func7 (by kernel_rfl) rfl #[.agg #[.int .i64 a0_0, .slice A0_1 l0_1.length c0_1]] (by rfl) rfl rfl (by (try simp only [List.map_toArray, List.map_cons, List.map_nil]); first | done | rfl | (simp only [List.length_drop, List.length_take]; rfl)) ?_
    with_reducible refine (laws_toPuzzle.calls k a0_0 _ _ l0_1 t197 t198 _ ?side1 ?side2 A10.out).mono ?_
    (case side1 => repeat (first | exact (Kd.C_below HR0_1.out HB.out) | (with_reducible refine Kd.C_alloc ?_ _) | (with_reducible refine Kd.C_drewN ?_ _) | (with_reducible refine Kd.C_drew ?_)))
    (case side2 => exact HC0_1.out)
    rintro e w23 ⟨v199, rfl, ho0, hb⟩
    refine ⟨_, rfl, ?_⟩
    have n0_ := Aside0.mk (Kd.R_lower ho0 (below_size (qw HB)))
    have n1_ := qbb BK194 hb
    have n2_ := qbb BK195 hb
    have n3_ := Aside0.mk (below_step (qw HB) hb)
    clear BK194
    clear BK195
    clear HB
    have HO200 := n0_
    have BK194 := n1_
    have BK195 := n2_
    have HB := n3_
    clear n0_ n1_ n2_ n3_
    (try clear hb)
    (try clear hb2)
    (try clear hk)
    (try clear hi)
    (try clear ho0)
    refine hK.out _ _ ⟨bc BK194 0, bc BK194 1, bc BK195 0, bc BK195 1, bc BK195 2⟩ (fun hHeld => ?_)
    clear hK K
    refine norm_ (a' := ?_) ?_ ?_
    rotate_left
    ·
     show Act.put _ (some 23) _ = _
     simp only [Act.put, List.setIfInBounds_toArray, List.set_cons_zero, List.set_cons_succ, i64_w, i32_w]
     rfl
    refine two_ (i := 3) (j := 8) (Ni := some 25) (Nj := some 6) #[true, true, true, true, false, false, false, false, false, false, false] #[true, true, true, false, false, false, false, false, true, false, false] rfl rfl rfl rfl (two_of HT_.out (by kernel_rfl)) (by decide) (by decide) (fun K hK => ?_) (fun K hK => ?_)
    ·
     skip
     refine goes_ Try.func8 (by kernel_rfl) rfl #[.agg #[.int .i64 a1_0, .int .i64 a1_1, .int .i64 a1_2]] (by rfl) rfl rfl (by (try simp only [List.map_toArray, List.map_cons, List.map_nil]); first | done | rfl | (simp only [List.length_drop, List.length_take]; rfl)) ?_
     with_reducible refine (laws_toClue.calls a1_0 a1_1 a1_2 t201 t202 t203 _ A11.out).mono ?_
     rintro e w24 ⟨rfl, hb⟩
     refine ⟨_, rfl, ?_⟩
     have n0_ := Aside0.mk (Kd.R_below (qr HO200.out) hb)
     have n1_ := qbb BK194 hb
     have n2_ := qbb BK195 hb
     have n3_ := Aside0.mk (below_step (qw HB) hb)
     clear HO200
     clear BK194
     clear BK195
     clear HB
     have HO200 := n0_
     have BK194 := n1_
     have BK195 := n2_
     have HB := n3_
     clear n0_ n1_ n2_ n3_
     (try clear hb)
     (try clear hb2)
     (try clear hk)
     (try clear hi)
     obtain ⟨Ao25, co25, eo25⟩ := Kd.R_slice HO200.out
     (first | subst eo25 | (injection eo25 with f1_ f2_ f3_; have f4_ := f1_.symm; have f5_ := f3_.symm; clear f1_ f2_ f3_; subst f4_; subst f5_))
     refine hK.out _ _ ⟨bc BK194 0, bc BK194 1, bc BK195 0, bc BK195 1, bc BK195 2⟩ (fun hHeld => ?_)
     clear hK K
     refine norm_ (a' := ?_) ?_ ?_
     rotate_left
     ·
      show Act.put _ (some 25) _ = _
      simp only [Act.put, List.setIfInBounds_toArray, List.set_cons_zero, List.set_cons_succ, i64_w, i32_w]
      rfl
     refine two_ (i := 4) (j := 8) (Ni := some 26) (Nj := some 6) #[true, true, true, true, true, false, false, false, false, false, false] #[true, true, true, true, false, false, false, false, true, false, false] rfl rfl rfl rfl (two_of HT_.out (by kernel_rfl)) (by decide) (by decide) (fun K hK => ?_) (fun K hK => ?_)
     ·
      skip
      refine goes_ Try.func6 (by kernel_rfl) rfl #[.agg #[.int .i64 t197, .slice Ao25 t198.length co25], .agg #[.int .i64 t201, .int .i64 t202, .int .i64 t203]] (by rfl) rfl rfl (by (try simp only [List.map_toArray, List.map_cons, List.map_nil]); first | done | rfl | (simp only [List.length_drop, List.length_take]; rfl)) ?_
      with_reducible refine (spec_AddClue.calls k t197 _ _ t198 t201 t202 t203 t204 t205 t208 _ ?side1 ?side2 A12.out).mono ?_
      (case side1 => repeat (first | exact (Kd.R_reads' HO200.out).2.2 | (with_reducible refine Kd.C_alloc ?_ _) | (with_reducible refine Kd.C_drewN ?_ _) | (with_reducible refine Kd.C_drew ?_)))
      (case side2 => exact (Kd.R_reads' HO200.out).2.1)
      rintro e w26 ⟨v206, rfl, ho0, hb⟩
      refine ⟨_, rfl, ?_⟩
      have n0_ := Aside0.mk (Kd.R_elder' (qr HO200.out) (Kd.R_base ho0) hb)
      have n1_ := Aside0.mk (Kd.R_lower (Kd.R_new' ho0 (Kd.R_lt (qr HO200.out))) (below_size (qw HB)))
      have n2_ := qbb BK194 hb
      have n3_ := qbb BK195 hb
      have n4_ := Aside0.mk (below_step (qw HB) hb)
      clear HO200
      clear BK194
      clear BK195
      clear HB
      have HO200 := n0_
      have HO207 := n1_
      have BK194 := n2_
      have BK195 := n3_
      have HB := n4_
      clear n0_ n1_ n2_ n3_ n4_
      (try clear hb)
      (try clear hb2)
      (try clear hk)
      (try clear hi)
      (try clear ho0)
      refine hK.out _ _ ⟨bc BK194 0, bc BK194 1, bc BK195 0, bc BK195 1, bc BK195 2⟩ (fun hHeld => ?_)
      clear hK K
      refine norm_ (a' := ?_) ?_ ?_
      rotate_left
      ·
       show Act.put _ (some 26) _ = _
       simp only [Act.put, List.setIfInBounds_toArray, List.set_cons_zero, List.set_cons_succ, i64_w, i32_w]
       rfl
      refine pure_ (i := 5) (N := some 21) (v := ?_) (a' := ?_) #[true, true, true, true, true, true, false, false, false, false, false] rfl rfl (any_of HT_.out (by kernel_rfl)) (fun _ _ _ h => h) (Or.inl ⟨by rfl, ?_⟩) ?_ ?_
      rotate_left
      ·
       intro w'
       go_simp
       with_reducible rfl
      rotate_left
      ·
       simp only [Act.put, List.setIfInBounds_toArray, List.set_cons_zero, List.set_cons_succ, i64_w, i32_w]
       rfl
      refine pure_ (i := 6) (N := some 27) (v := ?_) (a' := ?_) #[true, true, true, true, true, true, true, false, false, false, false] rfl rfl (any_of HT_.out (by kernel_rfl)) (fun _ _ _ h => h) (Or.inl ⟨by rfl, ?_⟩) ?_ ?_
      rotate_left
      ·
       intro w'
       go_simp
       with_reducible rfl
      rotate_left
      ·
       simp only [Act.put, List.setIfInBounds_toArray, List.set_cons_zero, List.set_cons_succ, i64_w, i32_w]
       rfl
      refine pure_ (i := 7) (N := some 28) (v := ?_) (a' := ?_) #[true, true, true, true, true, true, true, true, false, false, false] rfl rfl (any_of HT_.out (by kernel_rfl)) (fun _ _ _ h => h) (Or.inl ⟨by rfl, ?_⟩) ?_ ?_
      rotate_left
      ·
       intro w'
       go_simp
       with_reducible rfl
      rotate_left
      ·
       simp only [Act.put, List.setIfInBounds_toArray, List.set_cons_zero, List.set_cons_succ, i64_w, i32_w]
       rfl
      refine one_ (i := 8) (N := some 6) #[true, true, true, true, true, true, true, true, true, false, false] rfl rfl (one_of HT_.out (by kernel_rfl)) (by decide) (fun K hK => ?_)
      refine box_step ?hg (N := 6) ?hd (cs := #[.int .i64 0, .slice none 0 0]) (t := 30) ?hr ?_; (case hd => rfl); (case hg => rfl); (case hr => first | (go_simp; done) | (go_simp; rfl))
      intro gb209 hg w27 hbox hb
      have n0_ := Aside0.mk (Kd.R_below (qr HO200.out) hb)
      have n1_ := Aside0.mk (Kd.R_below (qr HO207.out) hb)
      have n2_ := qbb BK194 hb
      have n3_ := qbb BK195 hb
      have n4_ := Aside0.mk (below_step (qw HB) hb)
      have n5_ := Aside0.mk (hbox)
      have n6_ := Aside0.mk ((by rw [hg]; exact (below_size (qw HB)) : w.heap.size ≤ gb209))
      have n7_ := Aside0.mk ((by rw [hg]; exact (below_size (qw HB)) : w.heap.size ≤ gb209))
      have n8_ := Aside0.mk ((by rw [hg]; exact Nat.ne_of_lt (blk_lt (qb BK194)) : gb194 ≠ gb209))
      have n9_ := Aside0.mk ((by rw [hg]; exact Nat.ne_of_gt (blk_lt (qb BK194)) : gb209 ≠ gb194))
      have n10_ := Aside0.mk ((by rw [hg]; exact Nat.ne_of_lt (blk_lt (qb BK195)) : gb195 ≠ gb209))
      have n11_ := Aside0.mk ((by rw [hg]; exact Nat.ne_of_gt (blk_lt (qb BK195)) : gb209 ≠ gb195))
      clear HO200
      clear HO207
      clear BK194
      clear BK195
      clear HB
      have HO200 := n0_
      have HO207 := n1_
      have BK194 := n2_
      have BK195 := n3_
      have HB := n4_
      have BK209 := n5_
      have GW209 := n6_
      have GE209 := n7_
      have NB194_209 := n8_
      have NB209_194 := n9_
      have NB195_209 := n10_
      have NB209_195 := n11_
      clear n0_ n1_ n2_ n3_ n4_ n5_ n6_ n7_ n8_ n9_ n10_ n11_
      clear hb hbox hg
      refine hK.out _ _ ⟨bc BK194 0, bc BK194 1, bc BK195 0, bc BK195 1, bc BK195 2⟩ (fun hHeld => ?_)
      clear hK K
      refine norm_ (a' := ?_) ?_ ?_
      rotate_left
      ·
       show Act.put _ (some 6) _ = _
       simp only [Act.put, List.setIfInBounds_toArray, List.set_cons_zero, List.set_cons_succ, i64_w, i32_w]
       rfl
      exact norm_ (by simp only [putAll, Act.put, List.setIfInBounds_toArray, List.set_cons_zero, List.set_cons_succ]) (hCont (.slice Ao25 t198.length co25, v206, gb209) _ ⟨hHeld, (qr (Kd.R_mono HO200.out (fun _ hk => hk.2))), (qr (Kd.R_mono HO207.out (fun _ hk => hk.2))), (qb BK194), (qb BK195), (qb BK209), GW209.out, GE209.out, NB194_209.out, NB209_194.out, NB195_209.out, NB209_195.out, (qw HB)⟩)
     ·
      skip
      refine box_step ?hg (N := 6) ?hd (cs := #[.int .i64 0, .slice none 0 0]) (t := 30) ?hr ?_; (case hd => rfl); (case hg => rfl); (case hr => first | (go_simp; done) | (go_simp; rfl))
      intro gb209 hg w25 hbox hb
      have n0_ := Aside0.mk (Kd.R_below (qr HO200.out) hb)
      have n1_ := qbb BK194 hb
      have n2_ := qbb BK195 hb
      have n3_ := Aside0.mk (below_step (qw HB) hb)
      have n4_ := Aside0.mk (hbox)
      have n5_ := Aside0.mk ((by rw [hg]; exact (below_size (qw HB)) : w.heap.size ≤ gb209))
      have n6_ := Aside0.mk ((by rw [hg]; exact (below_size (qw HB)) : w.heap.size ≤ gb209))
      have n7_ := Aside0.mk ((by rw [hg]; exact Nat.ne_of_lt (blk_lt (qb BK194)) : gb194 ≠ gb209))
      have n8_ := Aside0.mk ((by rw [hg]; exact Nat.ne_of_gt (blk_lt (qb BK194)) : gb209 ≠ gb194))
      have n9_ := Aside0.mk ((by rw [hg]; exact Nat.ne_of_lt (blk_lt (qb BK195)) : gb195 ≠ gb209))
      have n10_ := Aside0.mk ((by rw [hg]; exact Nat.ne_of_gt (blk_lt (qb BK195)) : gb209 ≠ gb195))
      clear HO200
      clear BK194
      clear BK195
      clear HB
      have HO200 := n0_
      have BK194 := n1_
      have BK195 := n2_
      have HB := n3_
      have BK209 := n4_
      have GW209 := n5_
      have GE209 := n6_
      have NB194_209 := n7_
      have NB209_194 := n8_
      have NB195_209 := n9_
      have NB209_195 := n10_
      clear n0_ n1_ n2_ n3_ n4_ n5_ n6_ n7_ n8_ n9_ n10_
      clear hb hbox hg
      obtain ⟨Ao26, co26, eo26⟩ := Kd.R_slice HO200.out
      (first | subst eo26 | (injection eo26 with f1_ f2_ f3_; have f4_ := f1_.symm; have f5_ := f3_.symm; clear f1_ f2_ f3_; subst f4_; subst f5_))
      refine hK.out _ _ ⟨bc BK194 0, bc BK194 1, bc BK195 0, bc BK195 1, bc BK195 2⟩ (fun hHeld => ?_)
      clear hK K
      refine norm_ (a' := ?_) ?_ ?_
      rotate_left
      ·
       show Act.put _ (some 6) _ = _
       simp only [Act.put, List.setIfInBounds_toArray, List.set_cons_zero, List.set_cons_succ, i64_w, i32_w]
       rfl
      refine one_ (i := 4) (N := some 26) #[true, true, true, true, true, false, false, false, true, false, false] rfl rfl (one_of HT_.out (by kernel_rfl)) (by decide) (fun K hK => ?_)
      refine goes_ Try.func6 (by kernel_rfl) rfl #[.agg #[.int .i64 t197, .slice Ao26 t198.length co26], .agg #[.int .i64 t201, .int .i64 t202, .int .i64 t203]] (by rfl) rfl rfl (by (try simp only [List.map_toArray, List.map_cons, List.map_nil]); first | done | rfl | (simp only [List.length_drop, List.length_take]; rfl)) ?_
      with_reducible refine (spec_AddClue.calls k t197 _ _ t198 t201 t202 t203 t204 t205 t208 _ ?side1 ?side2 A12.out).mono ?_
      (case side1 => repeat (first | exact (Kd.R_reads' HO200.out).2.2 | (with_reducible refine Kd.C_alloc ?_ _) | (with_reducible refine Kd.C_drewN ?_ _) | (with_reducible refine Kd.C_drew ?_)))
      (case side2 => exact (Kd.R_reads' HO200.out).2.1)
      rintro e w27 ⟨v206, rfl, ho0, hb⟩
      refine ⟨_, rfl, ?_⟩
      have n0_ := Aside0.mk (Kd.R_elder' (qr HO200.out) (Kd.R_base ho0) hb)
      have n1_ := Aside0.mk (Kd.R_lower (Kd.R_new' ho0 (Kd.R_lt (qr HO200.out))) (below_size (qw HB)))
      have n2_ := qbb BK194 hb
      have n3_ := qbb BK195 hb
      have n4_ := qbb BK209 hb
      have n5_ := Aside0.mk (below_step (qw HB) hb)
      clear HO200
      clear BK194
      clear BK195
      clear BK209
      clear HB
      have HO200 := n0_
      have HO207 := n1_
      have BK194 := n2_
      have BK195 := n3_
      have BK209 := n4_
      have HB := n5_
      clear n0_ n1_ n2_ n3_ n4_ n5_
      (try clear hb)
      (try clear hb2)
      (try clear hk)
      (try clear hi)
      (try clear ho0)
      refine hK.out _ _ ⟨bc BK194 0, bc BK194 1, bc BK195 0, bc BK195 1, bc BK195 2⟩ (fun hHeld => ?_)
      clear hK K
      refine norm_ (a' := ?_) ?_ ?_
      rotate_left
      ·
       show Act.put _ (some 26) _ = _
       simp only [Act.put, List.setIfInBounds_toArray, List.set_cons_zero, List.set_cons_succ, i64_w, i32_w]
       rfl
      refine pure_ (i := 5) (N := some 21) (v := ?_) (a' := ?_) #[true, true, true, true, true, true, false, false, true, false, false] rfl rfl (any_of HT_.out (by kernel_rfl)) (fun _ _ _ h => h) (Or.inl ⟨by rfl, ?_⟩) ?_ ?_
      rotate_left
      ·
       intro w'
       go_simp
       with_reducible rfl
      rotate_left
      ·
       simp only [Act.put, List.setIfInBounds_toArray, List.set_cons_zero, List.set_cons_succ, i64_w, i32_w]
       rfl
      refine pure_ (i := 6) (N := some 27) (v := ?_) (a' := ?_) #[true, true, true, true, true, true, true, false, true, false, false] rfl rfl (any_of HT_.out (by kernel_rfl)) (fun _ _ _ h => h) (Or.inl ⟨by rfl, ?_⟩) ?_ ?_
      rotate_left
      ·
       intro w'
       go_simp
       with_reducible rfl
      rotate_left
      ·
       simp only [Act.put, List.setIfInBounds_toArray, List.set_cons_zero, List.set_cons_succ, i64_w, i32_w]
       rfl
      refine pure_ (i := 7) (N := some 28) (v := ?_) (a' := ?_) #[true, true, true, true, true, true, true, true, true, false, false] rfl rfl (any_of HT_.out (by kernel_rfl)) (fun _ _ _ h => h) (Or.inl ⟨by rfl, ?_⟩) ?_ ?_
      rotate_left
      ·
       intro w'
       go_simp
       with_reducible rfl
      rotate_left
      ·
       simp only [Act.put, List.setIfInBounds_toArray, List.set_cons_zero, List.set_cons_succ, i64_w, i32_w]
       rfl
      exact norm_ (by simp only [putAll, Act.put, List.setIfInBounds_toArray, List.set_cons_zero, List.set_cons_succ]) (hCont (.slice Ao26 t198.length co26, v206, gb209) _ ⟨hHeld, (qr (Kd.R_mono HO200.out (fun _ hk => hk.2))), (qr (Kd.R_mono HO207.out (fun _ hk => hk.2))), (qb BK194), (qb BK195), (qb BK209), GW209.out, GE209.out, NB194_209.out, NB209_194.out, NB195_209.out, NB209_195.out, (qw HB)⟩)
    ·
     skip
     refine box_step ?hg (N := 6) ?hd (cs := #[.int .i64 0, .slice none 0 0]) (t := 30) ?hr ?_; (case hd => rfl); (case hg => rfl); (case hr => first | (go_simp; done) | (go_simp; rfl))
     intro gb209 hg w24 hbox hb
     have n0_ := Aside0.mk (Kd.R_below (qr HO200.out) hb)
     have n1_ := qbb BK194 hb
     have n2_ := qbb BK195 hb
     have n3_ := Aside0.mk (below_step (qw HB) hb)
     have n4_ := Aside0.mk (hbox)
     have n5_ := Aside0.mk ((by rw [hg]; exact (below_size (qw HB)) : w.heap.size ≤ gb209))
     have n6_ := Aside0.mk ((by rw [hg]; exact (below_size (qw HB)) : w.heap.size ≤ gb209))
     have n7_ := Aside0.mk ((by rw [hg]; exact Nat.ne_of_lt (blk_lt (qb BK194)) : gb194 ≠ gb209))
     have n8_ := Aside0.mk ((by rw [hg]; exact Nat.ne_of_gt (blk_lt (qb BK194)) : gb209 ≠ gb194))
     have n9_ := Aside0.mk ((by rw [hg]; exact Nat.ne_of_lt (blk_lt (qb BK195)) : gb195 ≠ gb209))
     have n10_ := Aside0.mk ((by rw [hg]; exact Nat.ne_of_gt (blk_lt (qb BK195)) : gb209 ≠ gb195))
     clear HO200
     clear BK194
     clear BK195
     clear HB
     have HO200 := n0_
     have BK194 := n1_
     have BK195 := n2_
     have HB := n3_
     have BK209 := n4_
     have GW209 := n5_
     have GE209 := n6_
     have NB194_209 := n7_
     have NB209_194 := n8_
     have NB195_209 := n9_
     have NB209_195 := n10_
     clear n0_ n1_ n2_ n3_ n4_ n5_ n6_ n7_ n8_ n9_ n10_
     clear hb hbox hg
     refine hK.out _ _ ⟨bc BK194 0, bc BK194 1, bc BK195 0, bc BK195 1, bc BK195 2⟩ (fun hHeld => ?_)
     clear hK K
     refine norm_ (a' := ?_) ?_ ?_
     rotate_left
     ·
      show Act.put _ (some 6) _ = _
      simp only [Act.put, List.setIfInBounds_toArray, List.set_cons_zero, List.set_cons_succ, i64_w, i32_w]
      rfl
     refine one_ (i := 3) (N := some 25) #[true, true, true, true, false, false, false, false, true, false, false] rfl rfl (one_of HT_.out (by kernel_rfl)) (by decide) (fun K hK => ?_)
     refine goes_ Try.func8 (by kernel_rfl) rfl #[.agg #[.int .i64 a1_0, .int .i64 a1_1, .int .i64 a1_2]] (by rfl) rfl rfl (by (try simp only [List.map_toArray, List.map_cons, List.map_nil]); first | done | rfl | (simp only [List.length_drop, List.length_take]; rfl)) ?_
     with_reducible refine (laws_toClue.calls a1_0 a1_1 a1_2 t201 t202 t203 _ A11.out).mono ?_
     rintro e w25 ⟨rfl, hb⟩
     refine ⟨_, rfl, ?_⟩
     have n0_ := Aside0.mk (Kd.R_below (qr HO200.out) hb)
     have n1_ := qbb BK194 hb
     have n2_ := qbb BK195 hb
     have n3_ := qbb BK209 hb
     have n4_ := Aside0.mk (below_step (qw HB) hb)
     clear HO200
     clear BK194
     clear BK195
     clear BK209
     clear HB
     have HO200 := n0_
     have BK194 := n1_
     have BK195 := n2_
     have BK209 := n3_
     have HB := n4_
     clear n0_ n1_ n2_ n3_ n4_
     (try clear hb)
     (try clear hb2)
     (try clear hk)
     (try clear hi)
     obtain ⟨Ao26, co26, eo26⟩ := Kd.R_slice HO200.out
     (first | subst eo26 | (injection eo26 with f1_ f2_ f3_; have f4_ := f1_.symm; have f5_ := f3_.symm; clear f1_ f2_ f3_; subst f4_; subst f5_))
     refine hK.out _ _ ⟨bc BK194 0, bc BK194 1, bc BK195 0, bc BK195 1, bc BK195 2⟩ (fun hHeld => ?_)
     clear hK K
     refine norm_ (a' := ?_) ?_ ?_
     rotate_left
     ·
      show Act.put _ (some 25) _ = _
      simp only [Act.put, List.setIfInBounds_toArray, List.set_cons_zero, List.set_cons_succ, i64_w, i32_w]
      rfl
     refine one_ (i := 4) (N := some 26) #[true, true, true, true, true, false, false, false, true, false, false] rfl rfl (one_of HT_.out (by kernel_rfl)) (by decide) (fun K hK => ?_)
     refine goes_ Try.func6 (by kernel_rfl) rfl #[.agg #[.int .i64 t197, .slice Ao26 t198.length co26], .agg #[.int .i64 t201, .int .i64 t202, .int .i64 t203]] (by rfl) rfl rfl (by (try simp only [List.map_toArray, List.map_cons, List.map_nil]); first | done | rfl | (simp only [List.length_drop, List.length_take]; rfl)) ?_
     with_reducible refine (spec_AddClue.calls k t197 _ _ t198 t201 t202 t203 t204 t205 t208 _ ?side1 ?side2 A12.out).mono ?_
     (case side1 => repeat (first | exact (Kd.R_reads' HO200.out).2.2 | (with_reducible refine Kd.C_alloc ?_ _) | (with_reducible refine Kd.C_drewN ?_ _) | (with_reducible refine Kd.C_drew ?_)))
     (case side2 => exact (Kd.R_reads' HO200.out).2.1)
     rintro e w27 ⟨v206, rfl, ho0, hb⟩
     refine ⟨_, rfl, ?_⟩
     have n0_ := Aside0.mk (Kd.R_elder' (qr HO200.out) (Kd.R_base ho0) hb)
     have n1_ := Aside0.mk (Kd.R_lower (Kd.R_new' ho0 (Kd.R_lt (qr HO200.out))) (below_size (qw HB)))
     have n2_ := qbb BK194 hb
     have n3_ := qbb BK195 hb
     have n4_ := qbb BK209 hb
     have n5_ := Aside0.mk (below_step (qw HB) hb)
     clear HO200
     clear BK194
     clear BK195
     clear BK209
     clear HB
     have HO200 := n0_
     have HO207 := n1_
     have BK194 := n2_
     have BK195 := n3_
     have BK209 := n4_
     have HB := n5_
     clear n0_ n1_ n2_ n3_ n4_ n5_
     (try clear hb)
     (try clear hb2)
     (try clear hk)
     (try clear hi)
     (try clear ho0)
     refine hK.out _ _ ⟨bc BK194 0, bc BK194 1, bc BK195 0, bc BK195 1, bc BK195 2⟩ (fun hHeld => ?_)
     clear hK K
     refine norm_ (a' := ?_) ?_ ?_
     rotate_left
     ·
      show Act.put _ (some 26) _ = _
      simp only [Act.put, List.setIfInBounds_toArray, List.set_cons_zero, List.set_cons_succ, i64_w, i32_w]
      rfl
     refine pure_ (i := 5) (N := some 21) (v := ?_) (a' := ?_) #[true, true, true, true, true, true, false, false, true, false, false] rfl rfl (any_of HT_.out (by kernel_rfl)) (fun _ _ _ h => h) (Or.inl ⟨by rfl, ?_⟩) ?_ ?_
     rotate_left
     ·
      intro w'
      go_simp
      with_reducible rfl
     rotate_left
     ·
      simp only [Act.put, List.setIfInBounds_toArray, List.set_cons_zero, List.set_cons_succ, i64_w, i32_w]
      rfl
     refine pure_ (i := 6) (N := some 27) (v := ?_) (a' := ?_) #[true, true, true, true, true, true, true, false, true, false, false] rfl rfl (any_of HT_.out (by kernel_rfl)) (fun _ _ _ h => h) (Or.inl ⟨by rfl, ?_⟩) ?_ ?_
     rotate_left
     ·
      intro w'
      go_simp
      with_reducible rfl
     rotate_left
     ·
      simp only [Act.put, List.setIfInBounds_toArray, List.set_cons_zero, List.set_cons_succ, i64_w, i32_w]
      rfl
     refine pure_ (i := 7) (N := some 28) (v := ?_) (a' := ?_) #[true, true, true, true, true, true, true, true, true, false, false] rfl rfl (any_of HT_.out (by kernel_rfl)) (fun _ _ _ h => h) (Or.inl ⟨by rfl, ?_⟩) ?_ ?_
     rotate_left
     ·
      intro w'
      go_simp
      with_reducible rfl
     rotate_left
     ·
      simp only [Act.put, List.setIfInBounds_toArray, List.set_cons_zero, List.set_cons_succ, i64_w, i32_w]
      rfl
     exact norm_ (by simp only [putAll, Act.put, List.setIfInBounds_toArray, List.set_cons_zero, List.set_cons_succ]) (hCont (.slice Ao26 t198.length co26, v206, gb209) _ ⟨hHeld, (qr (Kd.R_mono HO200.out (fun _ hk => hk.2))), (qr (Kd.R_mono HO207.out (fun _ hk => hk.2))), (qb BK194), (qb BK195), (qb BK209), GW209.out, GE209.out, NB194_209.out, NB209_194.out, NB195_209.out, NB209_195.out, (qw HB)⟩)
   ·
    skip
    refine box_step ?hg (N := 6) ?hd (cs := #[.int .i64 0, .slice none 0 0]) (t := 30) ?hr ?_; (case hd => rfl); (case hg => rfl); (case hr => first | (go_simp; done) | (go_simp; rfl))
    intro gb209 hg w23 hbox hb
    have n0_ := qbb BK194 hb
    have n1_ := qbb BK195 hb
    have n2_ := Aside0.mk (below_step (qw HB) hb)
    have n3_ := Aside0.mk (hbox)
    have n4_ := Aside0.mk ((by rw [hg]; exact (below_size (qw HB)) : w.heap.size ≤ gb209))
    have n5_ := Aside0.mk ((by rw [hg]; exact (below_size (qw HB)) : w.heap.size ≤ gb209))
    have n6_ := Aside0.mk ((by rw [hg]; exact Nat.ne_of_lt (blk_lt (qb BK194)) : gb194 ≠ gb209))
    have n7_ := Aside0.mk ((by rw [hg]; exact Nat.ne_of_gt (blk_lt (qb BK194)) : gb209 ≠ gb194))
    have n8_ := Aside0.mk ((by rw [hg]; exact Nat.ne_of_lt (blk_lt (qb BK195)) : gb195 ≠ gb209))
    have n9_ := Aside0.mk ((by rw [hg]; exact Nat.ne_of_gt (blk_lt (qb BK195)) : gb209 ≠ gb195))
    clear BK194
    clear BK195
    clear HB
    have BK194 := n0_
    have BK195 := n1_
    have HB := n2_
    have BK209 := n3_
    have GW209 := n4_
    have GE209 := n5_
    have NB194_209 := n6_
    have NB209_194 := n7_
    have NB195_209 := n8_
    have NB209_195 := n9_
    clear n0_ n1_ n2_ n3_ n4_ n5_ n6_ n7_ n8_ n9_
    clear hb hbox hg
    refine hK.out _ _ ⟨bc BK194 0, bc BK194 1, bc BK195 0, bc BK195 1, bc BK195 2⟩ (fun hHeld => ?_)
    clear hK K
    refine norm_ (a' := ?_) ?_ ?_
    rotate_left
    ·
     show Act.put _ (some 6) _ = _
     simp only [Act.put, List.setIfInBounds_toArray, List.set_cons_zero, List.set_cons_succ, i64_w, i32_w]
     rfl
    refine one_ (i := 1) (N := some 23) #[true, true, true, false, false, false, false, false, true, false, false] rfl rfl (one_of HT_.out (by kernel_rfl)) (by decide) (fun K hK => ?_)
    refine goes_ Try.func7 (by kernel_rfl) rfl #[.agg #[.int .i64 a0_0, .slice A0_1 l0_1.length c0_1]] (by rfl) rfl rfl (by (try simp only [List.map_toArray, List.map_cons, List.map_nil]); first | done | rfl | (simp only [List.length_drop, List.length_take]; rfl)) ?_
    with_reducible refine (laws_toPuzzle.calls k a0_0 _ _ l0_1 t197 t198 _ ?side1 ?side2 A10.out).mono ?_
    (case side1 => repeat (first | exact (Kd.C_below HR0_1.out HB.out) | (with_reducible refine Kd.C_alloc ?_ _) | (with_reducible refine Kd.C_drewN ?_ _) | (with_reducible refine Kd.C_drew ?_)))
    (case side2 => exact HC0_1.out)
    rintro e w24 ⟨v199, rfl, ho0, hb⟩
    refine ⟨_, rfl, ?_⟩
    have n0_ := Aside0.mk (Kd.R_lower ho0 (below_size (qw HB)))
    have n1_ := qbb BK194 hb
    have n2_ := qbb BK195 hb
    have n3_ := qbb BK209 hb
    have n4_ := Aside0.mk (below_step (qw HB) hb)
    clear BK194
    clear BK195
    clear BK209
    clear HB
    have HO200 := n0_
    have BK194 := n1_
    have BK195 := n2_
    have BK209 := n3_
    have HB := n4_
    clear n0_ n1_ n2_ n3_ n4_
    (try clear hb)
    (try clear hb2)
    (try clear hk)
    (try clear hi)
    (try clear ho0)
    refine hK.out _ _ ⟨bc BK194 0, bc BK194 1, bc BK195 0, bc BK195 1, bc BK195 2⟩ (fun hHeld => ?_)
    clear hK K
    refine norm_ (a' := ?_) ?_ ?_
    rotate_left
    ·
     show Act.put _ (some 23) _ = _
     simp only [Act.put, List.setIfInBounds_toArray, List.set_cons_zero, List.set_cons_succ, i64_w, i32_w]
     rfl
    refine one_ (i := 3) (N := some 25) #[true, true, true, true, false, false, false, false, true, false, false] rfl rfl (one_of HT_.out (by kernel_rfl)) (by decide) (fun K hK => ?_)
    refine goes_ Try.func8 (by kernel_rfl) rfl #[.agg #[.int .i64 a1_0, .int .i64 a1_1, .int .i64 a1_2]] (by rfl) rfl rfl (by (try simp only [List.map_toArray, List.map_cons, List.map_nil]); first | done | rfl | (simp only [List.length_drop, List.length_take]; rfl)) ?_
    with_reducible refine (laws_toClue.calls a1_0 a1_1 a1_2 t201 t202 t203 _ A11.out).mono ?_
    rintro e w25 ⟨rfl, hb⟩
    refine ⟨_, rfl, ?_⟩
    have n0_ := Aside0.mk (Kd.R_below (qr HO200.out) hb)
    have n1_ := qbb BK194 hb
    have n2_ := qbb BK195 hb
    have n3_ := qbb BK209 hb
    have n4_ := Aside0.mk (below_step (qw HB) hb)
    clear HO200
    clear BK194
    clear BK195
    clear BK209
    clear HB
    have HO200 := n0_
    have BK194 := n1_
    have BK195 := n2_
    have BK209 := n3_
    have HB := n4_
    clear n0_ n1_ n2_ n3_ n4_
    (try clear hb)
    (try clear hb2)
    (try clear hk)
    (try clear hi)
    obtain ⟨Ao26, co26, eo26⟩ := Kd.R_slice HO200.out
    (first | subst eo26 | (injection eo26 with f1_ f2_ f3_; have f4_ := f1_.symm; have f5_ := f3_.symm; clear f1_ f2_ f3_; subst f4_; subst f5_))
    refine hK.out _ _ ⟨bc BK194 0, bc BK194 1, bc BK195 0, bc BK195 1, bc BK195 2⟩ (fun hHeld => ?_)
    clear hK K
    refine norm_ (a' := ?_) ?_ ?_
    rotate_left
    ·
     show Act.put _ (some 25) _ = _
     simp only [Act.put, List.setIfInBounds_toArray, List.set_cons_zero, List.set_cons_succ, i64_w, i32_w]
     rfl
    refine one_ (i := 4) (N := some 26) #[true, true, true, true, true, false, false, false, true, false, false] rfl rfl (one_of HT_.out (by kernel_rfl)) (by decide) (fun K hK => ?_)
    refine goes_ Try.func6 (by kernel_rfl) rfl #[.agg #[.int .i64 t197, .slice Ao26 t198.length co26], .agg #[.int .i64 t201, .int .i64 t202, .int .i64 t203]] (by rfl) rfl rfl (by (try simp only [List.map_toArray, List.map_cons, List.map_nil]); first | done | rfl | (simp only [List.length_drop, List.length_take]; rfl)) ?_
    with_reducible refine (spec_AddClue.calls k t197 _ _ t198 t201 t202 t203 t204 t205 t208 _ ?side1 ?side2 A12.out).mono ?_
    (case side1 => repeat (first | exact (Kd.R_reads' HO200.out).2.2 | (with_reducible refine Kd.C_alloc ?_ _) | (with_reducible refine Kd.C_drewN ?_ _) | (with_reducible refine Kd.C_drew ?_)))
    (case side2 => exact (Kd.R_reads' HO200.out).2.1)
    rintro e w27 ⟨v206, rfl, ho0, hb⟩
    refine ⟨_, rfl, ?_⟩
    have n0_ := Aside0.mk (Kd.R_elder' (qr HO200.out) (Kd.R_base ho0) hb)
    have n1_ := Aside0.mk (Kd.R_lower (Kd.R_new' ho0 (Kd.R_lt (qr HO200.out))) (below_size (qw HB)))
    have n2_ := qbb BK194 hb
    have n3_ := qbb BK195 hb
    have n4_ := qbb BK209 hb
    have n5_ := Aside0.mk (below_step (qw HB) hb)
    clear HO200
    clear BK194
    clear BK195
    clear BK209
    clear HB
    have HO200 := n0_
    have HO207 := n1_
    have BK194 := n2_
    have BK195 := n3_
    have BK209 := n4_
    have HB := n5_
    clear n0_ n1_ n2_ n3_ n4_ n5_
    (try clear hb)
    (try clear hb2)
    (try clear hk)
    (try clear hi)
    (try clear ho0)
    refine hK.out _ _ ⟨bc BK194 0, bc BK194 1, bc BK195 0, bc BK195 1, bc BK195 2⟩ (fun hHeld => ?_)
    clear hK K
    refine norm_ (a' := ?_) ?_ ?_
    rotate_left
    ·
     show Act.put _ (some 26) _ = _
     simp only [Act.put, List.setIfInBounds_toArray, List.set_cons_zero, List.set_cons_succ, i64_w, i32_w]
     rfl
    refine pure_ (i := 5) (N := some 21) (v := ?_) (a' := ?_) #[true, true, true, true, true, true, false, false, true, false, false] rfl rfl (any_of HT_.out (by kernel_rfl)) (fun _ _ _ h => h) (Or.inl ⟨by rfl, ?_⟩) ?_ ?_
    rotate_left
    ·
     intro w'
     go_simp
     with_reducible rfl
    rotate_left
    ·
     simp only [Act.put, List.setIfInBounds_toArray, List.set_cons_zero, List.set_cons_succ, i64_w, i32_w]
     rfl
    refine pure_ (i := 6) (N := some 27) (v := ?_) (a' := ?_) #[true, true, true, true, true, true, true, false, true, false, false] rfl rfl (any_of HT_.out (by kernel_rfl)) (fun _ _ _ h => h) (Or.inl ⟨by rfl, ?_⟩) ?_ ?_
    rotate_left
    ·
     intro w'
     go_simp
     with_reducible rfl
    rotate_left
    ·
     simp only [Act.put, List.setIfInBounds_toArray, List.set_cons_zero, List.set_cons_succ, i64_w, i32_w]
     rfl
    refine pure_ (i := 7) (N := some 28) (v := ?_) (a' := ?_) #[true, true, true, true, true, true, true, true, true, false, false] rfl rfl (any_of HT_.out (by kernel_rfl)) (fun _ _ _ h => h) (Or.inl ⟨by rfl, ?_⟩) ?_ ?_
    rotate_left
    ·
     intro w'
     go_simp
     with_reducible rfl
    rotate_left
    ·
     simp only [Act.put, List.setIfInBounds_toArray, List.set_cons_zero, List.set_cons_succ, i64_w, i32_w]
     rfl
    exact norm_ (by simp only [putAll, Act.put, List.setIfInBounds_toArray, List.set_cons_zero, List.set_cons_succ]) (hCont (.slice Ao26 t198.length co26, v206, gb209) _ ⟨hHeld, (qr (Kd.R_mono HO200.out (fun _ hk => hk.2))), (qr (Kd.R_mono HO207.out (fun _ hk => hk.2))), (qb BK194), (qb BK195), (qb BK209), GW209.out, GE209.out, NB194_209.out, NB209_194.out, NB195_209.out, NB209_195.out, (qw HB)⟩)
  rintro ⟨v199, v206, gb209⟩ w28 ⟨hS_, h0_, h1_, h2_, h3_, h4_, h5_, h6_, h7_, h8_, h9_, h10_, h11_⟩
  have n0_ : Aside0 (Kd.R k34 34 w28 w.heap.size (fun k_ => some k_ ≠ (v206 : Value).ownBlock) v199 t198) := ⟨h0_⟩
  have n1_ : Aside0 (Kd.R k34 34 w28 w.heap.size (fun k_ => some k_ ≠ (v199 : Value).ownBlock) v206 t205) := ⟨h1_⟩
  have n2_ : Aside0 (w28.heap[gb194]? = some (.cells #[.int .i64 a0_0, .slice A0_1 l0_1.length c0_1] 24 (0, 0))) := ⟨h2_⟩
  have n3_ : Aside0 (w28.heap[gb195]? = some (.cells #[.int .i64 a1_0, .int .i64 a1_1, .int .i64 a1_2] 26 (0, 0))) := ⟨h3_⟩
  have n4_ : Aside0 (w28.heap[gb209]? = some (.cells #[.int .i64 0, .slice none 0 0] 30 (0, 0))) := ⟨h4_⟩
  have n5_ : Aside0 (w.heap.size ≤ gb209) := ⟨h5_⟩
  have n6_ : Aside0 (w.heap.size ≤ gb209) := ⟨h6_⟩
  have n7_ : Aside0 (gb194 ≠ gb209) := ⟨h7_⟩
  have n8_ : Aside0 (gb209 ≠ gb194) := ⟨h8_⟩
  have n9_ : Aside0 (gb195 ≠ gb209) := ⟨h9_⟩
  have n10_ : Aside0 (gb209 ≠ gb195) := ⟨h10_⟩
  have n11_ : Aside0 (Below w.heap.size w w28) := ⟨h11_⟩
  clear BK194
  clear BK195
  clear HB
  clear h0_ h1_ h2_ h3_ h4_ h5_ h6_ h7_ h8_ h9_ h10_ h11_
  have HO200 := n0_
  have HO207 := n1_
  have BK194 := n2_
  have BK195 := n3_
  have BK209 := n4_
  have GW209 := n5_
  have GE209 := n6_
  have NB194_209 := n7_
  have NB209_194 := n8_
  have NB195_209 := n9_
  have NB209_195 := n10_
  have HB := n11_
  clear n0_ n1_ n2_ n3_ n4_ n5_ n6_ n7_ n8_ n9_ n10_ n11_
  have hHeld : w28.cell? ⟨gb194, 0, none⟩ = some (.int .i64 a0_0) ∧ w28.cell? ⟨gb194, 1, none⟩ = some (.slice A0_1 l0_1.length c0_1) ∧ w28.cell? ⟨gb195, 0, none⟩ = some (.int .i64 a1_0) ∧ w28.cell? ⟨gb195, 1, none⟩ = some (.int .i64 a1_1) ∧ w28.cell? ⟨gb195, 2, none⟩ = some (.int .i64 a1_2) := hS_
  obtain ⟨Ao30, co30, eo30⟩ := Kd.R_slice HO207.out
  (first | subst eo30 | (injection eo30 with f1_ f2_ f3_; have f4_ := f1_.symm; have f5_ := f3_.symm; clear f1_ f2_ f3_; subst f4_; subst f5_))
  refine norm_ (a' := ?_) ?_ ?_
  rotate_left
  ·
   simp only [putAll, Act.put, List.setIfInBounds_toArray, List.set_cons_zero, List.set_cons_succ]
   rfl
  refine one_ (i := 9) (N := none) #[true, true, true, true, true, true, true, true, true, true, false] rfl rfl (one_of HT_.out (by kernel_rfl)) (by decide) (fun K hK => ?_)
  have hs29 : w28.cell? ⟨gb209, 0, none⟩ = some (.int .i64 0) := bc BK209 0
  have hfs29 := blk_frozen BK209.out 0
  have hns29_0 := NB194_209.out
  have hns29_1 := NB195_209.out
  have hms29_0 := NB209_194.out
  have hms29_1 := NB209_195.out
  have hs31 : w28.cell? ⟨gb209, 1, none⟩ = some (.slice none 0 0) := bc BK209 1
  have hfs31 := blk_frozen BK209.out 1
  have hns31_0 := NB194_209.out
  have hns31_1 := NB195_209.out
  have hms31_0 := NB209_194.out
  have hms31_1 := NB209_195.out
  refine skip_ (w1 := ?_) (by rfl) rfl ?_ ?_
  rotate_left
  ·
   go_simp
   rfl
  refine hK.out _ _ ⟨((cell_far (p := ⟨gb209, _, none⟩) NB194_209.out _).trans (((cell_far (p := ⟨gb209, _, none⟩) NB194_209.out _).trans (hHeld.1)))), ((cell_far (p := ⟨gb209, _, none⟩) NB194_209.out _).trans (((cell_far (p := ⟨gb209, _, none⟩) NB194_209.out _).trans (hHeld.2.1)))), ((cell_far (p := ⟨gb209, _, none⟩) NB195_209.out _).trans (((cell_far (p := ⟨gb209, _, none⟩) NB195_209.out _).trans (hHeld.2.2.1)))), ((cell_far (p := ⟨gb209, _, none⟩) NB195_209.out _).trans (((cell_far (p := ⟨gb209, _, none⟩) NB195_209.out _).trans (hHeld.2.2.2.1)))), ((cell_far (p := ⟨gb209, _, none⟩) NB195_209.out _).trans (((cell_far (p := ⟨gb209, _, none⟩) NB195_209.out _).trans (hHeld.2.2.2.2))))⟩ (fun hHeld => ?_)
  clear hK K
  refine pure_ (i := 10) (N := some 7) (v := ?_) (a' := ?_) #[true, true, true, true, true, true, true, true, true, true, true] rfl rfl (any_of HT_.out (by kernel_rfl)) (fun _ _ _ h => h) (Or.inl ⟨by rfl, ?_⟩) ?_ ?_
  rotate_left
  ·
   intro w'
   go_simp
   with_reducible rfl
  rotate_left
  ·
   simp only [Act.put, List.setIfInBounds_toArray, List.set_cons_zero, List.set_cons_succ, i64_w, i32_w]
   rfl
  refine done_ (done_of HT_.out (by kernel_rfl)) ?_
  have hnb32 := NB194_209.out
  have hnc32 := NB209_194.out
  have hcz33_0 : w28.cell? ⟨gb194, 0, none⟩ = some (.int .i64 a0_0) := bc BK194 0
  have hcz33_1 : w28.cell? ⟨gb194, 1, none⟩ = some (.slice A0_1 l0_1.length c0_1) := bc BK194 1
  have hfz33_0 := blk_frozen BK194.out 0
  have hfz33_1 := blk_frozen BK194.out 1
  try go_wp2_with (first | ((with_reducible refine gate_callee (f := 7) rfl ?_); refine goesL_ (some 30) rfl rfl Try.func7 (by kernel_rfl) rfl #[.agg #[.int .i64 a0_0, .slice A0_1 l0_1.length c0_1]] rfl (by (try simp only [List.map_toArray, List.map_cons, List.map_nil]); first | done | rfl | (simp only [List.length_drop, List.length_take]; rfl)) ?_; (with_reducible refine (laws_toPuzzle.calls k a0_0 _ _ l0_1 t210 t211 _ ?side1 ?side2 A13.out).mono ?_); (case side1 => exact Kd.C_below HR0_1.out (qw HB)); (case side2 => exact HC0_1.out); rintro e w34 ⟨v212, rfl, ho0, hb⟩; refine ⟨_, rfl, ?_⟩; have n0_ := Aside0.mk (Kd.R_elder' (qr (Kd.R_mono (Kd.R_far (p := ⟨gb209, 1, none⟩) (Kd.R_far (p := ⟨gb209, 0, none⟩) (Kd.R_types HO200.out BK209.out (by decide)) (fun _ hk => hk.2) (.int .i64 t204)) (fun _ hk => hk.2) (.slice Ao30 t205.length co30)) (fun _ h_ => h_.1))) (Kd.R_base ho0) hb); have n1_ := Aside0.mk (Kd.R_elder' (qr (Kd.R_mono (Kd.R_far (p := ⟨gb209, 1, none⟩) (Kd.R_far (p := ⟨gb209, 0, none⟩) (Kd.R_types HO207.out BK209.out (by decide)) (fun _ hk => hk.2) (.int .i64 t204)) (fun _ hk => hk.2) (.slice Ao30 t205.length co30)) (fun _ h_ => h_.1))) (Kd.R_base ho0) hb); have n2_ := Aside0.mk (Kd.R_lower (Kd.R_new' (Kd.R_new' ho0 (Kd.R_lt (qr (Kd.R_mono (Kd.R_far (p := ⟨gb209, 1, none⟩) (Kd.R_far (p := ⟨gb209, 0, none⟩) (Kd.R_types HO200.out BK209.out (by decide)) (fun _ hk => hk.2) (.int .i64 t204)) (fun _ hk => hk.2) (.slice Ao30 t205.length co30)) (fun _ h_ => h_.1))))) (Kd.R_lt (qr (Kd.R_mono (Kd.R_far (p := ⟨gb209, 1, none⟩) (Kd.R_far (p := ⟨gb209, 0, none⟩) (Kd.R_types HO207.out BK209.out (by decide)) (fun _ hk => hk.2) (.int .i64 t204)) (fun _ hk => hk.2) (.slice Ao30 t205.length co30)) (fun _ h_ => h_.1))))) (below_size (qw HB))); have n3_ := Aside0.mk (blk_below (g := gb194) (o := .cells #[.int .i64 a0_0, .slice A0_1 l0_1.length c0_1] 24 (0, 0)) (by (with_reducible repeat (first | refine blk_drewN ?_ _ | refine blk_drew ?_ | refine blk_alloc ?_ _)); refine blk_far ?_ NB194_209.out _; (with_reducible repeat (first | refine blk_drewN ?_ _ | refine blk_drew ?_ | refine blk_alloc ?_ _)); refine blk_far ?_ NB194_209.out _; (with_reducible repeat (first | refine blk_drewN ?_ _ | refine blk_drew ?_ | refine blk_alloc ?_ _)); exact BK194.out) hb); have n4_ := Aside0.mk (blk_below (g := gb195) (o := .cells #[.int .i64 a1_0, .int .i64 a1_1, .int .i64 a1_2] 26 (0, 0)) (by (with_reducible repeat (first | refine blk_drewN ?_ _ | refine blk_drew ?_ | refine blk_alloc ?_ _)); refine blk_far ?_ NB195_209.out _; (with_reducible repeat (first | refine blk_drewN ?_ _ | refine blk_drew ?_ | refine blk_alloc ?_ _)); refine blk_far ?_ NB195_209.out _; (with_reducible repeat (first | refine blk_drewN ?_ _ | refine blk_drew ?_ | refine blk_alloc ?_ _)); exact BK195.out) hb); have n5_ := Aside0.mk (blk_below (g := gb209) (o := .cells #[.int .i64 t204, .slice Ao30 t205.length co30] 30 (0, 0)) (by (with_reducible repeat (first | refine blk_drewN ?_ _ | refine blk_drew ?_ | refine blk_alloc ?_ _)); refine blk_put (cs := #[.int .i64 t204, .slice none 0 0]) ?_ 1 _ rfl; (with_reducible repeat (first | refine blk_drewN ?_ _ | refine blk_drew ?_ | refine blk_alloc ?_ _)); refine blk_put (cs := #[.int .i64 0, .slice none 0 0]) ?_ 0 _ rfl; (with_reducible repeat (first | refine blk_drewN ?_ _ | refine blk_drew ?_ | refine blk_alloc ?_ _)); exact BK209.out) hb); have n6_ := Aside0.mk (below_step (qw HB) hb); clear HO200; clear HO207; clear BK194; clear BK195; clear BK209; clear HB; have HO200 := n0_; have HO207 := n1_; have HO213 := n2_; have BK194 := n3_; have BK195 := n4_; have BK209 := n5_; have HB := n6_; clear n0_ n1_ n2_ n3_ n4_ n5_ n6_; (try clear hb); (try clear hb2); (try clear hk); (try clear hi); (try clear ho0)) | ((with_reducible refine gate_dst (N := 8) rfl ?_); refine box_event ?hg (N := 8) ?hd (cs := #[.int .i64 0, .slice none 0 0]) (t := 30) ?hr ?_; (case hd => rfl); (case hg => rfl); (case hr => first | (go_simp; done) | (go_simp; rfl)); intro gb214 hg w35 hbox hb; have n0_ := Aside0.mk (Kd.R_below (qr HO200.out) hb); have n1_ := Aside0.mk (Kd.R_below (qr HO207.out) hb); have n2_ := Aside0.mk (Kd.R_below (qr HO213.out) hb); have n3_ := qbb BK194 hb; have n4_ := qbb BK195 hb; have n5_ := qbb BK209 hb; have n6_ := Aside0.mk (below_step (qw HB) hb); have n7_ := Aside0.mk (hbox); have n8_ := Aside0.mk ((by rw [hg]; exact (below_size (qw HB)) : w.heap.size ≤ gb214)); have n9_ := Aside0.mk ((by rw [hg]; exact (below_size (qw HB)) : w.heap.size ≤ gb214)); have n10_ := Aside0.mk ((by rw [hg]; exact Nat.ne_of_lt (blk_lt (qb BK194)) : gb194 ≠ gb214)); have n11_ := Aside0.mk ((by rw [hg]; exact Nat.ne_of_gt (blk_lt (qb BK194)) : gb214 ≠ gb194)); have n12_ := Aside0.mk ((by rw [hg]; exact Nat.ne_of_lt (blk_lt (qb BK195)) : gb195 ≠ gb214)); have n13_ := Aside0.mk ((by rw [hg]; exact Nat.ne_of_gt (blk_lt (qb BK195)) : gb214 ≠ gb195)); have n14_ := Aside0.mk ((by rw [hg]; exact Nat.ne_of_lt (blk_lt (qb BK209)) : gb209 ≠ gb214)); have n15_ := Aside0.mk ((by rw [hg]; exact Nat.ne_of_gt (blk_lt (qb BK209)) : gb214 ≠ gb209)); clear HO200; clear HO207; clear HO213; clear BK194; clear BK195; clear BK209; clear HB; have HO200 := n0_; have HO207 := n1_; have HO213 := n2_; have BK194 := n3_; have BK195 := n4_; have BK209 := n5_; have HB := n6_; have BK214 := n7_; have GW214 := n8_; have GE214 := n9_; have NB194_214 := n10_; have NB214_194 := n11_; have NB195_214 := n12_; have NB214_195 := n13_; have NB209_214 := n14_; have NB214_209 := n15_; clear n0_ n1_ n2_ n3_ n4_ n5_ n6_ n7_ n8_ n9_ n10_ n11_ n12_ n13_ n14_ n15_; clear hb hbox hg; have hnb36 := NB214_194.out; have hnc36 := NB194_214.out; have hnb37 := NB214_195.out; have hnc37 := NB195_214.out; have hnb38 := NB214_209.out; have hnc38 := NB209_214.out; have hcz39_0 : w35.cell? ⟨gb214, 0, none⟩ = some (.int .i64 0) := bc BK214 0; have hcz39_1 : w35.cell? ⟨gb214, 1, none⟩ = some (.slice none 0 0) := bc BK214 1; have hfz39_0 := blk_frozen BK214.out 0; have hfz39_1 := blk_frozen BK214.out 1; obtain ⟨Ao40, co40, eo40⟩ := Kd.R_slice HO213.out; subst eo40))
  have n0_ : Aside0 (Kd.R k34 34 ((w35.setCell ⟨gb214, 0, none⟩ (.int .i64 t210)).setCell ⟨gb214, 1, none⟩ (.slice Ao40 t211.length co40)) w.heap.size (fun k_ => some k_ ≠ (.slice Ao30 t205.length co30 : Value).ownBlock ∧ some k_ ≠ (.slice Ao40 t211.length co40 : Value).ownBlock) v199 t198) := ⟨by (with_reducible repeat (first | apply Kd.R_alloc | apply Kd.R_drewN | apply Kd.R_drew)); exact Kd.R_mono (Kd.R_far (p := ⟨gb214, 1, none⟩) (Kd.R_far (p := ⟨gb214, 0, none⟩) (Kd.R_types HO200.out BK214.out (by decide)) (fun _ hk => hk.2) (.int .i64 t210)) (fun _ hk => hk.2) (.slice Ao40 t211.length co40)) (fun _ hk => ⟨hk.1.1, hk.1.2⟩)⟩
  have n1_ : Aside0 (Kd.R k34 34 ((w35.setCell ⟨gb214, 0, none⟩ (.int .i64 t210)).setCell ⟨gb214, 1, none⟩ (.slice Ao40 t211.length co40)) w.heap.size (fun k_ => some k_ ≠ (v199 : Value).ownBlock ∧ some k_ ≠ (.slice Ao40 t211.length co40 : Value).ownBlock) (.slice Ao30 t205.length co30) t205) := ⟨by (with_reducible repeat (first | apply Kd.R_alloc | apply Kd.R_drewN | apply Kd.R_drew)); exact Kd.R_mono (Kd.R_far (p := ⟨gb214, 1, none⟩) (Kd.R_far (p := ⟨gb214, 0, none⟩) (Kd.R_types HO207.out BK214.out (by decide)) (fun _ hk => hk.2) (.int .i64 t210)) (fun _ hk => hk.2) (.slice Ao40 t211.length co40)) (fun _ hk => ⟨hk.1.1, hk.1.2⟩)⟩
  have n2_ : Aside0 (Kd.R k34 34 ((w35.setCell ⟨gb214, 0, none⟩ (.int .i64 t210)).setCell ⟨gb214, 1, none⟩ (.slice Ao40 t211.length co40)) w.heap.size (fun k_ => some k_ ≠ (v199 : Value).ownBlock ∧ some k_ ≠ (.slice Ao30 t205.length co30 : Value).ownBlock) (.slice Ao40 t211.length co40) t211) := ⟨by (with_reducible repeat (first | apply Kd.R_alloc | apply Kd.R_drewN | apply Kd.R_drew)); exact Kd.R_mono (Kd.R_far (p := ⟨gb214, 1, none⟩) (Kd.R_far (p := ⟨gb214, 0, none⟩) (Kd.R_types HO213.out BK214.out (by decide)) (fun _ hk => hk.2) (.int .i64 t210)) (fun _ hk => hk.2) (.slice Ao40 t211.length co40)) (fun _ hk => ⟨hk.1.1.2, hk.1.2⟩)⟩
  have n3_ : Aside0 (((w35.setCell ⟨gb214, 0, none⟩ (.int .i64 t210)).setCell ⟨gb214, 1, none⟩ (.slice Ao40 t211.length co40)).heap[gb194]? = some (.cells #[.int .i64 a0_0, .slice A0_1 l0_1.length c0_1] 24 (0, 0))) := ⟨by (with_reducible repeat (first | refine blk_drewN ?_ _ | refine blk_drew ?_ | refine blk_alloc ?_ _)); refine blk_far ?_ NB194_214.out _; (with_reducible repeat (first | refine blk_drewN ?_ _ | refine blk_drew ?_ | refine blk_alloc ?_ _)); refine blk_far ?_ NB194_214.out _; (with_reducible repeat (first | refine blk_drewN ?_ _ | refine blk_drew ?_ | refine blk_alloc ?_ _)); exact BK194.out⟩
  have n4_ : Aside0 (((w35.setCell ⟨gb214, 0, none⟩ (.int .i64 t210)).setCell ⟨gb214, 1, none⟩ (.slice Ao40 t211.length co40)).heap[gb195]? = some (.cells #[.int .i64 a1_0, .int .i64 a1_1, .int .i64 a1_2] 26 (0, 0))) := ⟨by (with_reducible repeat (first | refine blk_drewN ?_ _ | refine blk_drew ?_ | refine blk_alloc ?_ _)); refine blk_far ?_ NB195_214.out _; (with_reducible repeat (first | refine blk_drewN ?_ _ | refine blk_drew ?_ | refine blk_alloc ?_ _)); refine blk_far ?_ NB195_214.out _; (with_reducible repeat (first | refine blk_drewN ?_ _ | refine blk_drew ?_ | refine blk_alloc ?_ _)); exact BK195.out⟩
  have n5_ : Aside0 (((w35.setCell ⟨gb214, 0, none⟩ (.int .i64 t210)).setCell ⟨gb214, 1, none⟩ (.slice Ao40 t211.length co40)).heap[gb209]? = some (.cells #[.int .i64 t204, .slice Ao30 t205.length co30] 30 (0, 0))) := ⟨by (with_reducible repeat (first | refine blk_drewN ?_ _ | refine blk_drew ?_ | refine blk_alloc ?_ _)); refine blk_far ?_ NB209_214.out _; (with_reducible repeat (first | refine blk_drewN ?_ _ | refine blk_drew ?_ | refine blk_alloc ?_ _)); refine blk_far ?_ NB209_214.out _; (with_reducible repeat (first | refine blk_drewN ?_ _ | refine blk_drew ?_ | refine blk_alloc ?_ _)); exact BK209.out⟩
  have n6_ : Aside0 (((w35.setCell ⟨gb214, 0, none⟩ (.int .i64 t210)).setCell ⟨gb214, 1, none⟩ (.slice Ao40 t211.length co40)).heap[gb214]? = some (.cells #[.int .i64 t210, .slice Ao40 t211.length co40] 30 (0, 0))) := ⟨by (with_reducible repeat (first | refine blk_drewN ?_ _ | refine blk_drew ?_ | refine blk_alloc ?_ _)); refine blk_put (cs := #[.int .i64 t210, .slice none 0 0]) ?_ 1 _ rfl; (with_reducible repeat (first | refine blk_drewN ?_ _ | refine blk_drew ?_ | refine blk_alloc ?_ _)); refine blk_put (cs := #[.int .i64 0, .slice none 0 0]) ?_ 0 _ rfl; (with_reducible repeat (first | refine blk_drewN ?_ _ | refine blk_drew ?_ | refine blk_alloc ?_ _)); exact BK214.out⟩
  have n7_ : Aside0 (Below w.heap.size w ((w35.setCell ⟨gb214, 0, none⟩ (.int .i64 t210)).setCell ⟨gb214, 1, none⟩ (.slice Ao40 t211.length co40))) := ⟨by repeat (first | (with_reducible first | exact HB.out | apply below_alloc | apply pw_below_drewN | apply below_drew1 | refine below_set ?_ GE194.out | refine below_set ?_ GE195.out | refine below_set ?_ GE209.out | refine below_set ?_ GE214.out) | exact HB.out)⟩
  (try clear HO200)
  (try clear HO207)
  (try clear HO213)
  (try clear BK194)
  (try clear BK195)
  (try clear BK209)
  (try clear BK214)
  (try clear HB)
  generalize ((w35.setCell ⟨gb214, 0, none⟩ (.int .i64 t210)).setCell ⟨gb214, 1, none⟩ (.slice Ao40 t211.length co40)) = w41 at n0_ n1_ n2_ n3_ n4_ n5_ n6_ n7_ ⊢
  have HO200 := n0_
  have HO207 := n1_
  have HO213 := n2_
  have BK194 := n3_
  have BK195 := n4_
  have BK209 := n5_
  have BK214 := n6_
  have HB := n7_
  clear n0_ n1_ n2_ n3_ n4_ n5_ n6_ n7_
  have n0_ := Aside0.mk (Kd.R_drew HO200.out)
  have n1_ := Aside0.mk (Kd.R_drew HO207.out)
  have n2_ := Aside0.mk (Kd.R_drew HO213.out)
  have n3_ := Aside0.mk (blk_drew BK194.out)
  have n4_ := Aside0.mk (blk_drew BK195.out)
  have n5_ := Aside0.mk (blk_drew BK209.out)
  have n6_ := Aside0.mk (blk_drew BK214.out)
  have n7_ := Aside0.mk (below_drew1 HB.out)
  clear HO200
  clear HO207
  clear HO213
  clear BK194
  clear BK195
  clear BK209
  clear BK214
  clear HB
  have HO200 := n0_
  have HO207 := n1_
  have HO213 := n2_
  have BK194 := n3_
  have BK195 := n4_
  have BK209 := n5_
  have BK214 := n6_
  have HB := n7_
  clear n0_ n1_ n2_ n3_ n4_ n5_ n6_ n7_
  refine start_ (n := 10) (S := fun w' => w'.cell? ⟨gb214, 0, none⟩ = some (.int .i64 t210) ∧ w'.cell? ⟨gb214, 1, none⟩ = some (.slice Ao40 t211.length co40) ∧ w'.cell? ⟨gb195, 0, none⟩ = some (.int .i64 a1_0) ∧ w'.cell? ⟨gb195, 1, none⟩ = some (.int .i64 a1_1) ∧ w'.cell? ⟨gb195, 2, none⟩ = some (.int .i64 a1_2)) (ds := []) #[false, false, false, false, false, false, false, false, false, false] (by kernel_rfl) rfl rfl ⟨bc BK214 0, bc BK214 1, bc BK195 0, bc BK195 1, bc BK195 2⟩ (fun hHeld => ?_); refine with_tabW laws_FnExactAddClue.tab7 laws_FnExactAddClue.bits7 (fun HT_ HW_ => ?_)
  generalize w41.drew = w42 at HO200 HO207 HO213 BK194 BK195 BK209 BK214 HB hHeld ⊢
  refine take_ (i := 0) (N := some 32) (v := ?_) (a' := ?_) #[true, false, false, false, false, false, false, false, false, false] rfl rfl (take_ofW HT_.out HW_.out (by kernel_rfl)) (fun _ _ _ h => h) (Or.inl ⟨by rfl, ?_⟩) hHeld ?_ ?_
  rotate_left
  ·
   rintro w' ⟨s0, s1, s2, s3, s4⟩
   go_simp
   with_reducible rfl
  rotate_left
  ·
   simp only [Act.put, List.setIfInBounds_toArray, List.set_cons_zero, List.set_cons_succ, i64_w, i32_w]
   rfl
  refine take_ (i := 1) (N := some 33) (v := ?_) (a' := ?_) #[true, true, false, false, false, false, false, false, false, false] rfl rfl (take_ofW HT_.out HW_.out (by kernel_rfl)) (fun _ _ _ h => h) (Or.inl ⟨by rfl, ?_⟩) hHeld ?_ ?_
  rotate_left
  ·
   rintro w' ⟨s0, s1, s2, s3, s4⟩
   go_simp
   with_reducible rfl
  rotate_left
  ·
   simp only [Act.put, List.setIfInBounds_toArray, List.set_cons_zero, List.set_cons_succ, i64_w, i32_w]
   rfl
  refine join_ (σ := Value × Nat) 2 #[true, true, true, true, true, true, true, true, false, false] (fun s_ => [(34, .agg #[.int .i64 t215, .int .i64 t216, .int .i64 t217]), (35, .tuple #[.agg #[.int .i64 t218, s_.1], .bool t222]), (9, .pointer (some ⟨s_.2, 0, none⟩)), (31, .tuple #[.agg #[.int .i64 t218, s_.1], .bool t222]), (36, .agg #[.int .i64 t218, s_.1]), (37, .bool t222)]) (fun s_ w' => (w'.cell? ⟨gb214, 0, none⟩ = some (.int .i64 t210) ∧ w'.cell? ⟨gb214, 1, none⟩ = some (.slice Ao40 t211.length co40) ∧ w'.cell? ⟨gb195, 0, none⟩ = some (.int .i64 a1_0) ∧ w'.cell? ⟨gb195, 1, none⟩ = some (.int .i64 a1_1) ∧ w'.cell? ⟨gb195, 2, none⟩ = some (.int .i64 a1_2)) ∧ (Kd.R k34 34 w' w.heap.size (fun k_ => some k_ ≠ (.slice Ao30 t205.length co30 : Value).ownBlock ∧ some k_ ≠ (.slice Ao40 t211.length co40 : Value).ownBlock ∧ some k_ ≠ (s_.1 : Value).ownBlock) v199 t198) ∧ (Kd.R k34 34 w' w.heap.size (fun k_ => some k_ ≠ (v199 : Value).ownBlock ∧ some k_ ≠ (.slice Ao40 t211.length co40 : Value).ownBlock ∧ some k_ ≠ (s_.1 : Value).ownBlock) (.slice Ao30 t205.length co30) t205) ∧ (Kd.R k34 34 w' w.heap.size (fun k_ => some k_ ≠ (v199 : Value).ownBlock ∧ some k_ ≠ (.slice Ao30 t205.length co30 : Value).ownBlock ∧ some k_ ≠ (s_.1 : Value).ownBlock) (.slice Ao40 t211.length co40) t211) ∧ (Kd.R k34 34 w' w.heap.size (fun k_ => some k_ ≠ (v199 : Value).ownBlock ∧ some k_ ≠ (.slice Ao30 t205.length co30 : Value).ownBlock ∧ some k_ ≠ (.slice Ao40 t211.length co40 : Value).ownBlock) s_.1 t219) ∧ (w'.heap[gb194]? = some (.cells #[.int .i64 a0_0, .slice A0_1 l0_1.length c0_1] 24 (0, 0))) ∧ (w'.heap[gb195]? = some (.cells #[.int .i64 a1_0, .int .i64 a1_1, .int .i64 a1_2] 26 (0, 0))) ∧ (w'.heap[gb209]? = some (.cells #[.int .i64 t204, .slice Ao30 t205.length co30] 30 (0, 0))) ∧ (w'.heap[gb214]? = some (.cells #[.int .i64 t210, .slice Ao40 t211.length co40] 30 (0, 0))) ∧ (w'.heap[s_.2]? = some (.cells #[.int .i64 0, .slice none 0 0] 30 (0, 0))) ∧ (w.heap.size ≤ s_.2) ∧ (w.heap.size ≤ s_.2) ∧ (gb194 ≠ s_.2) ∧ (s_.2 ≠ gb194) ∧ (gb195 ≠ s_.2) ∧ (s_.2 ≠ gb195) ∧ (gb209 ≠ s_.2) ∧ (s_.2 ≠ gb209) ∧ (gb214 ≠ s_.2) ∧ (s_.2 ≠ gb214) ∧ (Below w.heap.size w w')) ?_ ?_
  rotate_left
  ·
   intro hCont
   refine two_ (i := 2) (j := 7) (Ni := some 34) (Nj := some 9) #[true, true, true, false, false, false, false, false, false, false] #[true, true, false, false, false, false, false, true, false, false] rfl rfl rfl rfl (two_of HT_.out (by kernel_rfl)) (by decide) (by decide) (fun K hK => ?_) (fun K hK => ?_)
   ·
    skip
    refine goes_ Try.func8 (by kernel_rfl) rfl #[.agg #[.int .i64 a1_0, .int .i64 a1_1, .int .i64 a1_2]] (by rfl) rfl rfl (by (try simp only [List.map_toArray, List.map_cons, List.map_nil]); first | done | rfl | (simp only [List.length_drop, List.length_take]; rfl)) ?_
    with_reducible refine (laws_toClue.calls a1_0 a1_1 a1_2 t215 t216 t217 _ A14.out).mono ?_
    rintro e w43 ⟨rfl, hb⟩
    refine ⟨_, rfl, ?_⟩
    have n0_ := Aside0.mk (Kd.R_below (qr HO200.out) hb)
    have n1_ := Aside0.mk (Kd.R_below (qr HO207.out) hb)
    have n2_ := Aside0.mk (Kd.R_below (qr HO213.out) hb)
    have n3_ := qbb BK194 hb
    have n4_ := qbb BK195 hb
    have n5_ := qbb BK209 hb
    have n6_ := qbb BK214 hb
    have n7_ := Aside0.mk (below_step (qw HB) hb)
    clear HO200
    clear HO207
    clear HO213
    clear BK194
    clear BK195
    clear BK209
    clear BK214
    clear HB
    have HO200 := n0_
    have HO207 := n1_
    have HO213 := n2_
    have BK194 := n3_
    have BK195 := n4_
    have BK209 := n5_
    have BK214 := n6_
    have HB := n7_
    clear n0_ n1_ n2_ n3_ n4_ n5_ n6_ n7_
    (try clear hb)
    (try clear hb2)
    (try clear hk)
    (try clear hi)
    refine hK.out _ _ ⟨bc BK214 0, bc BK214 1, bc BK195 0, bc BK195 1, bc BK195 2⟩ (fun hHeld => ?_)
    clear hK K
    refine norm_ (a' := ?_) ?_ ?_
    rotate_left
    ·
     show Act.put _ (some 34) _ = _
     simp only [Act.put, List.setIfInBounds_toArray, List.set_cons_zero, List.set_cons_succ, i64_w, i32_w]
     rfl
    refine two_ (i := 3) (j := 7) (Ni := some 35) (Nj := some 9) #[true, true, true, true, false, false, false, false, false, false] #[true, true, true, false, false, false, false, true, false, false] rfl rfl rfl rfl (two_of HT_.out (by kernel_rfl)) (by decide) (by decide) (fun K hK => ?_) (fun K hK => ?_)
    ·
     skip
     refine goes_ Try.func9 (by kernel_rfl) rfl #[.agg #[.int .i64 t210, .slice Ao40 t211.length co40], .agg #[.int .i64 t215, .int .i64 t216, .int .i64 t217]] (by rfl) rfl rfl (by (try simp only [List.map_toArray, List.map_cons, List.map_nil]); first | done | rfl | (simp only [List.length_drop, List.length_take]; rfl)) ?_
     with_reducible refine (impl_AddClue.calls t210 _ _ t211 t215 t216 t217 t218 t219 t222 _ ?side1 ?side2 A15.out).mono ?_
     (case side1 => repeat (first | exact (Kd.R_reads' HO213.out).2.2 | (with_reducible refine Kd.C_alloc ?_ _) | (with_reducible refine Kd.C_drewN ?_ _) | (with_reducible refine Kd.C_drew ?_)))
     (case side2 => exact (Kd.R_reads' HO213.out).2.1)
     rintro e w44 ⟨v220, rfl, ho0, hb⟩
     refine ⟨_, rfl, ?_⟩
     have n0_ := Aside0.mk (Kd.R_elder' (qr HO200.out) (Kd.R_base ho0) hb)
     have n1_ := Aside0.mk (Kd.R_elder' (qr HO207.out) (Kd.R_base ho0) hb)
     have n2_ := Aside0.mk (Kd.R_elder' (qr HO213.out) (Kd.R_base ho0) hb)
     have n3_ := Aside0.mk (Kd.R_lower (Kd.R_new' (Kd.R_new' (Kd.R_new' ho0 (Kd.R_lt (qr HO200.out))) (Kd.R_lt (qr HO207.out))) (Kd.R_lt (qr HO213.out))) (below_size (qw HB)))
     have n4_ := qbb BK194 hb
     have n5_ := qbb BK195 hb
     have n6_ := qbb BK209 hb
     have n7_ := qbb BK214 hb
     have n8_ := Aside0.mk (below_step (qw HB) hb)
     clear HO200
     clear HO207
     clear HO213
     clear BK194
     clear BK195
     clear BK209
     clear BK214
     clear HB
     have HO200 := n0_
     have HO207 := n1_
     have HO213 := n2_
     have HO221 := n3_
     have BK194 := n4_
     have BK195 := n5_
     have BK209 := n6_
     have BK214 := n7_
     have HB := n8_
     clear n0_ n1_ n2_ n3_ n4_ n5_ n6_ n7_ n8_
     (try clear hb)
     (try clear hb2)
     (try clear hk)
     (try clear hi)
     (try clear ho0)
     refine hK.out _ _ ⟨bc BK214 0, bc BK214 1, bc BK195 0, bc BK195 1, bc BK195 2⟩ (fun hHeld => ?_)
     clear hK K
     refine norm_ (a' := ?_) ?_ ?_
     rotate_left
     ·
      show Act.put _ (some 35) _ = _
      simp only [Act.put, List.setIfInBounds_toArray, List.set_cons_zero, List.set_cons_succ, i64_w, i32_w]
      rfl
     refine pure_ (i := 4) (N := some 31) (v := ?_) (a' := ?_) #[true, true, true, true, true, false, false, false, false, false] rfl rfl (any_of HT_.out (by kernel_rfl)) (fun _ _ _ h => h) (Or.inl ⟨by rfl, ?_⟩) ?_ ?_
     rotate_left
     ·
      intro w'
      go_simp
      with_reducible rfl
     rotate_left
     ·
      simp only [Act.put, List.setIfInBounds_toArray, List.set_cons_zero, List.set_cons_succ, i64_w, i32_w]
      rfl
     refine pure_ (i := 5) (N := some 36) (v := ?_) (a' := ?_) #[true, true, true, true, true, true, false, false, false, false] rfl rfl (any_of HT_.out (by kernel_rfl)) (fun _ _ _ h => h) (Or.inl ⟨by rfl, ?_⟩) ?_ ?_
     rotate_left
     ·
      intro w'
      go_simp
      with_reducible rfl
     rotate_left
     ·
      simp only [Act.put, List.setIfInBounds_toArray, List.set_cons_zero, List.set_cons_succ, i64_w, i32_w]
      rfl
     refine pure_ (i := 6) (N := some 37) (v := ?_) (a' := ?_) #[true, true, true, true, true, true, true, false, false, false] rfl rfl (any_of HT_.out (by kernel_rfl)) (fun _ _ _ h => h) (Or.inl ⟨by rfl, ?_⟩) ?_ ?_
     rotate_left
     ·
      intro w'
      go_simp
      with_reducible rfl
     rotate_left
     ·
      simp only [Act.put, List.setIfInBounds_toArray, List.set_cons_zero, List.set_cons_succ, i64_w, i32_w]
      rfl
     refine one_ (i := 7) (N := some 9) #[true, true, true, true, true, true, true, true, false, false] rfl rfl (one_of HT_.out (by kernel_rfl)) (by decide) (fun K hK => ?_)
     refine box_step ?hg (N := 9) ?hd (cs := #[.int .i64 0, .slice none 0 0]) (t := 30) ?hr ?_; (case hd => rfl); (case hg => rfl); (case hr => first | (go_simp; done) | (go_simp; rfl))
     intro gb223 hg w45 hbox hb
     have n0_ := Aside0.mk (Kd.R_below (qr HO200.out) hb)
     have n1_ := Aside0.mk (Kd.R_below (qr HO207.out) hb)
     have n2_ := Aside0.mk (Kd.R_below (qr HO213.out) hb)
     have n3_ := Aside0.mk (Kd.R_below (qr HO221.out) hb)
     have n4_ := qbb BK194 hb
     have n5_ := qbb BK195 hb
     have n6_ := qbb BK209 hb
     have n7_ := qbb BK214 hb
     have n8_ := Aside0.mk (below_step (qw HB) hb)
     have n9_ := Aside0.mk (hbox)
     have n10_ := Aside0.mk ((by rw [hg]; exact (below_size (qw HB)) : w.heap.size ≤ gb223))
     have n11_ := Aside0.mk ((by rw [hg]; exact (below_size (qw HB)) : w.heap.size ≤ gb223))
     have n12_ := Aside0.mk ((by rw [hg]; exact Nat.ne_of_lt (blk_lt (qb BK194)) : gb194 ≠ gb223))
     have n13_ := Aside0.mk ((by rw [hg]; exact Nat.ne_of_gt (blk_lt (qb BK194)) : gb223 ≠ gb194))
     have n14_ := Aside0.mk ((by rw [hg]; exact Nat.ne_of_lt (blk_lt (qb BK195)) : gb195 ≠ gb223))
     have n15_ := Aside0.mk ((by rw [hg]; exact Nat.ne_of_gt (blk_lt (qb BK195)) : gb223 ≠ gb195))
     have n16_ := Aside0.mk ((by rw [hg]; exact Nat.ne_of_lt (blk_lt (qb BK209)) : gb209 ≠ gb223))
     have n17_ := Aside0.mk ((by rw [hg]; exact Nat.ne_of_gt (blk_lt (qb BK209)) : gb223 ≠ gb209))
     have n18_ := Aside0.mk ((by rw [hg]; exact Nat.ne_of_lt (blk_lt (qb BK214)) : gb214 ≠ gb223))
     have n19_ := Aside0.mk ((by rw [hg]; exact Nat.ne_of_gt (blk_lt (qb BK214)) : gb223 ≠ gb214))
     clear HO200
     clear HO207
     clear HO213
     clear HO221
     clear BK194
     clear BK195
     clear BK209
     clear BK214
     clear HB
     have HO200 := n0_
     have HO207 := n1_
     have HO213 := n2_
     have HO221 := n3_
     have BK194 := n4_
     have BK195 := n5_
     have BK209 := n6_
     have BK214 := n7_
     have HB := n8_
     have BK223 := n9_
     have GW223 := n10_
     have GE223 := n11_
     have NB194_223 := n12_
     have NB223_194 := n13_
     have NB195_223 := n14_
     have NB223_195 := n15_
     have NB209_223 := n16_
     have NB223_209 := n17_
     have NB214_223 := n18_
     have NB223_214 := n19_
     clear n0_ n1_ n2_ n3_ n4_ n5_ n6_ n7_ n8_ n9_ n10_ n11_ n12_ n13_ n14_ n15_ n16_ n17_ n18_ n19_
     clear hb hbox hg
     refine hK.out _ _ ⟨bc BK214 0, bc BK214 1, bc BK195 0, bc BK195 1, bc BK195 2⟩ (fun hHeld => ?_)
     clear hK K
     refine norm_ (a' := ?_) ?_ ?_
     rotate_left
     ·
      show Act.put _ (some 9) _ = _
      simp only [Act.put, List.setIfInBounds_toArray, List.set_cons_zero, List.set_cons_succ, i64_w, i32_w]
      rfl
     exact norm_ (by simp only [putAll, Act.put, List.setIfInBounds_toArray, List.set_cons_zero, List.set_cons_succ]) (hCont (v220, gb223) _ ⟨hHeld, (qr (Kd.R_mono HO200.out (fun _ hk => ⟨hk.1.1, ⟨hk.1.2, hk.2⟩⟩))), (qr (Kd.R_mono HO207.out (fun _ hk => ⟨hk.1.1, ⟨hk.1.2, hk.2⟩⟩))), (qr (Kd.R_mono HO213.out (fun _ hk => ⟨hk.1.1, ⟨hk.1.2, hk.2⟩⟩))), (qr (Kd.R_mono HO221.out (fun _ hk => ⟨hk.1.1.2, ⟨hk.1.2, hk.2⟩⟩))), (qb BK194), (qb BK195), (qb BK209), (qb BK214), (qb BK223), GW223.out, GE223.out, NB194_223.out, NB223_194.out, NB195_223.out, NB223_195.out, NB209_223.out, NB223_209.out, NB214_223.out, NB223_214.out, (qw HB)⟩)
    ·
     skip
     refine box_step ?hg (N := 9) ?hd (cs := #[.int .i64 0, .slice none 0 0]) (t := 30) ?hr ?_; (case hd => rfl); (case hg => rfl); (case hr => first | (go_simp; done) | (go_simp; rfl))
     intro gb223 hg w44 hbox hb
     have n0_ := Aside0.mk (Kd.R_below (qr HO200.out) hb)
     have n1_ := Aside0.mk (Kd.R_below (qr HO207.out) hb)
     have n2_ := Aside0.mk (Kd.R_below (qr HO213.out) hb)
     have n3_ := qbb BK194 hb
     have n4_ := qbb BK195 hb
     have n5_ := qbb BK209 hb
     have n6_ := qbb BK214 hb
     have n7_ := Aside0.mk (below_step (qw HB) hb)
     have n8_ := Aside0.mk (hbox)
     have n9_ := Aside0.mk ((by rw [hg]; exact (below_size (qw HB)) : w.heap.size ≤ gb223))
     have n10_ := Aside0.mk ((by rw [hg]; exact (below_size (qw HB)) : w.heap.size ≤ gb223))
     have n11_ := Aside0.mk ((by rw [hg]; exact Nat.ne_of_lt (blk_lt (qb BK194)) : gb194 ≠ gb223))
     have n12_ := Aside0.mk ((by rw [hg]; exact Nat.ne_of_gt (blk_lt (qb BK194)) : gb223 ≠ gb194))
     have n13_ := Aside0.mk ((by rw [hg]; exact Nat.ne_of_lt (blk_lt (qb BK195)) : gb195 ≠ gb223))
     have n14_ := Aside0.mk ((by rw [hg]; exact Nat.ne_of_gt (blk_lt (qb BK195)) : gb223 ≠ gb195))
     have n15_ := Aside0.mk ((by rw [hg]; exact Nat.ne_of_lt (blk_lt (qb BK209)) : gb209 ≠ gb223))
     have n16_ := Aside0.mk ((by rw [hg]; exact Nat.ne_of_gt (blk_lt (qb BK209)) : gb223 ≠ gb209))
     have n17_ := Aside0.mk ((by rw [hg]; exact Nat.ne_of_lt (blk_lt (qb BK214)) : gb214 ≠ gb223))
     have n18_ := Aside0.mk ((by rw [hg]; exact Nat.ne_of_gt (blk_lt (qb BK214)) : gb223 ≠ gb214))
     clear HO200
     clear HO207
     clear HO213
     clear BK194
     clear BK195
     clear BK209
     clear BK214
     clear HB
     have HO200 := n0_
     have HO207 := n1_
     have HO213 := n2_
     have BK194 := n3_
     have BK195 := n4_
     have BK209 := n5_
     have BK214 := n6_
     have HB := n7_
     have BK223 := n8_
     have GW223 := n9_
     have GE223 := n10_
     have NB194_223 := n11_
     have NB223_194 := n12_
     have NB195_223 := n13_
     have NB223_195 := n14_
     have NB209_223 := n15_
     have NB223_209 := n16_
     have NB214_223 := n17_
     have NB223_214 := n18_
     clear n0_ n1_ n2_ n3_ n4_ n5_ n6_ n7_ n8_ n9_ n10_ n11_ n12_ n13_ n14_ n15_ n16_ n17_ n18_
     clear hb hbox hg
     refine hK.out _ _ ⟨bc BK214 0, bc BK214 1, bc BK195 0, bc BK195 1, bc BK195 2⟩ (fun hHeld => ?_)
     clear hK K
     refine norm_ (a' := ?_) ?_ ?_
     rotate_left
     ·
      show Act.put _ (some 9) _ = _
      simp only [Act.put, List.setIfInBounds_toArray, List.set_cons_zero, List.set_cons_succ, i64_w, i32_w]
      rfl
     refine one_ (i := 3) (N := some 35) #[true, true, true, true, false, false, false, true, false, false] rfl rfl (one_of HT_.out (by kernel_rfl)) (by decide) (fun K hK => ?_)
     refine goes_ Try.func9 (by kernel_rfl) rfl #[.agg #[.int .i64 t210, .slice Ao40 t211.length co40], .agg #[.int .i64 t215, .int .i64 t216, .int .i64 t217]] (by rfl) rfl rfl (by (try simp only [List.map_toArray, List.map_cons, List.map_nil]); first | done | rfl | (simp only [List.length_drop, List.length_take]; rfl)) ?_
     with_reducible refine (impl_AddClue.calls t210 _ _ t211 t215 t216 t217 t218 t219 t222 _ ?side1 ?side2 A15.out).mono ?_
     (case side1 => repeat (first | exact (Kd.R_reads' HO213.out).2.2 | (with_reducible refine Kd.C_alloc ?_ _) | (with_reducible refine Kd.C_drewN ?_ _) | (with_reducible refine Kd.C_drew ?_)))
     (case side2 => exact (Kd.R_reads' HO213.out).2.1)
     rintro e w45 ⟨v220, rfl, ho0, hb⟩
     refine ⟨_, rfl, ?_⟩
     have n0_ := Aside0.mk (Kd.R_elder' (qr HO200.out) (Kd.R_base ho0) hb)
     have n1_ := Aside0.mk (Kd.R_elder' (qr HO207.out) (Kd.R_base ho0) hb)
     have n2_ := Aside0.mk (Kd.R_elder' (qr HO213.out) (Kd.R_base ho0) hb)
     have n3_ := Aside0.mk (Kd.R_lower (Kd.R_new' (Kd.R_new' (Kd.R_new' ho0 (Kd.R_lt (qr HO200.out))) (Kd.R_lt (qr HO207.out))) (Kd.R_lt (qr HO213.out))) (below_size (qw HB)))
     have n4_ := qbb BK194 hb
     have n5_ := qbb BK195 hb
     have n6_ := qbb BK209 hb
     have n7_ := qbb BK214 hb
     have n8_ := qbb BK223 hb
     have n9_ := Aside0.mk (below_step (qw HB) hb)
     clear HO200
     clear HO207
     clear HO213
     clear BK194
     clear BK195
     clear BK209
     clear BK214
     clear BK223
     clear HB
     have HO200 := n0_
     have HO207 := n1_
     have HO213 := n2_
     have HO221 := n3_
     have BK194 := n4_
     have BK195 := n5_
     have BK209 := n6_
     have BK214 := n7_
     have BK223 := n8_
     have HB := n9_
     clear n0_ n1_ n2_ n3_ n4_ n5_ n6_ n7_ n8_ n9_
     (try clear hb)
     (try clear hb2)
     (try clear hk)
     (try clear hi)
     (try clear ho0)
     refine hK.out _ _ ⟨bc BK214 0, bc BK214 1, bc BK195 0, bc BK195 1, bc BK195 2⟩ (fun hHeld => ?_)
     clear hK K
     refine norm_ (a' := ?_) ?_ ?_
     rotate_left
     ·
      show Act.put _ (some 35) _ = _
      simp only [Act.put, List.setIfInBounds_toArray, List.set_cons_zero, List.set_cons_succ, i64_w, i32_w]
      rfl
     refine pure_ (i := 4) (N := some 31) (v := ?_) (a' := ?_) #[true, true, true, true, true, false, false, true, false, false] rfl rfl (any_of HT_.out (by kernel_rfl)) (fun _ _ _ h => h) (Or.inl ⟨by rfl, ?_⟩) ?_ ?_
     rotate_left
     ·
      intro w'
      go_simp
      with_reducible rfl
     rotate_left
     ·
      simp only [Act.put, List.setIfInBounds_toArray, List.set_cons_zero, List.set_cons_succ, i64_w, i32_w]
      rfl
     refine pure_ (i := 5) (N := some 36) (v := ?_) (a' := ?_) #[true, true, true, true, true, true, false, true, false, false] rfl rfl (any_of HT_.out (by kernel_rfl)) (fun _ _ _ h => h) (Or.inl ⟨by rfl, ?_⟩) ?_ ?_
     rotate_left
     ·
      intro w'
      go_simp
      with_reducible rfl
     rotate_left
     ·
      simp only [Act.put, List.setIfInBounds_toArray, List.set_cons_zero, List.set_cons_succ, i64_w, i32_w]
      rfl
     refine pure_ (i := 6) (N := some 37) (v := ?_) (a' := ?_) #[true, true, true, true, true, true, true, true, false, false] rfl rfl (any_of HT_.out (by kernel_rfl)) (fun _ _ _ h => h) (Or.inl ⟨by rfl, ?_⟩) ?_ ?_
     rotate_left
     ·
      intro w'
      go_simp
      with_reducible rfl
     rotate_left
     ·
      simp only [Act.put, List.setIfInBounds_toArray, List.set_cons_zero, List.set_cons_succ, i64_w, i32_w]
      rfl
     exact norm_ (by simp only [putAll, Act.put, List.setIfInBounds_toArray, List.set_cons_zero, List.set_cons_succ]) (hCont (v220, gb223) _ ⟨hHeld, (qr (Kd.R_mono HO200.out (fun _ hk => ⟨hk.1.1, ⟨hk.1.2, hk.2⟩⟩))), (qr (Kd.R_mono HO207.out (fun _ hk => ⟨hk.1.1, ⟨hk.1.2, hk.2⟩⟩))), (qr (Kd.R_mono HO213.out (fun _ hk => ⟨hk.1.1, ⟨hk.1.2, hk.2⟩⟩))), (qr (Kd.R_mono HO221.out (fun _ hk => ⟨hk.1.1.2, ⟨hk.1.2, hk.2⟩⟩))), (qb BK194), (qb BK195), (qb BK209), (qb BK214), (qb BK223), GW223.out, GE223.out, NB194_223.out, NB223_194.out, NB195_223.out, NB223_195.out, NB209_223.out, NB223_209.out, NB214_223.out, NB223_214.out, (qw HB)⟩)
   ·
    skip
    refine box_step ?hg (N := 9) ?hd (cs := #[.int .i64 0, .slice none 0 0]) (t := 30) ?hr ?_; (case hd => rfl); (case hg => rfl); (case hr => first | (go_simp; done) | (go_simp; rfl))
    intro gb223 hg w43 hbox hb
    have n0_ := Aside0.mk (Kd.R_below (qr HO200.out) hb)
    have n1_ := Aside0.mk (Kd.R_below (qr HO207.out) hb)
    have n2_ := Aside0.mk (Kd.R_below (qr HO213.out) hb)
    have n3_ := qbb BK194 hb
    have n4_ := qbb BK195 hb
    have n5_ := qbb BK209 hb
    have n6_ := qbb BK214 hb
    have n7_ := Aside0.mk (below_step (qw HB) hb)
    have n8_ := Aside0.mk (hbox)
    have n9_ := Aside0.mk ((by rw [hg]; exact (below_size (qw HB)) : w.heap.size ≤ gb223))
    have n10_ := Aside0.mk ((by rw [hg]; exact (below_size (qw HB)) : w.heap.size ≤ gb223))
    have n11_ := Aside0.mk ((by rw [hg]; exact Nat.ne_of_lt (blk_lt (qb BK194)) : gb194 ≠ gb223))
    have n12_ := Aside0.mk ((by rw [hg]; exact Nat.ne_of_gt (blk_lt (qb BK194)) : gb223 ≠ gb194))
    have n13_ := Aside0.mk ((by rw [hg]; exact Nat.ne_of_lt (blk_lt (qb BK195)) : gb195 ≠ gb223))
    have n14_ := Aside0.mk ((by rw [hg]; exact Nat.ne_of_gt (blk_lt (qb BK195)) : gb223 ≠ gb195))
    have n15_ := Aside0.mk ((by rw [hg]; exact Nat.ne_of_lt (blk_lt (qb BK209)) : gb209 ≠ gb223))
    have n16_ := Aside0.mk ((by rw [hg]; exact Nat.ne_of_gt (blk_lt (qb BK209)) : gb223 ≠ gb209))
    have n17_ := Aside0.mk ((by rw [hg]; exact Nat.ne_of_lt (blk_lt (qb BK214)) : gb214 ≠ gb223))
    have n18_ := Aside0.mk ((by rw [hg]; exact Nat.ne_of_gt (blk_lt (qb BK214)) : gb223 ≠ gb214))
    clear HO200
    clear HO207
    clear HO213
    clear BK194
    clear BK195
    clear BK209
    clear BK214
    clear HB
    have HO200 := n0_
    have HO207 := n1_
    have HO213 := n2_
    have BK194 := n3_
    have BK195 := n4_
    have BK209 := n5_
    have BK214 := n6_
    have HB := n7_
    have BK223 := n8_
    have GW223 := n9_
    have GE223 := n10_
    have NB194_223 := n11_
    have NB223_194 := n12_
    have NB195_223 := n13_
    have NB223_195 := n14_
    have NB209_223 := n15_
    have NB223_209 := n16_
    have NB214_223 := n17_
    have NB223_214 := n18_
    clear n0_ n1_ n2_ n3_ n4_ n5_ n6_ n7_ n8_ n9_ n10_ n11_ n12_ n13_ n14_ n15_ n16_ n17_ n18_
    clear hb hbox hg
    refine hK.out _ _ ⟨bc BK214 0, bc BK214 1, bc BK195 0, bc BK195 1, bc BK195 2⟩ (fun hHeld => ?_)
    clear hK K
    refine norm_ (a' := ?_) ?_ ?_
    rotate_left
    ·
     show Act.put _ (some 9) _ = _
     simp only [Act.put, List.setIfInBounds_toArray, List.set_cons_zero, List.set_cons_succ, i64_w, i32_w]
     rfl
    refine one_ (i := 2) (N := some 34) #[true, true, true, false, false, false, false, true, false, false] rfl rfl (one_of HT_.out (by kernel_rfl)) (by decide) (fun K hK => ?_)
    refine goes_ Try.func8 (by kernel_rfl) rfl #[.agg #[.int .i64 a1_0, .int .i64 a1_1, .int .i64 a1_2]] (by rfl) rfl rfl (by (try simp only [List.map_toArray, List.map_cons, List.map_nil]); first | done | rfl | (simp only [List.length_drop, List.length_take]; rfl)) ?_
    with_reducible refine (laws_toClue.calls a1_0 a1_1 a1_2 t215 t216 t217 _ A14.out).mono ?_
    rintro e w44 ⟨rfl, hb⟩
    refine ⟨_, rfl, ?_⟩
    have n0_ := Aside0.mk (Kd.R_below (qr HO200.out) hb)
    have n1_ := Aside0.mk (Kd.R_below (qr HO207.out) hb)
    have n2_ := Aside0.mk (Kd.R_below (qr HO213.out) hb)
    have n3_ := qbb BK194 hb
    have n4_ := qbb BK195 hb
    have n5_ := qbb BK209 hb
    have n6_ := qbb BK214 hb
    have n7_ := qbb BK223 hb
    have n8_ := Aside0.mk (below_step (qw HB) hb)
    clear HO200
    clear HO207
    clear HO213
    clear BK194
    clear BK195
    clear BK209
    clear BK214
    clear BK223
    clear HB
    have HO200 := n0_
    have HO207 := n1_
    have HO213 := n2_
    have BK194 := n3_
    have BK195 := n4_
    have BK209 := n5_
    have BK214 := n6_
    have BK223 := n7_
    have HB := n8_
    clear n0_ n1_ n2_ n3_ n4_ n5_ n6_ n7_ n8_
    (try clear hb)
    (try clear hb2)
    (try clear hk)
    (try clear hi)
    refine hK.out _ _ ⟨bc BK214 0, bc BK214 1, bc BK195 0, bc BK195 1, bc BK195 2⟩ (fun hHeld => ?_)
    clear hK K
    refine norm_ (a' := ?_) ?_ ?_
    rotate_left
    ·
     show Act.put _ (some 34) _ = _
     simp only [Act.put, List.setIfInBounds_toArray, List.set_cons_zero, List.set_cons_succ, i64_w, i32_w]
     rfl
    refine one_ (i := 3) (N := some 35) #[true, true, true, true, false, false, false, true, false, false] rfl rfl (one_of HT_.out (by kernel_rfl)) (by decide) (fun K hK => ?_)
    refine goes_ Try.func9 (by kernel_rfl) rfl #[.agg #[.int .i64 t210, .slice Ao40 t211.length co40], .agg #[.int .i64 t215, .int .i64 t216, .int .i64 t217]] (by rfl) rfl rfl (by (try simp only [List.map_toArray, List.map_cons, List.map_nil]); first | done | rfl | (simp only [List.length_drop, List.length_take]; rfl)) ?_
    with_reducible refine (impl_AddClue.calls t210 _ _ t211 t215 t216 t217 t218 t219 t222 _ ?side1 ?side2 A15.out).mono ?_
    (case side1 => repeat (first | exact (Kd.R_reads' HO213.out).2.2 | (with_reducible refine Kd.C_alloc ?_ _) | (with_reducible refine Kd.C_drewN ?_ _) | (with_reducible refine Kd.C_drew ?_)))
    (case side2 => exact (Kd.R_reads' HO213.out).2.1)
    rintro e w45 ⟨v220, rfl, ho0, hb⟩
    refine ⟨_, rfl, ?_⟩
    have n0_ := Aside0.mk (Kd.R_elder' (qr HO200.out) (Kd.R_base ho0) hb)
    have n1_ := Aside0.mk (Kd.R_elder' (qr HO207.out) (Kd.R_base ho0) hb)
    have n2_ := Aside0.mk (Kd.R_elder' (qr HO213.out) (Kd.R_base ho0) hb)
    have n3_ := Aside0.mk (Kd.R_lower (Kd.R_new' (Kd.R_new' (Kd.R_new' ho0 (Kd.R_lt (qr HO200.out))) (Kd.R_lt (qr HO207.out))) (Kd.R_lt (qr HO213.out))) (below_size (qw HB)))
    have n4_ := qbb BK194 hb
    have n5_ := qbb BK195 hb
    have n6_ := qbb BK209 hb
    have n7_ := qbb BK214 hb
    have n8_ := qbb BK223 hb
    have n9_ := Aside0.mk (below_step (qw HB) hb)
    clear HO200
    clear HO207
    clear HO213
    clear BK194
    clear BK195
    clear BK209
    clear BK214
    clear BK223
    clear HB
    have HO200 := n0_
    have HO207 := n1_
    have HO213 := n2_
    have HO221 := n3_
    have BK194 := n4_
    have BK195 := n5_
    have BK209 := n6_
    have BK214 := n7_
    have BK223 := n8_
    have HB := n9_
    clear n0_ n1_ n2_ n3_ n4_ n5_ n6_ n7_ n8_ n9_
    (try clear hb)
    (try clear hb2)
    (try clear hk)
    (try clear hi)
    (try clear ho0)
    refine hK.out _ _ ⟨bc BK214 0, bc BK214 1, bc BK195 0, bc BK195 1, bc BK195 2⟩ (fun hHeld => ?_)
    clear hK K
    refine norm_ (a' := ?_) ?_ ?_
    rotate_left
    ·
     show Act.put _ (some 35) _ = _
     simp only [Act.put, List.setIfInBounds_toArray, List.set_cons_zero, List.set_cons_succ, i64_w, i32_w]
     rfl
    refine pure_ (i := 4) (N := some 31) (v := ?_) (a' := ?_) #[true, true, true, true, true, false, false, true, false, false] rfl rfl (any_of HT_.out (by kernel_rfl)) (fun _ _ _ h => h) (Or.inl ⟨by rfl, ?_⟩) ?_ ?_
    rotate_left
    ·
     intro w'
     go_simp
     with_reducible rfl
    rotate_left
    ·
     simp only [Act.put, List.setIfInBounds_toArray, List.set_cons_zero, List.set_cons_succ, i64_w, i32_w]
     rfl
    refine pure_ (i := 5) (N := some 36) (v := ?_) (a' := ?_) #[true, true, true, true, true, true, false, true, false, false] rfl rfl (any_of HT_.out (by kernel_rfl)) (fun _ _ _ h => h) (Or.inl ⟨by rfl, ?_⟩) ?_ ?_
    rotate_left
    ·
     intro w'
     go_simp
     with_reducible rfl
    rotate_left
    ·
     simp only [Act.put, List.setIfInBounds_toArray, List.set_cons_zero, List.set_cons_succ, i64_w, i32_w]
     rfl
    refine pure_ (i := 6) (N := some 37) (v := ?_) (a' := ?_) #[true, true, true, true, true, true, true, true, false, false] rfl rfl (any_of HT_.out (by kernel_rfl)) (fun _ _ _ h => h) (Or.inl ⟨by rfl, ?_⟩) ?_ ?_
    rotate_left
    ·
     intro w'
     go_simp
     with_reducible rfl
    rotate_left
    ·
     simp only [Act.put, List.setIfInBounds_toArray, List.set_cons_zero, List.set_cons_succ, i64_w, i32_w]
     rfl
    exact norm_ (by simp only [putAll, Act.put, List.setIfInBounds_toArray, List.set_cons_zero, List.set_cons_succ]) (hCont (v220, gb223) _ ⟨hHeld, (qr (Kd.R_mono HO200.out (fun _ hk => ⟨hk.1.1, ⟨hk.1.2, hk.2⟩⟩))), (qr (Kd.R_mono HO207.out (fun _ hk => ⟨hk.1.1, ⟨hk.1.2, hk.2⟩⟩))), (qr (Kd.R_mono HO213.out (fun _ hk => ⟨hk.1.1, ⟨hk.1.2, hk.2⟩⟩))), (qr (Kd.R_mono HO221.out (fun _ hk => ⟨hk.1.1.2, ⟨hk.1.2, hk.2⟩⟩))), (qb BK194), (qb BK195), (qb BK209), (qb BK214), (qb BK223), GW223.out, GE223.out, NB194_223.out, NB223_194.out, NB195_223.out, NB223_195.out, NB209_223.out, NB223_209.out, NB214_223.out, NB223_214.out, (qw HB)⟩)
  rintro ⟨v220, gb223⟩ w46 ⟨hS_, h0_, h1_, h2_, h3_, h4_, h5_, h6_, h7_, h8_, h9_, h10_, h11_, h12_, h13_, h14_, h15_, h16_, h17_, h18_, h19_⟩
  have n0_ : Aside0 (Kd.R k34 34 w46 w.heap.size (fun k_ => some k_ ≠ (.slice Ao30 t205.length co30 : Value).ownBlock ∧ some k_ ≠ (.slice Ao40 t211.length co40 : Value).ownBlock ∧ some k_ ≠ (v220 : Value).ownBlock) v199 t198) := ⟨h0_⟩
  have n1_ : Aside0 (Kd.R k34 34 w46 w.heap.size (fun k_ => some k_ ≠ (v199 : Value).ownBlock ∧ some k_ ≠ (.slice Ao40 t211.length co40 : Value).ownBlock ∧ some k_ ≠ (v220 : Value).ownBlock) (.slice Ao30 t205.length co30) t205) := ⟨h1_⟩
  have n2_ : Aside0 (Kd.R k34 34 w46 w.heap.size (fun k_ => some k_ ≠ (v199 : Value).ownBlock ∧ some k_ ≠ (.slice Ao30 t205.length co30 : Value).ownBlock ∧ some k_ ≠ (v220 : Value).ownBlock) (.slice Ao40 t211.length co40) t211) := ⟨h2_⟩
  have n3_ : Aside0 (Kd.R k34 34 w46 w.heap.size (fun k_ => some k_ ≠ (v199 : Value).ownBlock ∧ some k_ ≠ (.slice Ao30 t205.length co30 : Value).ownBlock ∧ some k_ ≠ (.slice Ao40 t211.length co40 : Value).ownBlock) v220 t219) := ⟨h3_⟩
  have n4_ : Aside0 (w46.heap[gb194]? = some (.cells #[.int .i64 a0_0, .slice A0_1 l0_1.length c0_1] 24 (0, 0))) := ⟨h4_⟩
  have n5_ : Aside0 (w46.heap[gb195]? = some (.cells #[.int .i64 a1_0, .int .i64 a1_1, .int .i64 a1_2] 26 (0, 0))) := ⟨h5_⟩
  have n6_ : Aside0 (w46.heap[gb209]? = some (.cells #[.int .i64 t204, .slice Ao30 t205.length co30] 30 (0, 0))) := ⟨h6_⟩
  have n7_ : Aside0 (w46.heap[gb214]? = some (.cells #[.int .i64 t210, .slice Ao40 t211.length co40] 30 (0, 0))) := ⟨h7_⟩
  have n8_ : Aside0 (w46.heap[gb223]? = some (.cells #[.int .i64 0, .slice none 0 0] 30 (0, 0))) := ⟨h8_⟩
  have n9_ : Aside0 (w.heap.size ≤ gb223) := ⟨h9_⟩
  have n10_ : Aside0 (w.heap.size ≤ gb223) := ⟨h10_⟩
  have n11_ : Aside0 (gb194 ≠ gb223) := ⟨h11_⟩
  have n12_ : Aside0 (gb223 ≠ gb194) := ⟨h12_⟩
  have n13_ : Aside0 (gb195 ≠ gb223) := ⟨h13_⟩
  have n14_ : Aside0 (gb223 ≠ gb195) := ⟨h14_⟩
  have n15_ : Aside0 (gb209 ≠ gb223) := ⟨h15_⟩
  have n16_ : Aside0 (gb223 ≠ gb209) := ⟨h16_⟩
  have n17_ : Aside0 (gb214 ≠ gb223) := ⟨h17_⟩
  have n18_ : Aside0 (gb223 ≠ gb214) := ⟨h18_⟩
  have n19_ : Aside0 (Below w.heap.size w w46) := ⟨h19_⟩
  clear HO200
  clear HO207
  clear HO213
  clear BK194
  clear BK195
  clear BK209
  clear BK214
  clear HB
  clear h0_ h1_ h2_ h3_ h4_ h5_ h6_ h7_ h8_ h9_ h10_ h11_ h12_ h13_ h14_ h15_ h16_ h17_ h18_ h19_
  have HO200 := n0_
  have HO207 := n1_
  have HO213 := n2_
  have HO221 := n3_
  have BK194 := n4_
  have BK195 := n5_
  have BK209 := n6_
  have BK214 := n7_
  have BK223 := n8_
  have GW223 := n9_
  have GE223 := n10_
  have NB194_223 := n11_
  have NB223_194 := n12_
  have NB195_223 := n13_
  have NB223_195 := n14_
  have NB209_223 := n15_
  have NB223_209 := n16_
  have NB214_223 := n17_
  have NB223_214 := n18_
  have HB := n19_
  clear n0_ n1_ n2_ n3_ n4_ n5_ n6_ n7_ n8_ n9_ n10_ n11_ n12_ n13_ n14_ n15_ n16_ n17_ n18_ n19_
  have hHeld : w46.cell? ⟨gb214, 0, none⟩ = some (.int .i64 t210) ∧ w46.cell? ⟨gb214, 1, none⟩ = some (.slice Ao40 t211.length co40) ∧ w46.cell? ⟨gb195, 0, none⟩ = some (.int .i64 a1_0) ∧ w46.cell? ⟨gb195, 1, none⟩ = some (.int .i64 a1_1) ∧ w46.cell? ⟨gb195, 2, none⟩ = some (.int .i64 a1_2) := hS_
  obtain ⟨Ao48, co48, eo48⟩ := Kd.R_slice HO221.out
  (first | subst eo48 | (injection eo48 with f1_ f2_ f3_; have f4_ := f1_.symm; have f5_ := f3_.symm; clear f1_ f2_ f3_; subst f4_; subst f5_))
  refine norm_ (a' := ?_) ?_ ?_
  rotate_left
  ·
   simp only [putAll, Act.put, List.setIfInBounds_toArray, List.set_cons_zero, List.set_cons_succ]
   rfl
  refine one_ (i := 8) (N := none) #[true, true, true, true, true, true, true, true, true, false] rfl rfl (one_of HT_.out (by kernel_rfl)) (by decide) (fun K hK => ?_)
  have hs47 : w46.cell? ⟨gb223, 0, none⟩ = some (.int .i64 0) := bc BK223 0
  have hfs47 := blk_frozen BK223.out 0
  have hns47_0 := NB194_223.out
  have hns47_1 := NB195_223.out
  have hns47_2 := NB209_223.out
  have hns47_3 := NB214_223.out
  have hms47_0 := NB223_194.out
  have hms47_1 := NB223_195.out
  have hms47_2 := NB223_209.out
  have hms47_3 := NB223_214.out
  have hs49 : w46.cell? ⟨gb223, 1, none⟩ = some (.slice none 0 0) := bc BK223 1
  have hfs49 := blk_frozen BK223.out 1
  have hns49_0 := NB194_223.out
  have hns49_1 := NB195_223.out
  have hns49_2 := NB209_223.out
  have hns49_3 := NB214_223.out
  have hms49_0 := NB223_194.out
  have hms49_1 := NB223_195.out
  have hms49_2 := NB223_209.out
  have hms49_3 := NB223_214.out
  refine skip_ (w1 := ?_) (by rfl) rfl ?_ ?_
  rotate_left
  ·
   go_simp
   rfl
  refine hK.out _ _ ⟨((cell_far (p := ⟨gb223, _, none⟩) NB214_223.out _).trans (((cell_far (p := ⟨gb223, _, none⟩) NB214_223.out _).trans (hHeld.1)))), ((cell_far (p := ⟨gb223, _, none⟩) NB214_223.out _).trans (((cell_far (p := ⟨gb223, _, none⟩) NB214_223.out _).trans (hHeld.2.1)))), ((cell_far (p := ⟨gb223, _, none⟩) NB195_223.out _).trans (((cell_far (p := ⟨gb223, _, none⟩) NB195_223.out _).trans (hHeld.2.2.1)))), ((cell_far (p := ⟨gb223, _, none⟩) NB195_223.out _).trans (((cell_far (p := ⟨gb223, _, none⟩) NB195_223.out _).trans (hHeld.2.2.2.1)))), ((cell_far (p := ⟨gb223, _, none⟩) NB195_223.out _).trans (((cell_far (p := ⟨gb223, _, none⟩) NB195_223.out _).trans (hHeld.2.2.2.2))))⟩ (fun hHeld => ?_)
  clear hK K
  refine pure_ (i := 9) (N := some 10) (v := ?_) (a' := ?_) #[true, true, true, true, true, true, true, true, true, true] rfl rfl (any_of HT_.out (by kernel_rfl)) (fun _ _ _ h => h) (Or.inl ⟨by rfl, ?_⟩) ?_ ?_
  rotate_left
  ·
   intro w'
   go_simp
   with_reducible rfl
  rotate_left
  ·
   simp only [Act.put, List.setIfInBounds_toArray, List.set_cons_zero, List.set_cons_succ, i64_w, i32_w]
   rfl
  refine done_ (done_of HT_.out (by kernel_rfl)) ?_
  go_upto_region 8 with (fail)
  go_cut [46] (fun v46 wc => ∃ (kq : Nat) (x46_15 : Bool), v46 = .bool x46_15 ∧ Aside0 (laws_FnExactAddClue.j0 kq t208 t222 x46_15 a0_0 l0_1 a1_0 a1_1 a1_2 t204 t205 t210 t211 t218 t219 = some r) ∧ Aside0 (kq ≤ k) ∧ Aside0 (Kd.R k34 34 wc w.heap.size (fun k_ => some k_ ≠ ((.slice Ao40 t211.length co40) : Value).ownBlock ∧ some k_ ≠ ((.slice Ao48 t219.length co48) : Value).ownBlock) (.slice Ao30 t205.length co30) t205) ∧ Aside0 (Kd.R k34 34 wc w.heap.size (fun k_ => some k_ ≠ ((.slice Ao30 t205.length co30) : Value).ownBlock ∧ some k_ ≠ ((.slice Ao48 t219.length co48) : Value).ownBlock) (.slice Ao40 t211.length co40) t211) ∧ Aside0 (Kd.R k34 34 wc w.heap.size (fun k_ => some k_ ≠ ((.slice Ao30 t205.length co30) : Value).ownBlock ∧ some k_ ≠ ((.slice Ao40 t211.length co40) : Value).ownBlock) (.slice Ao48 t219.length co48) t219) ∧ Aside0 (wc.heap[gb194]? = some (.cells #[.int .i64 a0_0, (.slice A0_1 l0_1.length c0_1)] 24 (0, 0))) ∧ Aside0 (wc.heap[gb195]? = some (.cells #[.int .i64 a1_0, .int .i64 a1_1, .int .i64 a1_2] 26 (0, 0))) ∧ Aside0 (wc.heap[gb209]? = some (.cells #[.int .i64 t204, (.slice Ao30 t205.length co30)] 30 (0, 0))) ∧ Aside0 (wc.heap[gb214]? = some (.cells #[.int .i64 t210, (.slice Ao40 t211.length co40)] 30 (0, 0))) ∧ Aside0 (wc.heap[gb223]? = some (.cells #[.int .i64 t218, (.slice Ao48 t219.length co48)] 30 (0, 0))) ∧ Aside0 (Below w.heap.size w wc))
  case first =>
   have H := HC16.out
   clear HC16
   replace H := Option.bind_eq_some_iff.mp H
   obtain ⟨t224, A500, H⟩ := H
   replace H : (if t224 = true then (laws_FnExactAddClue.j0 k t208 t222 (t222 != t208) a0_0 l0_1 a1_0 a1_1 a1_2 t204 t205 t210 t211 t218 t219) else (laws_FnExactAddClue.j0 k t208 t222 true a0_0 l0_1 a1_0 a1_1 a1_2 t204 t205 t210 t211 t218 t219)) = some r := H
   have A50 := Aside0.mk A500
   clear A500
   by_cases c51 : t224 = true
   ·
    subst c51
    have H1 : (laws_FnExactAddClue.j0 k t208 t222 (t222 != t208) a0_0 l0_1 a1_0 a1_1 a1_2 t204 t205 t210 t211 t218 t219) = some r := by rw [if_pos rfl] at H; exact H
    clear H
    have H := H1
    clear H1
    have H' := Aside0.mk H
    clear H
    have hnb52 := NB223_194.out
    have hnc52 := NB194_223.out
    have hnb53 := NB223_195.out
    have hnc53 := NB195_223.out
    have hnb54 := NB223_209.out
    have hnc54 := NB209_223.out
    have hnb55 := NB223_214.out
    have hnc55 := NB214_223.out
    have hcz56_0 : w46.cell? ⟨gb223, 0, none⟩ = some (.int .i64 0) := bc BK223 0
    have hcz56_1 : w46.cell? ⟨gb223, 1, none⟩ = some (.slice none 0 0) := bc BK223 1
    have hfz56_0 := blk_frozen BK223.out 0
    have hfz56_1 := blk_frozen BK223.out 1
    have hnb57 := NB209_194.out
    have hnc57 := NB194_209.out
    have hnb58 := NB209_195.out
    have hnc58 := NB195_209.out
    have hnb59 := NB209_214.out
    have hnc59 := NB214_209.out
    have hcz60_0 : w46.cell? ⟨gb209, 0, none⟩ = some (.int .i64 t204) := bc BK209 0
    have hcz60_1 : w46.cell? ⟨gb209, 1, none⟩ = some (.slice Ao30 t205.length co30) := bc BK209 1
    have hfz60_0 := blk_frozen BK209.out 0
    have hfz60_1 := blk_frozen BK209.out 1
    go_wp2_with (first | ((with_reducible refine gate_callee (f := 10) rfl ?_); refine goesL_ (some 40) rfl rfl Try.func10 (by kernel_rfl) rfl #[.agg #[.int .i64 t218, .slice Ao48 t219.length co48], .agg #[.int .i64 t204, .slice Ao30 t205.length co30]] rfl (by (try simp only [List.map_toArray, List.map_cons, List.map_nil]); first | done | rfl | (simp only [List.length_drop, List.length_take]; rfl)) ?_; (with_reducible refine (laws_eqPuzzle.calls k t218 _ _ t219 t204 _ _ t205 true _ ?side1 ?side2 ?side3 ?side4 A50.out).mono ?_); (case side1 => refine (Kd.R_reads' (e := 34) (base := w.heap.size) (ok := fun k_ => (some k_ ≠ (v199 : Value).ownBlock ∧ (some k_ ≠ (.slice Ao30 t205.length co30 : Value).ownBlock ∧ some k_ ≠ (.slice Ao40 t211.length co40 : Value).ownBlock))) (n := t219.length) (c := co48) ?_).2.2; exact (qr (Kd.R_mono (Kd.R_far (p := ⟨gb223, 1, none⟩) (Kd.R_far (p := ⟨gb223, 0, none⟩) (Kd.R_types HO221.out BK223.out (by decide)) (fun _ hk => hk.2) (.int .i64 t218)) (fun _ hk => hk.2) (.slice Ao48 t219.length co48)) (fun _ h_ => h_.1)))); (case side2 => exact (Kd.R_reads' HO221.out).2.1); (case side3 => refine (Kd.R_reads' (e := 34) (base := w.heap.size) (ok := fun k_ => (some k_ ≠ (v199 : Value).ownBlock ∧ (some k_ ≠ (.slice Ao40 t211.length co40 : Value).ownBlock ∧ some k_ ≠ (.slice Ao48 t219.length co48 : Value).ownBlock))) (n := t205.length) (c := co30) ?_).2.2; exact (qr (Kd.R_mono (Kd.R_far (p := ⟨gb223, 1, none⟩) (Kd.R_far (p := ⟨gb223, 0, none⟩) (Kd.R_types HO207.out BK223.out (by decide)) (fun _ hk => hk.2) (.int .i64 t218)) (fun _ hk => hk.2) (.slice Ao48 t219.length co48)) (fun _ h_ => h_.1)))); (case side4 => exact (Kd.R_reads' HO207.out).2.1); rintro e w61 ⟨rfl, hb⟩; refine ⟨_, rfl, ?_⟩; have n0_ := Aside0.mk (Kd.R_below (qr (Kd.R_mono (Kd.R_far (p := ⟨gb223, 1, none⟩) (Kd.R_far (p := ⟨gb223, 0, none⟩) (Kd.R_types HO200.out BK223.out (by decide)) (fun _ hk => hk.2) (.int .i64 t218)) (fun _ hk => hk.2) (.slice Ao48 t219.length co48)) (fun _ h_ => h_.1))) hb); have n1_ := Aside0.mk (Kd.R_below (qr (Kd.R_mono (Kd.R_far (p := ⟨gb223, 1, none⟩) (Kd.R_far (p := ⟨gb223, 0, none⟩) (Kd.R_types HO207.out BK223.out (by decide)) (fun _ hk => hk.2) (.int .i64 t218)) (fun _ hk => hk.2) (.slice Ao48 t219.length co48)) (fun _ h_ => h_.1))) hb); have n2_ := Aside0.mk (Kd.R_below (qr (Kd.R_mono (Kd.R_far (p := ⟨gb223, 1, none⟩) (Kd.R_far (p := ⟨gb223, 0, none⟩) (Kd.R_types HO213.out BK223.out (by decide)) (fun _ hk => hk.2) (.int .i64 t218)) (fun _ hk => hk.2) (.slice Ao48 t219.length co48)) (fun _ h_ => h_.1))) hb); have n3_ := Aside0.mk (Kd.R_below (qr (Kd.R_mono (Kd.R_far (p := ⟨gb223, 1, none⟩) (Kd.R_far (p := ⟨gb223, 0, none⟩) (Kd.R_types HO221.out BK223.out (by decide)) (fun _ hk => hk.2) (.int .i64 t218)) (fun _ hk => hk.2) (.slice Ao48 t219.length co48)) (fun _ h_ => h_.1))) hb); have n4_ := Aside0.mk (blk_below (g := gb194) (o := .cells #[.int .i64 a0_0, .slice A0_1 l0_1.length c0_1] 24 (0, 0)) (by (with_reducible repeat (first | refine blk_drewN ?_ _ | refine blk_drew ?_ | refine blk_alloc ?_ _)); refine blk_far ?_ NB194_223.out _; (with_reducible repeat (first | refine blk_drewN ?_ _ | refine blk_drew ?_ | refine blk_alloc ?_ _)); refine blk_far ?_ NB194_223.out _; (with_reducible repeat (first | refine blk_drewN ?_ _ | refine blk_drew ?_ | refine blk_alloc ?_ _)); exact BK194.out) hb); have n5_ := Aside0.mk (blk_below (g := gb195) (o := .cells #[.int .i64 a1_0, .int .i64 a1_1, .int .i64 a1_2] 26 (0, 0)) (by (with_reducible repeat (first | refine blk_drewN ?_ _ | refine blk_drew ?_ | refine blk_alloc ?_ _)); refine blk_far ?_ NB195_223.out _; (with_reducible repeat (first | refine blk_drewN ?_ _ | refine blk_drew ?_ | refine blk_alloc ?_ _)); refine blk_far ?_ NB195_223.out _; (with_reducible repeat (first | refine blk_drewN ?_ _ | refine blk_drew ?_ | refine blk_alloc ?_ _)); exact BK195.out) hb); have n6_ := Aside0.mk (blk_below (g := gb209) (o := .cells #[.int .i64 t204, .slice Ao30 t205.length co30] 30 (0, 0)) (by (with_reducible repeat (first | refine blk_drewN ?_ _ | refine blk_drew ?_ | refine blk_alloc ?_ _)); refine blk_far ?_ NB209_223.out _; (with_reducible repeat (first | refine blk_drewN ?_ _ | refine blk_drew ?_ | refine blk_alloc ?_ _)); refine blk_far ?_ NB209_223.out _; (with_reducible repeat (first | refine blk_drewN ?_ _ | refine blk_drew ?_ | refine blk_alloc ?_ _)); exact BK209.out) hb); have n7_ := Aside0.mk (blk_below (g := gb214) (o := .cells #[.int .i64 t210, .slice Ao40 t211.length co40] 30 (0, 0)) (by (with_reducible repeat (first | refine blk_drewN ?_ _ | refine blk_drew ?_ | refine blk_alloc ?_ _)); refine blk_far ?_ NB214_223.out _; (with_reducible repeat (first | refine blk_drewN ?_ _ | refine blk_drew ?_ | refine blk_alloc ?_ _)); refine blk_far ?_ NB214_223.out _; (with_reducible repeat (first | refine blk_drewN ?_ _ | refine blk_drew ?_ | refine blk_alloc ?_ _)); exact BK214.out) hb); have n8_ := Aside0.mk (blk_below (g := gb223) (o := .cells #[.int .i64 t218, .slice Ao48 t219.length co48] 30 (0, 0)) (by (with_reducible repeat (first | refine blk_drewN ?_ _ | refine blk_drew ?_ | refine blk_alloc ?_ _)); refine blk_put (cs := #[.int .i64 t218, .slice none 0 0]) ?_ 1 _ rfl; (with_reducible repeat (first | refine blk_drewN ?_ _ | refine blk_drew ?_ | refine blk_alloc ?_ _)); refine blk_put (cs := #[.int .i64 0, .slice none 0 0]) ?_ 0 _ rfl; (with_reducible repeat (first | refine blk_drewN ?_ _ | refine blk_drew ?_ | refine blk_alloc ?_ _)); exact BK223.out) hb); have n9_ := Aside0.mk (below_step (qw HB) hb); clear HO200; clear HO207; clear HO213; clear HO221; clear BK194; clear BK195; clear BK209; clear BK214; clear BK223; clear HB; have HO200 := n0_; have HO207 := n1_; have HO213 := n2_; have HO221 := n3_; have BK194 := n4_; have BK195 := n5_; have BK209 := n6_; have BK214 := n7_; have BK223 := n8_; have HB := n9_; clear n0_ n1_ n2_ n3_ n4_ n5_ n6_ n7_ n8_ n9_; (try clear hb); (try clear hb2); (try clear hk); (try clear hi)))
    go_meet
    case rel => exact ⟨_, ((t222 != t208)), (by first | rfl | (simp; done) | (simp [*]; done) | (simp [isEmpty_bne]; done) | (simp [i64_w]; done) | (simp only [i64_w]; done)), H', ⟨by first | omega | exact Nat.le_refl _⟩, ⟨by (with_reducible repeat (first | apply Kd.R_alloc | apply Kd.R_drewN | apply Kd.R_drew)); exact Kd.R_mono HO207.out (fun _ hk => ⟨hk.2.1, hk.2.2⟩)⟩, ⟨by (with_reducible repeat (first | apply Kd.R_alloc | apply Kd.R_drewN | apply Kd.R_drew)); exact Kd.R_mono HO213.out (fun _ hk => ⟨hk.2.1, hk.2.2⟩)⟩, ⟨by (with_reducible repeat (first | apply Kd.R_alloc | apply Kd.R_drewN | apply Kd.R_drew)); exact Kd.R_mono HO221.out (fun _ hk => ⟨hk.2.1, hk.2.2⟩)⟩, ⟨by (with_reducible repeat (first | refine blk_drewN ?_ _ | refine blk_drew ?_ | refine blk_alloc ?_ _)); exact BK194.out⟩, ⟨by (with_reducible repeat (first | refine blk_drewN ?_ _ | refine blk_drew ?_ | refine blk_alloc ?_ _)); exact BK195.out⟩, ⟨by (with_reducible repeat (first | refine blk_drewN ?_ _ | refine blk_drew ?_ | refine blk_alloc ?_ _)); exact BK209.out⟩, ⟨by (with_reducible repeat (first | refine blk_drewN ?_ _ | refine blk_drew ?_ | refine blk_alloc ?_ _)); exact BK214.out⟩, ⟨by (with_reducible repeat (first | refine blk_drewN ?_ _ | refine blk_drew ?_ | refine blk_alloc ?_ _)); exact BK223.out⟩, ⟨by repeat (first | (with_reducible first | exact HB.out | apply below_alloc | apply pw_below_drewN | apply below_drew1 | refine below_set ?_ GE194.out | refine below_set ?_ GE195.out | refine below_set ?_ GE209.out | refine below_set ?_ GE214.out | refine below_set ?_ GE223.out) | exact HB.out)⟩⟩
   ·
    replace c51 := Bool.eq_false_iff.mpr c51
    subst c51
    have H1 : (laws_FnExactAddClue.j0 k t208 t222 true a0_0 l0_1 a1_0 a1_1 a1_2 t204 t205 t210 t211 t218 t219) = some r := by rw [if_neg (show ¬ (false = true) by decide)] at H; exact H
    clear H
    have H := H1
    clear H1
    have H' := Aside0.mk H
    clear H
    have hnb62 := NB223_194.out
    have hnc62 := NB194_223.out
    have hnb63 := NB223_195.out
    have hnc63 := NB195_223.out
    have hnb64 := NB223_209.out
    have hnc64 := NB209_223.out
    have hnb65 := NB223_214.out
    have hnc65 := NB214_223.out
    have hcz66_0 : w46.cell? ⟨gb223, 0, none⟩ = some (.int .i64 0) := bc BK223 0
    have hcz66_1 : w46.cell? ⟨gb223, 1, none⟩ = some (.slice none 0 0) := bc BK223 1
    have hfz66_0 := blk_frozen BK223.out 0
    have hfz66_1 := blk_frozen BK223.out 1
    have hnb67 := NB209_194.out
    have hnc67 := NB194_209.out
    have hnb68 := NB209_195.out
    have hnc68 := NB195_209.out
    have hnb69 := NB209_214.out
    have hnc69 := NB214_209.out
    have hcz70_0 : w46.cell? ⟨gb209, 0, none⟩ = some (.int .i64 t204) := bc BK209 0
    have hcz70_1 : w46.cell? ⟨gb209, 1, none⟩ = some (.slice Ao30 t205.length co30) := bc BK209 1
    have hfz70_0 := blk_frozen BK209.out 0
    have hfz70_1 := blk_frozen BK209.out 1
    go_wp2_with (first | ((with_reducible refine gate_callee (f := 10) rfl ?_); refine goesL_ (some 40) rfl rfl Try.func10 (by kernel_rfl) rfl #[.agg #[.int .i64 t218, .slice Ao48 t219.length co48], .agg #[.int .i64 t204, .slice Ao30 t205.length co30]] rfl (by (try simp only [List.map_toArray, List.map_cons, List.map_nil]); first | done | rfl | (simp only [List.length_drop, List.length_take]; rfl)) ?_; (with_reducible refine (laws_eqPuzzle.calls k t218 _ _ t219 t204 _ _ t205 false _ ?side1 ?side2 ?side3 ?side4 A50.out).mono ?_); (case side1 => refine (Kd.R_reads' (e := 34) (base := w.heap.size) (ok := fun k_ => (some k_ ≠ (v199 : Value).ownBlock ∧ (some k_ ≠ (.slice Ao30 t205.length co30 : Value).ownBlock ∧ some k_ ≠ (.slice Ao40 t211.length co40 : Value).ownBlock))) (n := t219.length) (c := co48) ?_).2.2; exact (qr (Kd.R_mono (Kd.R_far (p := ⟨gb223, 1, none⟩) (Kd.R_far (p := ⟨gb223, 0, none⟩) (Kd.R_types HO221.out BK223.out (by decide)) (fun _ hk => hk.2) (.int .i64 t218)) (fun _ hk => hk.2) (.slice Ao48 t219.length co48)) (fun _ h_ => h_.1)))); (case side2 => exact (Kd.R_reads' HO221.out).2.1); (case side3 => refine (Kd.R_reads' (e := 34) (base := w.heap.size) (ok := fun k_ => (some k_ ≠ (v199 : Value).ownBlock ∧ (some k_ ≠ (.slice Ao40 t211.length co40 : Value).ownBlock ∧ some k_ ≠ (.slice Ao48 t219.length co48 : Value).ownBlock))) (n := t205.length) (c := co30) ?_).2.2; exact (qr (Kd.R_mono (Kd.R_far (p := ⟨gb223, 1, none⟩) (Kd.R_far (p := ⟨gb223, 0, none⟩) (Kd.R_types HO207.out BK223.out (by decide)) (fun _ hk => hk.2) (.int .i64 t218)) (fun _ hk => hk.2) (.slice Ao48 t219.length co48)) (fun _ h_ => h_.1)))); (case side4 => exact (Kd.R_reads' HO207.out).2.1); rintro e w71 ⟨rfl, hb⟩; refine ⟨_, rfl, ?_⟩; have n0_ := Aside0.mk (Kd.R_below (qr (Kd.R_mono (Kd.R_far (p := ⟨gb223, 1, none⟩) (Kd.R_far (p := ⟨gb223, 0, none⟩) (Kd.R_types HO200.out BK223.out (by decide)) (fun _ hk => hk.2) (.int .i64 t218)) (fun _ hk => hk.2) (.slice Ao48 t219.length co48)) (fun _ h_ => h_.1))) hb); have n1_ := Aside0.mk (Kd.R_below (qr (Kd.R_mono (Kd.R_far (p := ⟨gb223, 1, none⟩) (Kd.R_far (p := ⟨gb223, 0, none⟩) (Kd.R_types HO207.out BK223.out (by decide)) (fun _ hk => hk.2) (.int .i64 t218)) (fun _ hk => hk.2) (.slice Ao48 t219.length co48)) (fun _ h_ => h_.1))) hb); have n2_ := Aside0.mk (Kd.R_below (qr (Kd.R_mono (Kd.R_far (p := ⟨gb223, 1, none⟩) (Kd.R_far (p := ⟨gb223, 0, none⟩) (Kd.R_types HO213.out BK223.out (by decide)) (fun _ hk => hk.2) (.int .i64 t218)) (fun _ hk => hk.2) (.slice Ao48 t219.length co48)) (fun _ h_ => h_.1))) hb); have n3_ := Aside0.mk (Kd.R_below (qr (Kd.R_mono (Kd.R_far (p := ⟨gb223, 1, none⟩) (Kd.R_far (p := ⟨gb223, 0, none⟩) (Kd.R_types HO221.out BK223.out (by decide)) (fun _ hk => hk.2) (.int .i64 t218)) (fun _ hk => hk.2) (.slice Ao48 t219.length co48)) (fun _ h_ => h_.1))) hb); have n4_ := Aside0.mk (blk_below (g := gb194) (o := .cells #[.int .i64 a0_0, .slice A0_1 l0_1.length c0_1] 24 (0, 0)) (by (with_reducible repeat (first | refine blk_drewN ?_ _ | refine blk_drew ?_ | refine blk_alloc ?_ _)); refine blk_far ?_ NB194_223.out _; (with_reducible repeat (first | refine blk_drewN ?_ _ | refine blk_drew ?_ | refine blk_alloc ?_ _)); refine blk_far ?_ NB194_223.out _; (with_reducible repeat (first | refine blk_drewN ?_ _ | refine blk_drew ?_ | refine blk_alloc ?_ _)); exact BK194.out) hb); have n5_ := Aside0.mk (blk_below (g := gb195) (o := .cells #[.int .i64 a1_0, .int .i64 a1_1, .int .i64 a1_2] 26 (0, 0)) (by (with_reducible repeat (first | refine blk_drewN ?_ _ | refine blk_drew ?_ | refine blk_alloc ?_ _)); refine blk_far ?_ NB195_223.out _; (with_reducible repeat (first | refine blk_drewN ?_ _ | refine blk_drew ?_ | refine blk_alloc ?_ _)); refine blk_far ?_ NB195_223.out _; (with_reducible repeat (first | refine blk_drewN ?_ _ | refine blk_drew ?_ | refine blk_alloc ?_ _)); exact BK195.out) hb); have n6_ := Aside0.mk (blk_below (g := gb209) (o := .cells #[.int .i64 t204, .slice Ao30 t205.length co30] 30 (0, 0)) (by (with_reducible repeat (first | refine blk_drewN ?_ _ | refine blk_drew ?_ | refine blk_alloc ?_ _)); refine blk_far ?_ NB209_223.out _; (with_reducible repeat (first | refine blk_drewN ?_ _ | refine blk_drew ?_ | refine blk_alloc ?_ _)); refine blk_far ?_ NB209_223.out _; (with_reducible repeat (first | refine blk_drewN ?_ _ | refine blk_drew ?_ | refine blk_alloc ?_ _)); exact BK209.out) hb); have n7_ := Aside0.mk (blk_below (g := gb214) (o := .cells #[.int .i64 t210, .slice Ao40 t211.length co40] 30 (0, 0)) (by (with_reducible repeat (first | refine blk_drewN ?_ _ | refine blk_drew ?_ | refine blk_alloc ?_ _)); refine blk_far ?_ NB214_223.out _; (with_reducible repeat (first | refine blk_drewN ?_ _ | refine blk_drew ?_ | refine blk_alloc ?_ _)); refine blk_far ?_ NB214_223.out _; (with_reducible repeat (first | refine blk_drewN ?_ _ | refine blk_drew ?_ | refine blk_alloc ?_ _)); exact BK214.out) hb); have n8_ := Aside0.mk (blk_below (g := gb223) (o := .cells #[.int .i64 t218, .slice Ao48 t219.length co48] 30 (0, 0)) (by (with_reducible repeat (first | refine blk_drewN ?_ _ | refine blk_drew ?_ | refine blk_alloc ?_ _)); refine blk_put (cs := #[.int .i64 t218, .slice none 0 0]) ?_ 1 _ rfl; (with_reducible repeat (first | refine blk_drewN ?_ _ | refine blk_drew ?_ | refine blk_alloc ?_ _)); refine blk_put (cs := #[.int .i64 0, .slice none 0 0]) ?_ 0 _ rfl; (with_reducible repeat (first | refine blk_drewN ?_ _ | refine blk_drew ?_ | refine blk_alloc ?_ _)); exact BK223.out) hb); have n9_ := Aside0.mk (below_step (qw HB) hb); clear HO200; clear HO207; clear HO213; clear HO221; clear BK194; clear BK195; clear BK209; clear BK214; clear BK223; clear HB; have HO200 := n0_; have HO207 := n1_; have HO213 := n2_; have HO221 := n3_; have BK194 := n4_; have BK195 := n5_; have BK209 := n6_; have BK214 := n7_; have BK223 := n8_; have HB := n9_; clear n0_ n1_ n2_ n3_ n4_ n5_ n6_ n7_ n8_ n9_; (try clear hb); (try clear hb2); (try clear hk); (try clear hi)))
    go_meet
    case rel => exact ⟨_, (true), (by first | rfl | (simp; done) | (simp [*]; done) | (simp [isEmpty_bne]; done) | (simp [i64_w]; done) | (simp only [i64_w]; done)), H', ⟨by first | omega | exact Nat.le_refl _⟩, ⟨by (with_reducible repeat (first | apply Kd.R_alloc | apply Kd.R_drewN | apply Kd.R_drew)); exact Kd.R_mono HO207.out (fun _ hk => ⟨hk.2.1, hk.2.2⟩)⟩, ⟨by (with_reducible repeat (first | apply Kd.R_alloc | apply Kd.R_drewN | apply Kd.R_drew)); exact Kd.R_mono HO213.out (fun _ hk => ⟨hk.2.1, hk.2.2⟩)⟩, ⟨by (with_reducible repeat (first | apply Kd.R_alloc | apply Kd.R_drewN | apply Kd.R_drew)); exact Kd.R_mono HO221.out (fun _ hk => ⟨hk.2.1, hk.2.2⟩)⟩, ⟨by (with_reducible repeat (first | refine blk_drewN ?_ _ | refine blk_drew ?_ | refine blk_alloc ?_ _)); exact BK194.out⟩, ⟨by (with_reducible repeat (first | refine blk_drewN ?_ _ | refine blk_drew ?_ | refine blk_alloc ?_ _)); exact BK195.out⟩, ⟨by (with_reducible repeat (first | refine blk_drewN ?_ _ | refine blk_drew ?_ | refine blk_alloc ?_ _)); exact BK209.out⟩, ⟨by (with_reducible repeat (first | refine blk_drewN ?_ _ | refine blk_drew ?_ | refine blk_alloc ?_ _)); exact BK214.out⟩, ⟨by (with_reducible repeat (first | refine blk_drewN ?_ _ | refine blk_drew ?_ | refine blk_alloc ?_ _)); exact BK223.out⟩, ⟨by repeat (first | (with_reducible first | exact HB.out | apply below_alloc | apply pw_below_drewN | apply below_drew1 | refine below_set ?_ GE194.out | refine below_set ?_ GE195.out | refine below_set ?_ GE209.out | refine below_set ?_ GE214.out | refine below_set ?_ GE223.out) | exact HB.out)⟩⟩
  case rest =>
   clear HC16
   try clear c1
   try clear p2
   try clear c5
   try clear c6
   try clear c8
   try clear c9
   try clear c10
   try clear c51
   try clear c52
   try clear c53
   try clear c54
   try clear c55
   try clear c57
   try clear c58
   try clear c59
   try clear c62
   try clear c63
   try clear c64
   try clear c65
   try clear c67
   try clear c68
   try clear c69
   try clear hcz56_0
   try clear hcz56_1
   try clear hcz60_0
   try clear hcz60_1
   try clear hcz66_0
   try clear hcz66_1
   try clear hcz70_0
   try clear hcz70_1
   try clear hfz56_0
   try clear hfz56_1
   try clear hfz60_0
   try clear hfz60_1
   try clear hfz66_0
   try clear hfz66_1
   try clear hfz70_0
   try clear hfz70_1
   obtain ⟨kq, x46_15, rfl, HA, HJ15, HO_210001, HO_215001, HO_224001, BK194, BK195, BK209, BK214, BK223, HB⟩ := hcut
   cases kq with
   | zero => exact absurd HA.out (by simp [laws_FnExactAddClue.j0])
   | succ kj15 =>
    have H := HA.out
    clear HA
    simp only [laws_FnExactAddClue.j0] at H
    by_cases c72 : x46_15 = true
    ·
     subst c72
     have H1 : (some false) = some r := by rw [if_pos rfl] at H; exact H
     clear H
     have H := H1
     clear H1
     obtain rfl := Option.some.inj H
     go_wp2
     go_ret
     exact ⟨by first | rfl | (simp [errW_none, errW_some] <;> rfl) | (simp [*, errW_none, errW_some] <;> rfl), qw HB⟩
    ·
     replace c72 := Bool.eq_false_iff.mpr c72
     subst c72
     have H1 : ((laws_toPuzzle.f kj15 a0_0 l0_1).bind fun bt225 => ((laws_eqPuzzle.f kj15 t210 t211 bt225.1 bt225.2).bind fun t229 => (if t229 = true then ((laws_markPuzzle.f kj15 t210 t211 1).bind fun bt230 => (if bt230.1 < 0 then (laws_FnExactAddClue.j1 kj15 t208 true a0_0 l0_1 a1_0 a1_1 a1_2 t204 t205 t218 t219) else ((laws_eqPuzzle.f kj15 t218 t219 t204 t205).bind fun t232 => (if t232 = true then (laws_FnExactAddClue.j1 kj15 t208 (t222 != t208) a0_0 l0_1 a1_0 a1_1 a1_2 t204 t205 t218 t219) else (laws_FnExactAddClue.j1 kj15 t208 true a0_0 l0_1 a1_0 a1_1 a1_2 t204 t205 t218 t219))))) else (some false)))) = some r := by rw [if_neg (show ¬ (false = true) by decide)] at H; exact H
     clear H
     have H := H1
     clear H1
     replace H := Option.bind_eq_some_iff.mp H
     obtain ⟨⟨t225, t226⟩, A730, H⟩ := H
     replace H : ((laws_eqPuzzle.f kj15 t210 t211 t225 t226).bind fun t229 => (if t229 = true then ((laws_markPuzzle.f kj15 t210 t211 1).bind fun bt230 => (if bt230.1 < 0 then (laws_FnExactAddClue.j1 kj15 t208 true a0_0 l0_1 a1_0 a1_1 a1_2 t204 t205 t218 t219) else ((laws_eqPuzzle.f kj15 t218 t219 t204 t205).bind fun t232 => (if t232 = true then (laws_FnExactAddClue.j1 kj15 t208 (t222 != t208) a0_0 l0_1 a1_0 a1_1 a1_2 t204 t205 t218 t219) else (laws_FnExactAddClue.j1 kj15 t208 true a0_0 l0_1 a1_0 a1_1 a1_2 t204 t205 t218 t219))))) else (some false))) = some r := H
     have A73 := Aside0.mk A730
     clear A730
     replace H := Option.bind_eq_some_iff.mp H
     obtain ⟨t229, A740, H⟩ := H
     replace H : (if t229 = true then ((laws_markPuzzle.f kj15 t210 t211 1).bind fun bt230 => (if bt230.1 < 0 then (laws_FnExactAddClue.j1 kj15 t208 true a0_0 l0_1 a1_0 a1_1 a1_2 t204 t205 t218 t219) else ((laws_eqPuzzle.f kj15 t218 t219 t204 t205).bind fun t232 => (if t232 = true then (laws_FnExactAddClue.j1 kj15 t208 (t222 != t208) a0_0 l0_1 a1_0 a1_1 a1_2 t204 t205 t218 t219) else (laws_FnExactAddClue.j1 kj15 t208 true a0_0 l0_1 a1_0 a1_1 a1_2 t204 t205 t218 t219))))) else (some false)) = some r := H
     have A74 := Aside0.mk A740
     clear A740
     by_cases c75 : t229 = true
     ·
      subst c75
      have H1 : ((laws_markPuzzle.f kj15 t210 t211 1).bind fun bt230 => (if bt230.1 < 0 then (laws_FnExactAddClue.j1 kj15 t208 true a0_0 l0_1 a1_0 a1_1 a1_2 t204 t205 t218 t219) else ((laws_eqPuzzle.f kj15 t218 t219 t204 t205).bind fun t232 => (if t232 = true then (laws_FnExactAddClue.j1 kj15 t208 (t222 != t208) a0_0 l0_1 a1_0 a1_1 a1_2 t204 t205 t218 t219) else (laws_FnExactAddClue.j1 kj15 t208 true a0_0 l0_1 a1_0 a1_1 a1_2 t204 t205 t218 t219))))) = some r := by rw [if_pos rfl] at H; exact H
      clear H
      have H := H1
      clear H1
      replace H := Option.bind_eq_some_iff.mp H
      obtain ⟨⟨t230, t231⟩, A760, H⟩ := H
      replace H : (if t230 < 0 then (laws_FnExactAddClue.j1 kj15 t208 true a0_0 l0_1 a1_0 a1_1 a1_2 t204 t205 t218 t219) else ((laws_eqPuzzle.f kj15 t218 t219 t204 t205).bind fun t232 => (if t232 = true then (laws_FnExactAddClue.j1 kj15 t208 (t222 != t208) a0_0 l0_1 a1_0 a1_1 a1_2 t204 t205 t218 t219) else (laws_FnExactAddClue.j1 kj15 t208 true a0_0 l0_1 a1_0 a1_1 a1_2 t204 t205 t218 t219)))) = some r := H
      have A76 := Aside0.mk A760
      clear A760
      have HC77 := Aside0.mk H
      clear H
      try go_wp2
      have n0_ := Aside0.mk (Kd.R_drew HO_210001.out)
      have n1_ := Aside0.mk (Kd.R_drew HO_215001.out)
      have n2_ := Aside0.mk (Kd.R_drew HO_224001.out)
      have n3_ := Aside0.mk (blk_drew BK194.out)
      have n4_ := Aside0.mk (blk_drew BK195.out)
      have n5_ := Aside0.mk (blk_drew BK209.out)
      have n6_ := Aside0.mk (blk_drew BK214.out)
      have n7_ := Aside0.mk (blk_drew BK223.out)
      have n8_ := Aside0.mk (below_drew1 HB.out)
      clear HO_210001
      clear HO_215001
      clear HO_224001
      clear BK194
      clear BK195
      clear BK209
      clear BK214
      clear BK223
      clear HB
      have HO_210001 := n0_
      have HO_215001 := n1_
      have HO_224001 := n2_
      have BK194 := n3_
      have BK195 := n4_
      have BK209 := n5_
      have BK214 := n6_
      have BK223 := n7_
      have HB := n8_
      clear n0_ n1_ n2_ n3_ n4_ n5_ n6_ n7_ n8_
      refine start_ (n := 5) (S := fun w' => w'.cell? ⟨gb214, 0, none⟩ = some (.int .i64 t210) ∧ w'.cell? ⟨gb214, 1, none⟩ = some (.slice Ao40 t211.length co40) ∧ w'.cell? ⟨gb194, 0, none⟩ = some (.int .i64 a0_0) ∧ w'.cell? ⟨gb194, 1, none⟩ = some (.slice A0_1 l0_1.length c0_1)) (ds := []) #[false, false, false, false, false] (by kernel_rfl) rfl rfl ⟨bc BK214 0, bc BK214 1, bc BK194 0, bc BK194 1⟩ (fun hHeld => ?_)
      generalize wc.drew = w78 at HO_210001 HO_215001 HO_224001 BK194 BK195 BK209 BK214 BK223 HB hHeld ⊢
      refine take_ (i := 0) (N := some 47) (v := ?_) (a' := ?_) #[true, false, false, false, false] rfl rfl (by kernel_rfl) (fun _ _ _ h => h) (Or.inl ⟨by rfl, ?_⟩) hHeld ?_ ?_
      rotate_left
      ·
       rintro w' ⟨s0, s1, s2, s3⟩
       go_simp
       with_reducible rfl
      rotate_left
      ·
       simp only [Act.put, List.setIfInBounds_toArray, List.set_cons_zero, List.set_cons_succ, i64_w, i32_w]
       rfl
      refine take_ (i := 1) (N := some 48) (v := ?_) (a' := ?_) #[true, true, false, false, false] rfl rfl (by kernel_rfl) (fun _ _ _ h => h) (Or.inl ⟨by rfl, ?_⟩) hHeld ?_ ?_
      rotate_left
      ·
       rintro w' ⟨s0, s1, s2, s3⟩
       go_simp
       with_reducible rfl
      rotate_left
      ·
       simp only [Act.put, List.setIfInBounds_toArray, List.set_cons_zero, List.set_cons_succ, i64_w, i32_w]
       rfl
      refine one_ (i := 2) (N := some 49) #[true, true, true, false, false] rfl rfl (by kernel_rfl) (by decide) (fun K hK => ?_)
      refine goes_ Try.func7 (by kernel_rfl) rfl #[.agg #[.int .i64 a0_0, .slice A0_1 l0_1.length c0_1]] (by rfl) rfl rfl (by (try simp only [List.map_toArray, List.map_cons, List.map_nil]); first | done | rfl | (simp only [List.length_drop, List.length_take]; rfl)) ?_
      with_reducible refine (laws_toPuzzle.calls kj15 a0_0 _ _ l0_1 t225 t226 _ ?side1 ?side2 A73.out).mono ?_
      (case side1 => repeat (first | exact (Kd.C_below HR0_1.out HB.out) | (with_reducible refine Kd.C_alloc ?_ _) | (with_reducible refine Kd.C_drewN ?_ _) | (with_reducible refine Kd.C_drew ?_)))
      (case side2 => exact HC0_1.out)
      rintro e w79 ⟨v227, rfl, ho0, hb⟩
      refine ⟨_, rfl, ?_⟩
      have n0_ := Aside0.mk (Kd.R_elder' (qr HO_210001.out) (Kd.R_base ho0) hb)
      have n1_ := Aside0.mk (Kd.R_elder' (qr HO_215001.out) (Kd.R_base ho0) hb)
      have n2_ := Aside0.mk (Kd.R_elder' (qr HO_224001.out) (Kd.R_base ho0) hb)
      have n3_ := Aside0.mk (Kd.R_lower (Kd.R_new' (Kd.R_new' (Kd.R_new' ho0 (Kd.R_lt (qr HO_210001.out))) (Kd.R_lt (qr HO_215001.out))) (Kd.R_lt (qr HO_224001.out))) (below_size (qw HB)))
      have n4_ := qbb BK194 hb
      have n5_ := qbb BK195 hb
      have n6_ := qbb BK209 hb
      have n7_ := qbb BK214 hb
      have n8_ := qbb BK223 hb
      have n9_ := Aside0.mk (below_step (qw HB) hb)
      clear HO_210001
      clear HO_215001
      clear HO_224001
      clear BK194
      clear BK195
      clear BK209
      clear BK214
      clear BK223
      clear HB
      have HO_210001 := n0_
      have HO_215001 := n1_
      have HO_224001 := n2_
      have HO228 := n3_
      have BK194 := n4_
      have BK195 := n5_
      have BK209 := n6_
      have BK214 := n7_
      have BK223 := n8_
      have HB := n9_
      clear n0_ n1_ n2_ n3_ n4_ n5_ n6_ n7_ n8_ n9_
      (try clear hb)
      (try clear hb2)
      (try clear hk)
      (try clear hi)
      (try clear ho0)
      obtain ⟨Ao80, co80, eo80⟩ := Kd.R_slice HO228.out
      (first | subst eo80 | (injection eo80 with f1_ f2_ f3_; have f4_ := f1_.symm; have f5_ := f3_.symm; clear f1_ f2_ f3_; subst f4_; subst f5_))
      refine hK.out _ _ ⟨bc BK214 0, bc BK214 1, bc BK194 0, bc BK194 1⟩ (fun hHeld => ?_)
      clear hK K
      refine norm_ (a' := ?_) ?_ ?_
      rotate_left
      ·
       show Act.put _ (some 49) _ = _
       simp only [Act.put, List.setIfInBounds_toArray, List.set_cons_zero, List.set_cons_succ, i64_w, i32_w]
       rfl
      refine one_ (i := 3) (N := some 50) #[true, true, true, true, false] rfl rfl (by kernel_rfl) (by decide) (fun K hK => ?_)
      refine goes_ Try.func10 (by kernel_rfl) rfl #[.agg #[.int .i64 t210, .slice Ao40 t211.length co40], .agg #[.int .i64 t225, .slice Ao80 t226.length co80]] (by rfl) rfl rfl (by (try simp only [List.map_toArray, List.map_cons, List.map_nil]); first | done | rfl | (simp only [List.length_drop, List.length_take]; rfl)) ?_
      with_reducible refine (laws_eqPuzzle.calls kj15 t210 _ _ t211 t225 _ _ t226 true _ ?side1 ?side2 ?side3 ?side4 A74.out).mono ?_
      (case side1 => repeat (first | exact (Kd.R_reads' HO_215001.out).2.2 | (with_reducible refine Kd.C_alloc ?_ _) | (with_reducible refine Kd.C_drewN ?_ _) | (with_reducible refine Kd.C_drew ?_)))
      (case side2 => exact (Kd.R_reads' HO_215001.out).2.1)
      (case side3 => repeat (first | exact (Kd.R_reads' HO228.out).2.2 | (with_reducible refine Kd.C_alloc ?_ _) | (with_reducible refine Kd.C_drewN ?_ _) | (with_reducible refine Kd.C_drew ?_)))
      (case side4 => exact (Kd.R_reads' HO228.out).2.1)
      rintro e w81 ⟨rfl, hb⟩
      refine ⟨_, rfl, ?_⟩
      have n0_ := Aside0.mk (Kd.R_below (qr HO_210001.out) hb)
      have n1_ := Aside0.mk (Kd.R_below (qr HO_215001.out) hb)
      have n2_ := Aside0.mk (Kd.R_below (qr HO_224001.out) hb)
      have n3_ := Aside0.mk (Kd.R_below (qr HO228.out) hb)
      have n4_ := qbb BK194 hb
      have n5_ := qbb BK195 hb
      have n6_ := qbb BK209 hb
      have n7_ := qbb BK214 hb
      have n8_ := qbb BK223 hb
      have n9_ := Aside0.mk (below_step (qw HB) hb)
      clear HO_210001
      clear HO_215001
      clear HO_224001
      clear HO228
      clear BK194
      clear BK195
      clear BK209
      clear BK214
      clear BK223
      clear HB
      have HO_210001 := n0_
      have HO_215001 := n1_
      have HO_224001 := n2_
      have HO228 := n3_
      have BK194 := n4_
      have BK195 := n5_
      have BK209 := n6_
      have BK214 := n7_
      have BK223 := n8_
      have HB := n9_
      clear n0_ n1_ n2_ n3_ n4_ n5_ n6_ n7_ n8_ n9_
      (try clear hb)
      (try clear hb2)
      (try clear hk)
      (try clear hi)
      refine hK.out _ _ ⟨bc BK214 0, bc BK214 1, bc BK194 0, bc BK194 1⟩ (fun hHeld => ?_)
      clear hK K
      refine norm_ (a' := ?_) ?_ ?_
      rotate_left
      ·
       show Act.put _ (some 50) _ = _
       simp only [Act.put, List.setIfInBounds_toArray, List.set_cons_zero, List.set_cons_succ, i64_w, i32_w]
       rfl
      refine pure_ (i := 4) (N := some 51) (v := ?_) (a' := ?_) #[true, true, true, true, true] rfl rfl (by kernel_rfl) (fun _ _ _ h => h) (Or.inl ⟨by rfl, ?_⟩) ?_ ?_
      rotate_left
      ·
       intro w'
       go_simp
       with_reducible rfl
      rotate_left
      ·
       simp only [Act.put, List.setIfInBounds_toArray, List.set_cons_zero, List.set_cons_succ, i64_w, i32_w]
       rfl
      refine done_ (by kernel_rfl) ?_
      have hnb82 := NB214_194.out
      have hnc82 := NB194_214.out
      have hnb83 := NB214_195.out
      have hnc83 := NB195_214.out
      have hnb84 := NB214_209.out
      have hnc84 := NB209_214.out
      have hnb85 := NB214_223.out
      have hnc85 := NB223_214.out
      have hcz86_0 : w81.cell? ⟨gb214, 0, none⟩ = some (.int .i64 t210) := bc BK214 0
      have hcz86_1 : w81.cell? ⟨gb214, 1, none⟩ = some (.slice Ao40 t211.length co40) := bc BK214 1
      have hfz86_0 := blk_frozen BK214.out 0
      have hfz86_1 := blk_frozen BK214.out 1
      go_upto_region 14 with (first | ((with_reducible refine gate_callee (f := 11) rfl ?_); refine goesL_ (some 54) rfl rfl Try.func11 (by kernel_rfl) rfl #[.agg #[.int .i64 t210, .slice Ao40 t211.length co40], .int .i64 1] rfl (by (try simp only [List.map_toArray, List.map_cons, List.map_nil]); first | done | rfl | (simp only [List.length_drop, List.length_take]; rfl)) ?_; (with_reducible refine (laws_markPuzzle.calls kj15 t210 (fun k_ => some k_ = (.slice Ao40 t211.length co40 : Value).ownBlock) (.slice Ao40 t211.length co40) t211 1 t230 t231 w _ ?side1 ?side2 A76.out).mono ?_); (case side1 => repeat (first | (with_reducible first | exact HB.out | apply below_alloc | apply pw_below_drewN | apply below_drew1 | refine below_set ?_ GE194.out | refine below_set ?_ GE195.out | refine below_set ?_ GE209.out | refine below_set ?_ GE214.out | refine below_set ?_ GE223.out) | exact HB.out)); (case side2 => exact Kd.R_tight rfl HO_215001.out); rintro e w87 ⟨rfl, hy0, hb, hkp⟩; refine ⟨_, rfl, ?_⟩; have n0_ := Aside0.mk (Kd.R_mono (ok' := fun k_ => some k_ ≠ (.slice Ao40 t211.length co40 : Value).ownBlock ∧ some k_ ≠ (.slice Ao48 t219.length co48 : Value).ownBlock ∧ some k_ ≠ (.slice Ao80 t226.length co80 : Value).ownBlock) (Kd.R_keptB (HO_210001.out) hkp (fun k_ hk_ hs_ => (hk_.1.1) hs_)) (fun k_ hk_ => ⟨hk_.1.1.1, hk_.1.1.2, hk_.1.2⟩)); have n1_ := Aside0.mk (Kd.R_reok rfl hy0 (fun k_ e_ => HO_215001.out.1 k_ e_)); have n2_ := Aside0.mk (Kd.R_mono (ok' := fun k_ => some k_ ≠ (.slice Ao30 t205.length co30 : Value).ownBlock ∧ some k_ ≠ (.slice Ao40 t211.length co40 : Value).ownBlock ∧ some k_ ≠ (.slice Ao80 t226.length co80 : Value).ownBlock) (Kd.R_keptB (HO_224001.out) hkp (fun k_ hk_ hs_ => (hk_.1.2) hs_)) (fun k_ hk_ => ⟨hk_.1.1.1, hk_.1.1.2, hk_.1.2⟩)); have n3_ := Aside0.mk (blk_kept (qb BK194) hkp (fun hs_ => (fun e_ => (Kd.R_ne HO_215001.out BK194.out (by decide)) e_) hs_)); have n4_ := Aside0.mk (blk_kept (qb BK195) hkp (fun hs_ => (fun e_ => (Kd.R_ne HO_215001.out BK195.out (by decide)) e_) hs_)); have n5_ := Aside0.mk (blk_kept (qb BK209) hkp (fun hs_ => (fun e_ => (Kd.R_ne HO_215001.out BK209.out (by decide)) e_) hs_)); have n6_ := Aside0.mk (blk_kept (qb BK214) hkp (fun hs_ => (fun e_ => (Kd.R_ne HO_215001.out BK214.out (by decide)) e_) hs_)); have n7_ := Aside0.mk (blk_kept (qb BK223) hkp (fun hs_ => (fun e_ => (Kd.R_ne HO_215001.out BK223.out (by decide)) e_) hs_)); have n8_ := Aside0.mk (Kd.R_mono (ok' := fun k_ => some k_ ≠ (.slice Ao30 t205.length co30 : Value).ownBlock ∧ some k_ ≠ (.slice Ao40 t211.length co40 : Value).ownBlock ∧ some k_ ≠ (.slice Ao48 t219.length co48 : Value).ownBlock) (Kd.R_keptB (HO228.out) hkp (fun k_ hk_ hs_ => (hk_.1.2) hs_)) (fun k_ hk_ => ⟨hk_.1.1.1.2, hk_.1.1.2, hk_.1.2⟩)); have n9_ := Aside0.mk (hb); clear HO_210001; clear HO_215001; clear HO_224001; clear BK194; clear BK195; clear BK209; clear BK214; clear BK223; clear HO228; clear HB; have HO_210001 := n0_; have HO_215001 := n1_; have HO_224001 := n2_; have BK194 := n3_; have BK195 := n4_; have BK209 := n5_; have BK214 := n6_; have BK223 := n7_; have HO228 := n8_; have HB := n9_; clear n0_ n1_ n2_ n3_ n4_ n5_ n6_ n7_ n8_ n9_; (try clear hb); (try clear hkp); (try clear hy0)))
      (try simp only [Act.put, List.setIfInBounds_toArray, List.set_cons_zero, List.set_cons_succ])
      go_cut [67] (fun v67 wc => ∃ (kq : Nat) (x67_76 : Bool), v67 = .bool x67_76 ∧ Aside0 (laws_FnExactAddClue.j1 kq t208 x67_76 a0_0 l0_1 a1_0 a1_1 a1_2 t204 t205 t218 t219 = some r) ∧ Aside0 (kq ≤ kj15) ∧ Aside0 (Kd.R k34 34 wc w.heap.size (fun k_ => some k_ ≠ ((.slice Ao40 t211.length co40) : Value).ownBlock ∧ some k_ ≠ ((.slice Ao48 t219.length co48) : Value).ownBlock) (.slice Ao30 t205.length co30) t205) ∧ Aside0 (Kd.R k34 34 wc w.heap.size (fun k_ => some k_ ≠ ((.slice Ao30 t205.length co30) : Value).ownBlock ∧ some k_ ≠ ((.slice Ao48 t219.length co48) : Value).ownBlock) (.slice Ao40 t211.length co40) t231) ∧ Aside0 (Kd.R k34 34 wc w.heap.size (fun k_ => some k_ ≠ ((.slice Ao30 t205.length co30) : Value).ownBlock ∧ some k_ ≠ ((.slice Ao40 t211.length co40) : Value).ownBlock) (.slice Ao48 t219.length co48) t219) ∧ Aside0 (wc.heap[gb194]? = some (.cells #[.int .i64 a0_0, (.slice A0_1 l0_1.length c0_1)] 24 (0, 0))) ∧ Aside0 (wc.heap[gb195]? = some (.cells #[.int .i64 a1_0, .int .i64 a1_1, .int .i64 a1_2] 26 (0, 0))) ∧ Aside0 (wc.heap[gb209]? = some (.cells #[.int .i64 t204, (.slice Ao30 t205.length co30)] 30 (0, 0))) ∧ Aside0 (wc.heap[gb214]? = some (.cells #[.int .i64 t210, (.slice Ao40 t211.length co40)] 30 (0, 0))) ∧ Aside0 (wc.heap[gb223]? = some (.cells #[.int .i64 t218, (.slice Ao48 t219.length co48)] 30 (0, 0))) ∧ Aside0 (Below w.heap.size w wc))
      case first =>
       have H := HC77.out
       clear HC77
       by_cases c88 : t230 < 0
       ·
        rw [if_pos c88] at H
        have c88b0 : decide (t230 < 0) = true := decide_eq_true c88
        clear c88
        (first | rw [c88b0] | (simp only [i64_w, i32_w]; rw [c88b0]) | skip)
        have H' := Aside0.mk H
        clear H
        go_wp2
        go_meet
        case rel => exact ⟨_, (true), (by first | rfl | (simp; done) | (simp [*]; done) | (simp [isEmpty_bne]; done) | (simp [i64_w]; done) | (simp only [i64_w]; done)), H', ⟨by have := HJ15.out; first | omega | exact Nat.le_refl _⟩, ⟨by (with_reducible repeat (first | apply Kd.R_alloc | apply Kd.R_drewN | apply Kd.R_drew)); exact Kd.R_mono HO_210001.out (fun _ hk => ⟨hk.1, hk.2.1⟩)⟩, ⟨by (with_reducible repeat (first | apply Kd.R_alloc | apply Kd.R_drewN | apply Kd.R_drew)); exact Kd.R_mono HO_215001.out (fun _ hk => ⟨hk.1.1, hk.1.2⟩)⟩, ⟨by (with_reducible repeat (first | apply Kd.R_alloc | apply Kd.R_drewN | apply Kd.R_drew)); exact Kd.R_mono HO_224001.out (fun _ hk => ⟨hk.1, hk.2.1⟩)⟩, ⟨by (with_reducible repeat (first | refine blk_drewN ?_ _ | refine blk_drew ?_ | refine blk_alloc ?_ _)); exact BK194.out⟩, ⟨by (with_reducible repeat (first | refine blk_drewN ?_ _ | refine blk_drew ?_ | refine blk_alloc ?_ _)); exact BK195.out⟩, ⟨by (with_reducible repeat (first | refine blk_drewN ?_ _ | refine blk_drew ?_ | refine blk_alloc ?_ _)); exact BK209.out⟩, ⟨by (with_reducible repeat (first | refine blk_drewN ?_ _ | refine blk_drew ?_ | refine blk_alloc ?_ _)); exact BK214.out⟩, ⟨by (with_reducible repeat (first | refine blk_drewN ?_ _ | refine blk_drew ?_ | refine blk_alloc ?_ _)); exact BK223.out⟩, ⟨by repeat (first | (with_reducible first | exact HB.out | apply below_alloc | apply pw_below_drewN | apply below_drew1 | refine below_set ?_ GE194.out | refine below_set ?_ GE195.out | refine below_set ?_ GE209.out | refine below_set ?_ GE214.out | refine below_set ?_ GE223.out) | exact HB.out)⟩⟩
       ·
        rw [if_neg c88] at H
        have c88b0 : decide (t230 < 0) = false := decide_eq_false c88
        clear c88
        (first | rw [c88b0] | (simp only [i64_w, i32_w]; rw [c88b0]) | skip)
        replace H := Option.bind_eq_some_iff.mp H
        obtain ⟨t232, A890, H⟩ := H
        replace H : (if t232 = true then (laws_FnExactAddClue.j1 kj15 t208 (t222 != t208) a0_0 l0_1 a1_0 a1_1 a1_2 t204 t205 t218 t219) else (laws_FnExactAddClue.j1 kj15 t208 true a0_0 l0_1 a1_0 a1_1 a1_2 t204 t205 t218 t219)) = some r := H
        have A89 := Aside0.mk A890
        clear A890
        by_cases c90 : t232 = true
        ·
         subst c90
         have H1 : (laws_FnExactAddClue.j1 kj15 t208 (t222 != t208) a0_0 l0_1 a1_0 a1_1 a1_2 t204 t205 t218 t219) = some r := by rw [if_pos rfl] at H; exact H
         clear H
         have H := H1
         clear H1
         have H' := Aside0.mk H
         clear H
         have hnb91 := NB223_194.out
         have hnc91 := NB194_223.out
         have hnb92 := NB223_195.out
         have hnc92 := NB195_223.out
         have hnb93 := NB223_209.out
         have hnc93 := NB209_223.out
         have hnb94 := NB223_214.out
         have hnc94 := NB214_223.out
         have hcz95_0 : w87.cell? ⟨gb223, 0, none⟩ = some (.int .i64 t218) := bc BK223 0
         have hcz95_1 : w87.cell? ⟨gb223, 1, none⟩ = some (.slice Ao48 t219.length co48) := bc BK223 1
         have hfz95_0 := blk_frozen BK223.out 0
         have hfz95_1 := blk_frozen BK223.out 1
         have hnb96 := NB209_194.out
         have hnc96 := NB194_209.out
         have hnb97 := NB209_195.out
         have hnc97 := NB195_209.out
         have hnb98 := NB209_214.out
         have hnc98 := NB214_209.out
         have hcz99_0 : w87.cell? ⟨gb209, 0, none⟩ = some (.int .i64 t204) := bc BK209 0
         have hcz99_1 : w87.cell? ⟨gb209, 1, none⟩ = some (.slice Ao30 t205.length co30) := bc BK209 1
         have hfz99_0 := blk_frozen BK209.out 0
         have hfz99_1 := blk_frozen BK209.out 1
         go_wp2_with (first | (go_at_call 10; (with_reducible refine (laws_eqPuzzle.calls kj15 t218 _ _ t219 t204 _ _ t205 true _ ?side1 ?side2 ?side3 ?side4 A89.out).mono ?_); (case side1 => repeat (first | exact (Kd.R_reads' HO_224001.out).2.2 | (with_reducible refine Kd.C_alloc ?_ _) | (with_reducible refine Kd.C_drewN ?_ _) | (with_reducible refine Kd.C_drew ?_))); (case side2 => exact (Kd.R_reads' HO_224001.out).2.1); (case side3 => repeat (first | exact (Kd.R_reads' HO_210001.out).2.2 | (with_reducible refine Kd.C_alloc ?_ _) | (with_reducible refine Kd.C_drewN ?_ _) | (with_reducible refine Kd.C_drew ?_))); (case side4 => exact (Kd.R_reads' HO_210001.out).2.1); rintro e w100 ⟨rfl, hb⟩; have n0_ := Aside0.mk (Kd.R_below (qr HO_210001.out) hb); have n1_ := Aside0.mk (Kd.R_below (qr HO_215001.out) hb); have n2_ := Aside0.mk (Kd.R_below (qr HO_224001.out) hb); have n3_ := Aside0.mk (Kd.R_below (qr HO228.out) hb); have n4_ := qbb BK194 hb; have n5_ := qbb BK195 hb; have n6_ := qbb BK209 hb; have n7_ := qbb BK214 hb; have n8_ := qbb BK223 hb; have n9_ := Aside0.mk (below_step (qw HB) hb); clear HO_210001; clear HO_215001; clear HO_224001; clear HO228; clear BK194; clear BK195; clear BK209; clear BK214; clear BK223; clear HB; have HO_210001 := n0_; have HO_215001 := n1_; have HO_224001 := n2_; have HO228 := n3_; have BK194 := n4_; have BK195 := n5_; have BK209 := n6_; have BK214 := n7_; have BK223 := n8_; have HB := n9_; clear n0_ n1_ n2_ n3_ n4_ n5_ n6_ n7_ n8_ n9_; (try clear hb); (try clear hb2); (try clear hk); (try clear hi)))
         go_meet
         case rel => exact ⟨_, ((t222 != t208)), (by first | rfl | (simp; done) | (simp [*]; done) | (simp [isEmpty_bne]; done) | (simp [i64_w]; done) | (simp only [i64_w]; done)), H', ⟨by have := HJ15.out; first | omega | exact Nat.le_refl _⟩, ⟨by (with_reducible repeat (first | apply Kd.R_alloc | apply Kd.R_drewN | apply Kd.R_drew)); exact Kd.R_mono HO_210001.out (fun _ hk => ⟨hk.1, hk.2.1⟩)⟩, ⟨by (with_reducible repeat (first | apply Kd.R_alloc | apply Kd.R_drewN | apply Kd.R_drew)); exact Kd.R_mono HO_215001.out (fun _ hk => ⟨hk.1.1, hk.1.2⟩)⟩, ⟨by (with_reducible repeat (first | apply Kd.R_alloc | apply Kd.R_drewN | apply Kd.R_drew)); exact Kd.R_mono HO_224001.out (fun _ hk => ⟨hk.1, hk.2.1⟩)⟩, ⟨by (with_reducible repeat (first | refine blk_drewN ?_ _ | refine blk_drew ?_ | refine blk_alloc ?_ _)); exact BK194.out⟩, ⟨by (with_reducible repeat (first | refine blk_drewN ?_ _ | refine blk_drew ?_ | refine blk_alloc ?_ _)); exact BK195.out⟩, ⟨by (with_reducible repeat (first | refine blk_drewN ?_ _ | refine blk_drew ?_ | refine blk_alloc ?_ _)); exact BK209.out⟩, ⟨by (with_reducible repeat (first | refine blk_drewN ?_ _ | refine blk_drew ?_ | refine blk_alloc ?_ _)); exact BK214.out⟩, ⟨by (with_reducible repeat (first | refine blk_drewN ?_ _ | refine blk_drew ?_ | refine blk_alloc ?_ _)); exact BK223.out⟩, ⟨by repeat (first | (with_reducible first | exact HB.out | apply below_alloc | apply pw_below_drewN | apply below_drew1 | refine below_set ?_ GE194.out | refine below_set ?_ GE195.out | refine below_set ?_ GE209.out | refine below_set ?_ GE214.out | refine below_set ?_ GE223.out) | exact HB.out)⟩⟩
        ·
         replace c90 := Bool.eq_false_iff.mpr c90
         subst c90
         have H1 : (laws_FnExactAddClue.j1 kj15 t208 true a0_0 l0_1 a1_0 a1_1 a1_2 t204 t205 t218 t219) = some r := by rw [if_neg (show ¬ (false = true) by decide)] at H; exact H
         clear H
         have H := H1
         clear H1
         have H' := Aside0.mk H
         clear H
         have hnb101 := NB223_194.out
         have hnc101 := NB194_223.out
         have hnb102 := NB223_195.out
         have hnc102 := NB195_223.out
         have hnb103 := NB223_209.out
         have hnc103 := NB209_223.out
         have hnb104 := NB223_214.out
         have hnc104 := NB214_223.out
         have hcz105_0 : w87.cell? ⟨gb223, 0, none⟩ = some (.int .i64 t218) := bc BK223 0
         have hcz105_1 : w87.cell? ⟨gb223, 1, none⟩ = some (.slice Ao48 t219.length co48) := bc BK223 1
         have hfz105_0 := blk_frozen BK223.out 0
         have hfz105_1 := blk_frozen BK223.out 1
         have hnb106 := NB209_194.out
         have hnc106 := NB194_209.out
         have hnb107 := NB209_195.out
         have hnc107 := NB195_209.out
         have hnb108 := NB209_214.out
         have hnc108 := NB214_209.out
         have hcz109_0 : w87.cell? ⟨gb209, 0, none⟩ = some (.int .i64 t204) := bc BK209 0
         have hcz109_1 : w87.cell? ⟨gb209, 1, none⟩ = some (.slice Ao30 t205.length co30) := bc BK209 1
         have hfz109_0 := blk_frozen BK209.out 0
         have hfz109_1 := blk_frozen BK209.out 1
         go_wp2_with (first | (go_at_call 10; (with_reducible refine (laws_eqPuzzle.calls kj15 t218 _ _ t219 t204 _ _ t205 false _ ?side1 ?side2 ?side3 ?side4 A89.out).mono ?_); (case side1 => repeat (first | exact (Kd.R_reads' HO_224001.out).2.2 | (with_reducible refine Kd.C_alloc ?_ _) | (with_reducible refine Kd.C_drewN ?_ _) | (with_reducible refine Kd.C_drew ?_))); (case side2 => exact (Kd.R_reads' HO_224001.out).2.1); (case side3 => repeat (first | exact (Kd.R_reads' HO_210001.out).2.2 | (with_reducible refine Kd.C_alloc ?_ _) | (with_reducible refine Kd.C_drewN ?_ _) | (with_reducible refine Kd.C_drew ?_))); (case side4 => exact (Kd.R_reads' HO_210001.out).2.1); rintro e w110 ⟨rfl, hb⟩; have n0_ := Aside0.mk (Kd.R_below (qr HO_210001.out) hb); have n1_ := Aside0.mk (Kd.R_below (qr HO_215001.out) hb); have n2_ := Aside0.mk (Kd.R_below (qr HO_224001.out) hb); have n3_ := Aside0.mk (Kd.R_below (qr HO228.out) hb); have n4_ := qbb BK194 hb; have n5_ := qbb BK195 hb; have n6_ := qbb BK209 hb; have n7_ := qbb BK214 hb; have n8_ := qbb BK223 hb; have n9_ := Aside0.mk (below_step (qw HB) hb); clear HO_210001; clear HO_215001; clear HO_224001; clear HO228; clear BK194; clear BK195; clear BK209; clear BK214; clear BK223; clear HB; have HO_210001 := n0_; have HO_215001 := n1_; have HO_224001 := n2_; have HO228 := n3_; have BK194 := n4_; have BK195 := n5_; have BK209 := n6_; have BK214 := n7_; have BK223 := n8_; have HB := n9_; clear n0_ n1_ n2_ n3_ n4_ n5_ n6_ n7_ n8_ n9_; (try clear hb); (try clear hb2); (try clear hk); (try clear hi)))
         go_meet
         case rel => exact ⟨_, (true), (by first | rfl | (simp; done) | (simp [*]; done) | (simp [isEmpty_bne]; done) | (simp [i64_w]; done) | (simp only [i64_w]; done)), H', ⟨by have := HJ15.out; first | omega | exact Nat.le_refl _⟩, ⟨by (with_reducible repeat (first | apply Kd.R_alloc | apply Kd.R_drewN | apply Kd.R_drew)); exact Kd.R_mono HO_210001.out (fun _ hk => ⟨hk.1, hk.2.1⟩)⟩, ⟨by (with_reducible repeat (first | apply Kd.R_alloc | apply Kd.R_drewN | apply Kd.R_drew)); exact Kd.R_mono HO_215001.out (fun _ hk => ⟨hk.1.1, hk.1.2⟩)⟩, ⟨by (with_reducible repeat (first | apply Kd.R_alloc | apply Kd.R_drewN | apply Kd.R_drew)); exact Kd.R_mono HO_224001.out (fun _ hk => ⟨hk.1, hk.2.1⟩)⟩, ⟨by (with_reducible repeat (first | refine blk_drewN ?_ _ | refine blk_drew ?_ | refine blk_alloc ?_ _)); exact BK194.out⟩, ⟨by (with_reducible repeat (first | refine blk_drewN ?_ _ | refine blk_drew ?_ | refine blk_alloc ?_ _)); exact BK195.out⟩, ⟨by (with_reducible repeat (first | refine blk_drewN ?_ _ | refine blk_drew ?_ | refine blk_alloc ?_ _)); exact BK209.out⟩, ⟨by (with_reducible repeat (first | refine blk_drewN ?_ _ | refine blk_drew ?_ | refine blk_alloc ?_ _)); exact BK214.out⟩, ⟨by (with_reducible repeat (first | refine blk_drewN ?_ _ | refine blk_drew ?_ | refine blk_alloc ?_ _)); exact BK223.out⟩, ⟨by repeat (first | (with_reducible first | exact HB.out | apply below_alloc | apply pw_below_drewN | apply below_drew1 | refine below_set ?_ GE194.out | refine below_set ?_ GE195.out | refine below_set ?_ GE209.out | refine below_set ?_ GE214.out | refine below_set ?_ GE223.out) | exact HB.out)⟩⟩
      case rest =>
       clear HC77
       try clear c1
       try clear p2
       try clear c5
       try clear c6
       try clear c7
       try clear c8
       try clear c9
       try clear c10
       try clear c11
       try clear c51
       try clear c52
       try clear c53
       try clear c54
       try clear c55
       try clear c57
       try clear c58
       try clear c59
       try clear c62
       try clear c63
       try clear c64
       try clear c65
       try clear c67
       try clear c68
       try clear c69
       try clear c72
       try clear c75
       try clear c82
       try clear c83
       try clear c84
       try clear c85
       try clear c88
       try clear c88b0
       try clear c90
       try clear c91
       try clear c92
       try clear c93
       try clear c94
       try clear c96
       try clear c97
       try clear c98
       try clear c101
       try clear c102
       try clear c103
       try clear c104
       try clear c106
       try clear c107
       try clear c108
       try clear hcz105_0
       try clear hcz105_1
       try clear hcz109_0
       try clear hcz109_1
       try clear hcz56_0
       try clear hcz56_1
       try clear hcz60_0
       try clear hcz60_1
       try clear hcz66_0
       try clear hcz66_1
       try clear hcz70_0
       try clear hcz70_1
       try clear hcz86_0
       try clear hcz86_1
       try clear hcz95_0
       try clear hcz95_1
       try clear hcz99_0
       try clear hcz99_1
       try clear hfz105_0
       try clear hfz105_1
       try clear hfz109_0
       try clear hfz109_1
       try clear hfz56_0
       try clear hfz56_1
       try clear hfz60_0
       try clear hfz60_1
       try clear hfz66_0
       try clear hfz66_1
       try clear hfz70_0
       try clear hfz70_1
       try clear hfz86_0
       try clear hfz86_1
       try clear hfz95_0
       try clear hfz95_1
       try clear hfz99_0
       try clear hfz99_1
       try clear p2
       obtain ⟨kq, x67_76, rfl, HA, HJ76, HO_210001, HO_215001, HO_224001, BK194, BK195, BK209, BK214, BK223, HB⟩ := hcut
       have hl215001_76 := (Kd.R_reads' HO_215001.out).1
       rw [hl215001_76] at HO_215001
       (try simp only [hl215001_76])
       (try simp only [hl215001_76] at BK194)
       (try simp only [hl215001_76] at BK195)
       (try simp only [hl215001_76] at BK209)
       (try simp only [hl215001_76] at BK214)
       (try simp only [hl215001_76] at BK223)
       (try simp only [hl215001_76] at HO_210001)
       (try simp only [hl215001_76] at HO_224001)
       cases kq with
       | zero => exact absurd HA.out (by simp [laws_FnExactAddClue.j1])
       | succ kj76 =>
        have H := HA.out
        clear HA
        simp only [laws_FnExactAddClue.j1] at H
        by_cases c111 : x67_76 = true
        ·
         subst c111
         have H1 : (some false) = some r := by rw [if_pos rfl] at H; exact H
         clear H
         have H := H1
         clear H1
         obtain rfl := Option.some.inj H
         go_wp2
         go_ret
         exact ⟨by first | rfl | (simp [errW_none, errW_some] <;> rfl) | (simp [*, errW_none, errW_some] <;> rfl), qw HB⟩
        ·
         replace c111 := Bool.eq_false_iff.mpr c111
         subst c111
         have H1 : ((laws_markPuzzle.f kj76 t218 t219 1).bind fun bt233 => ((laws_heldPuzzle.f kj76 t218 bt233.2 1).bind fun t235 => (if t235 < 0 then (some false) else (if t235 = bt233.1 then ((laws_toPuzzle.f kj76 a0_0 l0_1).bind fun bt236 => ((laws_toClue.f a1_0 a1_1 a1_2).bind fun bt240 => ((impl_AddClue.f bt236.1 bt236.2 bt240.1 bt240.2.1 bt240.2.2).bind fun bt243 => ((laws_eqPuzzle.f kj76 bt243.1 bt243.2.1 t204 t205).bind fun t249 => (if t249 = true then (laws_FnExactAddClue.j2 kj76 bt233.1 (bt243.2.2 != t208) t218 bt233.2) else (laws_FnExactAddClue.j2 kj76 bt233.1 true t218 bt233.2)))))) else (some false))))) = some r := by rw [if_neg (show ¬ (false = true) by decide)] at H; exact H
         clear H
         have H := H1
         clear H1
         replace H := Option.bind_eq_some_iff.mp H
         obtain ⟨⟨t233, t234⟩, A1120, H⟩ := H
         replace H : ((laws_heldPuzzle.f kj76 t218 t234 1).bind fun t235 => (if t235 < 0 then (some false) else (if t235 = t233 then ((laws_toPuzzle.f kj76 a0_0 l0_1).bind fun bt236 => ((laws_toClue.f a1_0 a1_1 a1_2).bind fun bt240 => ((impl_AddClue.f bt236.1 bt236.2 bt240.1 bt240.2.1 bt240.2.2).bind fun bt243 => ((laws_eqPuzzle.f kj76 bt243.1 bt243.2.1 t204 t205).bind fun t249 => (if t249 = true then (laws_FnExactAddClue.j2 kj76 t233 (bt243.2.2 != t208) t218 t234) else (laws_FnExactAddClue.j2 kj76 t233 true t218 t234)))))) else (some false)))) = some r := H
         have A112 := Aside0.mk A1120
         clear A1120
         replace H := Option.bind_eq_some_iff.mp H
         obtain ⟨t235, A1130, H⟩ := H
         replace H : (if t235 < 0 then (some false) else (if t235 = t233 then ((laws_toPuzzle.f kj76 a0_0 l0_1).bind fun bt236 => ((laws_toClue.f a1_0 a1_1 a1_2).bind fun bt240 => ((impl_AddClue.f bt236.1 bt236.2 bt240.1 bt240.2.1 bt240.2.2).bind fun bt243 => ((laws_eqPuzzle.f kj76 bt243.1 bt243.2.1 t204 t205).bind fun t249 => (if t249 = true then (laws_FnExactAddClue.j2 kj76 t233 (bt243.2.2 != t208) t218 t234) else (laws_FnExactAddClue.j2 kj76 t233 true t218 t234)))))) else (some false))) = some r := H
         have A113 := Aside0.mk A1130
         clear A1130
         by_cases c114 : t235 < 0
         ·
          rw [if_pos c114] at H
          have c114b0 : decide (t235 < 0) = true := decide_eq_true c114
          clear c114
          obtain rfl := Option.some.inj H
          have hnb115 := NB223_194.out
          have hnc115 := NB194_223.out
          have hnb116 := NB223_195.out
          have hnc116 := NB195_223.out
          have hnb117 := NB223_209.out
          have hnc117 := NB209_223.out
          have hnb118 := NB223_214.out
          have hnc118 := NB214_223.out
          have hcz119_0 : wc.cell? ⟨gb223, 0, none⟩ = some (.int .i64 t218) := bc BK223 0
          have hcz119_1 : wc.cell? ⟨gb223, 1, none⟩ = some (.slice Ao48 t219.length co48) := bc BK223 1
          have hfz119_0 := blk_frozen BK223.out 0
          have hfz119_1 := blk_frozen BK223.out 1
          go_wp2_with (first | ((with_reducible refine gate_callee (f := 11) rfl ?_); refine goesL_ (some 70) rfl rfl Try.func11 (by kernel_rfl) rfl #[.agg #[.int .i64 t218, .slice Ao48 t219.length co48], .int .i64 1] rfl (by (try simp only [List.map_toArray, List.map_cons, List.map_nil]); first | done | rfl | (simp only [List.length_drop, List.length_take]; rfl)) ?_; (with_reducible refine (laws_markPuzzle.calls kj76 t218 (fun k_ => some k_ = (.slice Ao48 t219.length co48 : Value).ownBlock) (.slice Ao48 t219.length co48) t219 1 t233 t234 w _ ?side1 ?side2 A112.out).mono ?_); (case side1 => repeat (first | (with_reducible first | exact HB.out | apply below_alloc | apply pw_below_drewN | apply below_drew1 | refine below_set ?_ GE194.out | refine below_set ?_ GE195.out | refine below_set ?_ GE209.out | refine below_set ?_ GE214.out | refine below_set ?_ GE223.out) | exact HB.out)); (case side2 => exact Kd.R_tight rfl HO_224001.out); rintro e w120 ⟨rfl, hy0, hb, hkp⟩; refine ⟨_, rfl, ?_⟩; have n0_ := Aside0.mk (Kd.R_mono (ok' := fun k_ => some k_ ≠ (.slice Ao40 t231.length co40 : Value).ownBlock ∧ some k_ ≠ (.slice Ao48 t219.length co48 : Value).ownBlock) (Kd.R_keptB (HO_210001.out) hkp (fun k_ hk_ hs_ => (hk_.2) hs_)) (fun k_ hk_ => ⟨hk_.1.1, hk_.1.2⟩)); have n1_ := Aside0.mk (Kd.R_mono (ok' := fun k_ => some k_ ≠ (.slice Ao30 t205.length co30 : Value).ownBlock ∧ some k_ ≠ (.slice Ao48 t219.length co48 : Value).ownBlock) (Kd.R_keptB (HO_215001.out) hkp (fun k_ hk_ hs_ => (hk_.2) hs_)) (fun k_ hk_ => ⟨hk_.1.1, hk_.1.2⟩)); have n2_ := Aside0.mk (Kd.R_reok rfl hy0 (fun k_ e_ => HO_224001.out.1 k_ e_)); have n3_ := Aside0.mk (blk_kept (qb BK194) hkp (fun hs_ => (fun e_ => (Kd.R_ne HO_224001.out BK194.out (by decide)) e_) hs_)); have n4_ := Aside0.mk (blk_kept (qb BK195) hkp (fun hs_ => (fun e_ => (Kd.R_ne HO_224001.out BK195.out (by decide)) e_) hs_)); have n5_ := Aside0.mk (blk_kept (qb BK209) hkp (fun hs_ => (fun e_ => (Kd.R_ne HO_224001.out BK209.out (by decide)) e_) hs_)); have n6_ := Aside0.mk (blk_kept (qb BK214) hkp (fun hs_ => (fun e_ => (Kd.R_ne HO_224001.out BK214.out (by decide)) e_) hs_)); have n7_ := Aside0.mk (blk_kept (qb BK223) hkp (fun hs_ => (fun e_ => (Kd.R_ne HO_224001.out BK223.out (by decide)) e_) hs_)); have n8_ := Aside0.mk (hb); clear HO_210001; clear HO_215001; clear HO_224001; clear BK194; clear BK195; clear BK209; clear BK214; clear BK223; clear HB; have HO_210001 := n0_; have HO_215001 := n1_; have HO_224001 := n2_; have BK194 := n3_; have BK195 := n4_; have BK209 := n5_; have BK214 := n6_; have BK223 := n7_; have HB := n8_; clear n0_ n1_ n2_ n3_ n4_ n5_ n6_ n7_ n8_; (try clear hb); (try clear hkp); (try clear hy0); have hcz121_0 : w120.cell? ⟨gb223, 0, none⟩ = some (.int .i64 t218) := bc BK223 0; have hcz121_1 : w120.cell? ⟨gb223, 1, none⟩ = some (.slice Ao48 t219.length co48) := bc BK223 1; have hfz121_0 := blk_frozen BK223.out 0; have hfz121_1 := blk_frozen BK223.out 1) | ((with_reducible refine gate_callee (f := 12) rfl ?_); refine goesL_ (some 73) rfl rfl Try.func12 (by kernel_rfl) rfl #[.agg #[.int .i64 t218, .slice Ao48 t234.length co48], .int .i64 1] rfl (by (try simp only [List.map_toArray, List.map_cons, List.map_nil]); first | done | (rw [show t234.length = t219.length from (Kd.R_reads' HO_224001.out).1.symm] <;> rfl) | rfl | (simp only [List.length_drop, List.length_take]; rfl)) ?_; (with_reducible refine (laws_heldPuzzle.calls kj76 t218 _ _ t234 1 t235 _ ?side1 ?side2 A113.out).mono ?_); (case side1 => repeat (first | exact (Kd.R_reads' HO_224001.out).2.2 | (with_reducible refine Kd.C_alloc ?_ _) | (with_reducible refine Kd.C_drewN ?_ _) | (with_reducible refine Kd.C_drew ?_))); (case side2 => rw [show t234.length = t219.length from (Kd.R_reads' HO_224001.out).1.symm]; exact (Kd.R_reads' HO_224001.out).2.1); rintro e w122 ⟨rfl, hb⟩; refine ⟨_, rfl, ?_⟩; have n0_ := Aside0.mk (Kd.R_below (qr HO_210001.out) hb); have n1_ := Aside0.mk (Kd.R_below (qr HO_215001.out) hb); have n2_ := Aside0.mk (Kd.R_below (qr HO_224001.out) hb); have n3_ := qbb BK194 hb; have n4_ := qbb BK195 hb; have n5_ := qbb BK209 hb; have n6_ := qbb BK214 hb; have n7_ := qbb BK223 hb; have n8_ := Aside0.mk (below_step (qw HB) hb); clear HO_210001; clear HO_215001; clear HO_224001; clear BK194; clear BK195; clear BK209; clear BK214; clear BK223; clear HB; have HO_210001 := n0_; have HO_215001 := n1_; have HO_224001 := n2_; have BK194 := n3_; have BK195 := n4_; have BK209 := n5_; have BK214 := n6_; have BK223 := n7_; have HB := n8_; clear n0_ n1_ n2_ n3_ n4_ n5_ n6_ n7_ n8_; (try clear hb); (try clear hb2); (try clear hk); (try clear hi)))
          go_ret
          exact ⟨by first | rfl | (simp [errW_none, errW_some] <;> rfl) | (simp [*, errW_none, errW_some] <;> rfl), qw HB⟩
         ·
          rw [if_neg c114] at H
          have c114b0 : decide (t235 < 0) = false := decide_eq_false c114
          clear c114
          by_cases c123 : t235 = t233
          ·
           rw [if_pos c123] at H
           have c123b0 : (t235 == t233) = true := beq_iff_eq.mpr c123
           have c123b1 : (t235 != t233) = false := bne_eq_false_iff_eq.mpr c123
           clear c123
           replace H := Option.bind_eq_some_iff.mp H
           obtain ⟨⟨t236, t237⟩, A1240, H⟩ := H
           replace H : ((laws_toClue.f a1_0 a1_1 a1_2).bind fun bt240 => ((impl_AddClue.f t236 t237 bt240.1 bt240.2.1 bt240.2.2).bind fun bt243 => ((laws_eqPuzzle.f kj76 bt243.1 bt243.2.1 t204 t205).bind fun t249 => (if t249 = true then (laws_FnExactAddClue.j2 kj76 t233 (bt243.2.2 != t208) t218 t234) else (laws_FnExactAddClue.j2 kj76 t233 true t218 t234))))) = some r := H
           have A124 := Aside0.mk A1240
           clear A1240
           replace H := Option.bind_eq_some_iff.mp H
           obtain ⟨⟨t240, t241, t242⟩, A1250, H⟩ := H
           replace H : ((impl_AddClue.f t236 t237 t240 t241 t242).bind fun bt243 => ((laws_eqPuzzle.f kj76 bt243.1 bt243.2.1 t204 t205).bind fun t249 => (if t249 = true then (laws_FnExactAddClue.j2 kj76 t233 (bt243.2.2 != t208) t218 t234) else (laws_FnExactAddClue.j2 kj76 t233 true t218 t234)))) = some r := H
           have A125 := Aside0.mk A1250
           clear A1250
           replace H := Option.bind_eq_some_iff.mp H
           obtain ⟨⟨t243, t244, t247⟩, A1260, H⟩ := H
           replace H : ((laws_eqPuzzle.f kj76 t243 t244 t204 t205).bind fun t249 => (if t249 = true then (laws_FnExactAddClue.j2 kj76 t233 (t247 != t208) t218 t234) else (laws_FnExactAddClue.j2 kj76 t233 true t218 t234))) = some r := H
           have A126 := Aside0.mk A1260
           clear A1260
           have HC127 := Aside0.mk H
           clear H
           have hnb128 := NB223_194.out
           have hnc128 := NB194_223.out
           have hnb129 := NB223_195.out
           have hnc129 := NB195_223.out
           have hnb130 := NB223_209.out
           have hnc130 := NB209_223.out
           have hnb131 := NB223_214.out
           have hnc131 := NB214_223.out
           have hcz132_0 : wc.cell? ⟨gb223, 0, none⟩ = some (.int .i64 t218) := bc BK223 0
           have hcz132_1 : wc.cell? ⟨gb223, 1, none⟩ = some (.slice Ao48 t219.length co48) := bc BK223 1
           have hfz132_0 := blk_frozen BK223.out 0
           have hfz132_1 := blk_frozen BK223.out 1
           try go_wp2_with (first | ((with_reducible refine gate_callee (f := 11) rfl ?_); refine goesL_ (some 70) rfl rfl Try.func11 (by kernel_rfl) rfl #[.agg #[.int .i64 t218, .slice Ao48 t219.length co48], .int .i64 1] rfl (by (try simp only [List.map_toArray, List.map_cons, List.map_nil]); first | done | rfl | (simp only [List.length_drop, List.length_take]; rfl)) ?_; (with_reducible refine (laws_markPuzzle.calls kj76 t218 (fun k_ => some k_ = (.slice Ao48 t219.length co48 : Value).ownBlock) (.slice Ao48 t219.length co48) t219 1 t233 t234 w _ ?side1 ?side2 A112.out).mono ?_); (case side1 => repeat (first | (with_reducible first | exact HB.out | apply below_alloc | apply pw_below_drewN | apply below_drew1 | refine below_set ?_ GE194.out | refine below_set ?_ GE195.out | refine below_set ?_ GE209.out | refine below_set ?_ GE214.out | refine below_set ?_ GE223.out) | exact HB.out)); (case side2 => exact Kd.R_tight rfl HO_224001.out); rintro e w133 ⟨rfl, hy0, hb, hkp⟩; refine ⟨_, rfl, ?_⟩; have n0_ := Aside0.mk (Kd.R_mono (ok' := fun k_ => some k_ ≠ (.slice Ao40 t231.length co40 : Value).ownBlock ∧ some k_ ≠ (.slice Ao48 t219.length co48 : Value).ownBlock) (Kd.R_keptB (HO_210001.out) hkp (fun k_ hk_ hs_ => (hk_.2) hs_)) (fun k_ hk_ => ⟨hk_.1.1, hk_.1.2⟩)); have n1_ := Aside0.mk (Kd.R_mono (ok' := fun k_ => some k_ ≠ (.slice Ao30 t205.length co30 : Value).ownBlock ∧ some k_ ≠ (.slice Ao48 t219.length co48 : Value).ownBlock) (Kd.R_keptB (HO_215001.out) hkp (fun k_ hk_ hs_ => (hk_.2) hs_)) (fun k_ hk_ => ⟨hk_.1.1, hk_.1.2⟩)); have n2_ := Aside0.mk (Kd.R_reok rfl hy0 (fun k_ e_ => HO_224001.out.1 k_ e_)); have n3_ := Aside0.mk (blk_kept (qb BK194) hkp (fun hs_ => (fun e_ => (Kd.R_ne HO_224001.out BK194.out (by decide)) e_) hs_)); have n4_ := Aside0.mk (blk_kept (qb BK195) hkp (fun hs_ => (fun e_ => (Kd.R_ne HO_224001.out BK195.out (by decide)) e_) hs_)); have n5_ := Aside0.mk (blk_kept (qb BK209) hkp (fun hs_ => (fun e_ => (Kd.R_ne HO_224001.out BK209.out (by decide)) e_) hs_)); have n6_ := Aside0.mk (blk_kept (qb BK214) hkp (fun hs_ => (fun e_ => (Kd.R_ne HO_224001.out BK214.out (by decide)) e_) hs_)); have n7_ := Aside0.mk (blk_kept (qb BK223) hkp (fun hs_ => (fun e_ => (Kd.R_ne HO_224001.out BK223.out (by decide)) e_) hs_)); have n8_ := Aside0.mk (hb); clear HO_210001; clear HO_215001; clear HO_224001; clear BK194; clear BK195; clear BK209; clear BK214; clear BK223; clear HB; have HO_210001 := n0_; have HO_215001 := n1_; have HO_224001 := n2_; have BK194 := n3_; have BK195 := n4_; have BK209 := n5_; have BK214 := n6_; have BK223 := n7_; have HB := n8_; clear n0_ n1_ n2_ n3_ n4_ n5_ n6_ n7_ n8_; (try clear hb); (try clear hkp); (try clear hy0); have hcz134_0 : w133.cell? ⟨gb223, 0, none⟩ = some (.int .i64 t218) := bc BK223 0; have hcz134_1 : w133.cell? ⟨gb223, 1, none⟩ = some (.slice Ao48 t219.length co48) := bc BK223 1; have hfz134_0 := blk_frozen BK223.out 0; have hfz134_1 := blk_frozen BK223.out 1) | ((with_reducible refine gate_callee (f := 12) rfl ?_); refine goesL_ (some 73) rfl rfl Try.func12 (by kernel_rfl) rfl #[.agg #[.int .i64 t218, .slice Ao48 t234.length co48], .int .i64 1] rfl (by (try simp only [List.map_toArray, List.map_cons, List.map_nil]); first | done | (rw [show t234.length = t219.length from (Kd.R_reads' HO_224001.out).1.symm] <;> rfl) | rfl | (simp only [List.length_drop, List.length_take]; rfl)) ?_; (with_reducible refine (laws_heldPuzzle.calls kj76 t218 _ _ t234 1 t235 _ ?side1 ?side2 A113.out).mono ?_); (case side1 => repeat (first | exact (Kd.R_reads' HO_224001.out).2.2 | (with_reducible refine Kd.C_alloc ?_ _) | (with_reducible refine Kd.C_drewN ?_ _) | (with_reducible refine Kd.C_drew ?_))); (case side2 => rw [show t234.length = t219.length from (Kd.R_reads' HO_224001.out).1.symm]; exact (Kd.R_reads' HO_224001.out).2.1); rintro e w135 ⟨rfl, hb⟩; refine ⟨_, rfl, ?_⟩; have n0_ := Aside0.mk (Kd.R_below (qr HO_210001.out) hb); have n1_ := Aside0.mk (Kd.R_below (qr HO_215001.out) hb); have n2_ := Aside0.mk (Kd.R_below (qr HO_224001.out) hb); have n3_ := qbb BK194 hb; have n4_ := qbb BK195 hb; have n5_ := qbb BK209 hb; have n6_ := qbb BK214 hb; have n7_ := qbb BK223 hb; have n8_ := Aside0.mk (below_step (qw HB) hb); clear HO_210001; clear HO_215001; clear HO_224001; clear BK194; clear BK195; clear BK209; clear BK214; clear BK223; clear HB; have HO_210001 := n0_; have HO_215001 := n1_; have HO_224001 := n2_; have BK194 := n3_; have BK195 := n4_; have BK209 := n5_; have BK214 := n6_; have BK223 := n7_; have HB := n8_; clear n0_ n1_ n2_ n3_ n4_ n5_ n6_ n7_ n8_; (try clear hb); (try clear hb2); (try clear hk); (try clear hi)))
           have n0_ := Aside0.mk (Kd.R_drew HO_210001.out)
           have n1_ := Aside0.mk (Kd.R_drew HO_215001.out)
           have n2_ := Aside0.mk (Kd.R_drew HO_224001.out)
           have n3_ := Aside0.mk (blk_drew BK194.out)
           have n4_ := Aside0.mk (blk_drew BK195.out)
           have n5_ := Aside0.mk (blk_drew BK209.out)
           have n6_ := Aside0.mk (blk_drew BK214.out)
           have n7_ := Aside0.mk (blk_drew BK223.out)
           have n8_ := Aside0.mk (below_drew1 HB.out)
           clear HO_210001
           clear HO_215001
           clear HO_224001
           clear BK194
           clear BK195
           clear BK209
           clear BK214
           clear BK223
           clear HB
           have HO_210001 := n0_
           have HO_215001 := n1_
           have HO_224001 := n2_
           have BK194 := n3_
           have BK195 := n4_
           have BK209 := n5_
           have BK214 := n6_
           have BK223 := n7_
           have HB := n8_
           clear n0_ n1_ n2_ n3_ n4_ n5_ n6_ n7_ n8_
           refine start_ (n := 11) (S := fun w' => w'.cell? ⟨gb194, 0, none⟩ = some (.int .i64 a0_0) ∧ w'.cell? ⟨gb194, 1, none⟩ = some (.slice A0_1 l0_1.length c0_1) ∧ w'.cell? ⟨gb195, 0, none⟩ = some (.int .i64 a1_0) ∧ w'.cell? ⟨gb195, 1, none⟩ = some (.int .i64 a1_1) ∧ w'.cell? ⟨gb195, 2, none⟩ = some (.int .i64 a1_2)) (ds := []) #[false, false, false, false, false, false, false, false, false, false, false] (by kernel_rfl) rfl rfl ⟨bc BK194 0, bc BK194 1, bc BK195 0, bc BK195 1, bc BK195 2⟩ (fun hHeld => ?_); refine with_tabW laws_FnExactAddClue.tab24 laws_FnExactAddClue.bits24 (fun HT_ HW_ => ?_)
           generalize w135.drew = w136 at HO_210001 HO_215001 HO_224001 BK194 BK195 BK209 BK214 BK223 HB hHeld ⊢
           refine take_ (i := 0) (N := some 80) (v := ?_) (a' := ?_) #[true, false, false, false, false, false, false, false, false, false, false] rfl rfl (take_ofW HT_.out HW_.out (by kernel_rfl)) (fun _ _ _ h => h) (Or.inl ⟨by rfl, ?_⟩) hHeld ?_ ?_
           rotate_left
           ·
            rintro w' ⟨s0, s1, s2, s3, s4⟩
            go_simp
            with_reducible rfl
           rotate_left
           ·
            simp only [Act.put, List.setIfInBounds_toArray, List.set_cons_zero, List.set_cons_succ, i64_w, i32_w]
            rfl
           refine take_ (i := 2) (N := some 82) (v := ?_) (a' := ?_) #[true, false, true, false, false, false, false, false, false, false, false] rfl rfl (take_ofW HT_.out HW_.out (by kernel_rfl)) (fun _ _ _ h => h) (Or.inl ⟨by rfl, ?_⟩) hHeld ?_ ?_
           rotate_left
           ·
            rintro w' ⟨s0, s1, s2, s3, s4⟩
            go_simp
            with_reducible rfl
           rotate_left
           ·
            simp only [Act.put, List.setIfInBounds_toArray, List.set_cons_zero, List.set_cons_succ, i64_w, i32_w]
            rfl
           refine join_ (σ := Value × Value × Nat) 2 #[true, true, true, true, true, true, true, true, true, false, false] (fun s_ => [(81, .agg #[.int .i64 t236, s_.1]), (83, .agg #[.int .i64 t240, .int .i64 t241, .int .i64 t242]), (84, .tuple #[.agg #[.int .i64 t243, s_.2.1], .bool t247]), (14, .pointer (some ⟨s_.2.2, 0, none⟩)), (79, .tuple #[.agg #[.int .i64 t243, s_.2.1], .bool t247]), (85, .agg #[.int .i64 t243, s_.2.1]), (86, .bool t247)]) (fun s_ w' => (w'.cell? ⟨gb194, 0, none⟩ = some (.int .i64 a0_0) ∧ w'.cell? ⟨gb194, 1, none⟩ = some (.slice A0_1 l0_1.length c0_1) ∧ w'.cell? ⟨gb195, 0, none⟩ = some (.int .i64 a1_0) ∧ w'.cell? ⟨gb195, 1, none⟩ = some (.int .i64 a1_1) ∧ w'.cell? ⟨gb195, 2, none⟩ = some (.int .i64 a1_2)) ∧ (Kd.R k34 34 w' w.heap.size (fun k_ => some k_ ≠ (s_.2.1 : Value).ownBlock ∧ some k_ ≠ (.slice Ao30 t205.length co30 : Value).ownBlock ∧ some k_ ≠ (.slice Ao40 t231.length co40 : Value).ownBlock ∧ some k_ ≠ (.slice Ao48 t219.length co48 : Value).ownBlock) s_.1 t237) ∧ (Kd.R k34 34 w' w.heap.size (fun k_ => some k_ ≠ (s_.1 : Value).ownBlock ∧ some k_ ≠ (.slice Ao30 t205.length co30 : Value).ownBlock ∧ some k_ ≠ (.slice Ao40 t231.length co40 : Value).ownBlock ∧ some k_ ≠ (.slice Ao48 t219.length co48 : Value).ownBlock) s_.2.1 t244) ∧ (Kd.R k34 34 w' w.heap.size (fun k_ => some k_ ≠ (s_.1 : Value).ownBlock ∧ some k_ ≠ (s_.2.1 : Value).ownBlock ∧ some k_ ≠ (.slice Ao40 t231.length co40 : Value).ownBlock ∧ some k_ ≠ (.slice Ao48 t219.length co48 : Value).ownBlock) (.slice Ao30 t205.length co30) t205) ∧ (Kd.R k34 34 w' w.heap.size (fun k_ => some k_ ≠ (s_.1 : Value).ownBlock ∧ some k_ ≠ (s_.2.1 : Value).ownBlock ∧ some k_ ≠ (.slice Ao30 t205.length co30 : Value).ownBlock ∧ some k_ ≠ (.slice Ao48 t219.length co48 : Value).ownBlock) (.slice Ao40 t231.length co40) t231) ∧ (Kd.R k34 34 w' w.heap.size (fun k_ => some k_ ≠ (s_.1 : Value).ownBlock ∧ some k_ ≠ (s_.2.1 : Value).ownBlock ∧ some k_ ≠ (.slice Ao30 t205.length co30 : Value).ownBlock ∧ some k_ ≠ (.slice Ao40 t231.length co40 : Value).ownBlock) (.slice Ao48 t219.length co48) t234) ∧ (w'.heap[gb194]? = some (.cells #[.int .i64 a0_0, .slice A0_1 l0_1.length c0_1] 24 (0, 0))) ∧ (w'.heap[gb195]? = some (.cells #[.int .i64 a1_0, .int .i64 a1_1, .int .i64 a1_2] 26 (0, 0))) ∧ (w'.heap[gb209]? = some (.cells #[.int .i64 t204, .slice Ao30 t205.length co30] 30 (0, 0))) ∧ (w'.heap[gb214]? = some (.cells #[.int .i64 t210, .slice Ao40 t231.length co40] 30 (0, 0))) ∧ (w'.heap[gb223]? = some (.cells #[.int .i64 t218, .slice Ao48 t219.length co48] 30 (0, 0))) ∧ (w'.heap[s_.2.2]? = some (.cells #[.int .i64 0, .slice none 0 0] 30 (0, 0))) ∧ (w.heap.size ≤ s_.2.2) ∧ (w.heap.size ≤ s_.2.2) ∧ (gb194 ≠ s_.2.2) ∧ (s_.2.2 ≠ gb194) ∧ (gb195 ≠ s_.2.2) ∧ (s_.2.2 ≠ gb195) ∧ (gb209 ≠ s_.2.2) ∧ (s_.2.2 ≠ gb209) ∧ (gb214 ≠ s_.2.2) ∧ (s_.2.2 ≠ gb214) ∧ (gb223 ≠ s_.2.2) ∧ (s_.2.2 ≠ gb223) ∧ (Below w.heap.size w w')) ?_ ?_
           rotate_left
           ·
            intro hCont
            refine two_ (i := 1) (j := 8) (Ni := some 81) (Nj := some 14) #[true, true, true, false, false, false, false, false, false, false, false] #[true, false, true, false, false, false, false, false, true, false, false] rfl rfl rfl rfl (two_of HT_.out (by kernel_rfl)) (by decide) (by decide) (fun K hK => ?_) (fun K hK => ?_)
            ·
             skip
             refine goes_ Try.func7 (by kernel_rfl) rfl #[.agg #[.int .i64 a0_0, .slice A0_1 l0_1.length c0_1]] (by rfl) rfl rfl (by (try simp only [List.map_toArray, List.map_cons, List.map_nil]); first | done | rfl | (simp only [List.length_drop, List.length_take]; rfl)) ?_
             with_reducible refine (laws_toPuzzle.calls kj76 a0_0 _ _ l0_1 t236 t237 _ ?side1 ?side2 A124.out).mono ?_
             (case side1 => repeat (first | exact (Kd.C_below HR0_1.out HB.out) | (with_reducible refine Kd.C_alloc ?_ _) | (with_reducible refine Kd.C_drewN ?_ _) | (with_reducible refine Kd.C_drew ?_)))
             (case side2 => exact HC0_1.out)
             rintro e w137 ⟨v238, rfl, ho0, hb⟩
             refine ⟨_, rfl, ?_⟩
             have n0_ := Aside0.mk (Kd.R_elder' (qr HO_210001.out) (Kd.R_base ho0) hb)
             have n1_ := Aside0.mk (Kd.R_elder' (qr HO_215001.out) (Kd.R_base ho0) hb)
             have n2_ := Aside0.mk (Kd.R_elder' (qr HO_224001.out) (Kd.R_base ho0) hb)
             have n3_ := Aside0.mk (Kd.R_lower (Kd.R_new' (Kd.R_new' (Kd.R_new' ho0 (Kd.R_lt (qr HO_210001.out))) (Kd.R_lt (qr HO_215001.out))) (Kd.R_lt (qr HO_224001.out))) (below_size (qw HB)))
             have n4_ := qbb BK194 hb
             have n5_ := qbb BK195 hb
             have n6_ := qbb BK209 hb
             have n7_ := qbb BK214 hb
             have n8_ := qbb BK223 hb
             have n9_ := Aside0.mk (below_step (qw HB) hb)
             clear HO_210001
             clear HO_215001
             clear HO_224001
             clear BK194
             clear BK195
             clear BK209
             clear BK214
             clear BK223
             clear HB
             have HO_210001 := n0_
             have HO_215001 := n1_
             have HO_224001 := n2_
             have HO239 := n3_
             have BK194 := n4_
             have BK195 := n5_
             have BK209 := n6_
             have BK214 := n7_
             have BK223 := n8_
             have HB := n9_
             clear n0_ n1_ n2_ n3_ n4_ n5_ n6_ n7_ n8_ n9_
             (try clear hb)
             (try clear hb2)
             (try clear hk)
             (try clear hi)
             (try clear ho0)
             refine hK.out _ _ ⟨bc BK194 0, bc BK194 1, bc BK195 0, bc BK195 1, bc BK195 2⟩ (fun hHeld => ?_)
             clear hK K
             refine norm_ (a' := ?_) ?_ ?_
             rotate_left
             ·
              show Act.put _ (some 81) _ = _
              simp only [Act.put, List.setIfInBounds_toArray, List.set_cons_zero, List.set_cons_succ, i64_w, i32_w]
              rfl
             refine two_ (i := 3) (j := 8) (Ni := some 83) (Nj := some 14) #[true, true, true, true, false, false, false, false, false, false, false] #[true, true, true, false, false, false, false, false, true, false, false] rfl rfl rfl rfl (two_of HT_.out (by kernel_rfl)) (by decide) (by decide) (fun K hK => ?_) (fun K hK => ?_)
             ·
              skip
              refine goes_ Try.func8 (by kernel_rfl) rfl #[.agg #[.int .i64 a1_0, .int .i64 a1_1, .int .i64 a1_2]] (by rfl) rfl rfl (by (try simp only [List.map_toArray, List.map_cons, List.map_nil]); first | done | rfl | (simp only [List.length_drop, List.length_take]; rfl)) ?_
              with_reducible refine (laws_toClue.calls a1_0 a1_1 a1_2 t240 t241 t242 _ A125.out).mono ?_
              rintro e w138 ⟨rfl, hb⟩
              refine ⟨_, rfl, ?_⟩
              have n0_ := Aside0.mk (Kd.R_below (qr HO_210001.out) hb)
              have n1_ := Aside0.mk (Kd.R_below (qr HO_215001.out) hb)
              have n2_ := Aside0.mk (Kd.R_below (qr HO_224001.out) hb)
              have n3_ := Aside0.mk (Kd.R_below (qr HO239.out) hb)
              have n4_ := qbb BK194 hb
              have n5_ := qbb BK195 hb
              have n6_ := qbb BK209 hb
              have n7_ := qbb BK214 hb
              have n8_ := qbb BK223 hb
              have n9_ := Aside0.mk (below_step (qw HB) hb)
              clear HO_210001
              clear HO_215001
              clear HO_224001
              clear HO239
              clear BK194
              clear BK195
              clear BK209
              clear BK214
              clear BK223
              clear HB
              have HO_210001 := n0_
              have HO_215001 := n1_
              have HO_224001 := n2_
              have HO239 := n3_
              have BK194 := n4_
              have BK195 := n5_
              have BK209 := n6_
              have BK214 := n7_
              have BK223 := n8_
              have HB := n9_
              clear n0_ n1_ n2_ n3_ n4_ n5_ n6_ n7_ n8_ n9_
              (try clear hb)
              (try clear hb2)
              (try clear hk)
              (try clear hi)
              obtain ⟨Ao139, co139, eo139⟩ := Kd.R_slice HO239.out
              (first | subst eo139 | (injection eo139 with f1_ f2_ f3_; have f4_ := f1_.symm; have f5_ := f3_.symm; clear f1_ f2_ f3_; subst f4_; subst f5_))
              refine hK.out _ _ ⟨bc BK194 0, bc BK194 1, bc BK195 0, bc BK195 1, bc BK195 2⟩ (fun hHeld => ?_)
              clear hK K
              refine norm_ (a' := ?_) ?_ ?_
              rotate_left
              ·
               show Act.put _ (some 83) _ = _
               simp only [Act.put, List.setIfInBounds_toArray, List.set_cons_zero, List.set_cons_succ, i64_w, i32_w]
               rfl
              refine two_ (i := 4) (j := 8) (Ni := some 84) (Nj := some 14) #[true, true, true, true, true, false, false, false, false, false, false] #[true, true, true, true, false, false, false, false, true, false, false] rfl rfl rfl rfl (two_of HT_.out (by kernel_rfl)) (by decide) (by decide) (fun K hK => ?_) (fun K hK => ?_)
              ·
               skip
               refine goes_ Try.func9 (by kernel_rfl) rfl #[.agg #[.int .i64 t236, .slice Ao139 t237.length co139], .agg #[.int .i64 t240, .int .i64 t241, .int .i64 t242]] (by rfl) rfl rfl (by (try simp only [List.map_toArray, List.map_cons, List.map_nil]); first | done | rfl | (simp only [List.length_drop, List.length_take]; rfl)) ?_
               with_reducible refine (impl_AddClue.calls t236 _ _ t237 t240 t241 t242 t243 t244 t247 _ ?side1 ?side2 A126.out).mono ?_
               (case side1 => repeat (first | exact (Kd.R_reads' HO239.out).2.2 | (with_reducible refine Kd.C_alloc ?_ _) | (with_reducible refine Kd.C_drewN ?_ _) | (with_reducible refine Kd.C_drew ?_)))
               (case side2 => exact (Kd.R_reads' HO239.out).2.1)
               rintro e w140 ⟨v245, rfl, ho0, hb⟩
               refine ⟨_, rfl, ?_⟩
               have n0_ := Aside0.mk (Kd.R_elder' (qr HO_210001.out) (Kd.R_base ho0) hb)
               have n1_ := Aside0.mk (Kd.R_elder' (qr HO_215001.out) (Kd.R_base ho0) hb)
               have n2_ := Aside0.mk (Kd.R_elder' (qr HO_224001.out) (Kd.R_base ho0) hb)
               have n3_ := Aside0.mk (Kd.R_elder' (qr HO239.out) (Kd.R_base ho0) hb)
               have n4_ := Aside0.mk (Kd.R_lower (Kd.R_new' (Kd.R_new' (Kd.R_new' (Kd.R_new' ho0 (Kd.R_lt (qr HO_210001.out))) (Kd.R_lt (qr HO_215001.out))) (Kd.R_lt (qr HO_224001.out))) (Kd.R_lt (qr HO239.out))) (below_size (qw HB)))
               have n5_ := qbb BK194 hb
               have n6_ := qbb BK195 hb
               have n7_ := qbb BK209 hb
               have n8_ := qbb BK214 hb
               have n9_ := qbb BK223 hb
               have n10_ := Aside0.mk (below_step (qw HB) hb)
               clear HO_210001
               clear HO_215001
               clear HO_224001
               clear HO239
               clear BK194
               clear BK195
               clear BK209
               clear BK214
               clear BK223
               clear HB
               have HO_210001 := n0_
               have HO_215001 := n1_
               have HO_224001 := n2_
               have HO239 := n3_
               have HO246 := n4_
               have BK194 := n5_
               have BK195 := n6_
               have BK209 := n7_
               have BK214 := n8_
               have BK223 := n9_
               have HB := n10_
               clear n0_ n1_ n2_ n3_ n4_ n5_ n6_ n7_ n8_ n9_ n10_
               (try clear hb)
               (try clear hb2)
               (try clear hk)
               (try clear hi)
               (try clear ho0)
               refine hK.out _ _ ⟨bc BK194 0, bc BK194 1, bc BK195 0, bc BK195 1, bc BK195 2⟩ (fun hHeld => ?_)
               clear hK K
               refine norm_ (a' := ?_) ?_ ?_
               rotate_left
               ·
                show Act.put _ (some 84) _ = _
                simp only [Act.put, List.setIfInBounds_toArray, List.set_cons_zero, List.set_cons_succ, i64_w, i32_w]
                rfl
               refine pure_ (i := 5) (N := some 79) (v := ?_) (a' := ?_) #[true, true, true, true, true, true, false, false, false, false, false] rfl rfl (any_of HT_.out (by kernel_rfl)) (fun _ _ _ h => h) (Or.inl ⟨by rfl, ?_⟩) ?_ ?_
               rotate_left
               ·
                intro w'
                go_simp
                with_reducible rfl
               rotate_left
               ·
                simp only [Act.put, List.setIfInBounds_toArray, List.set_cons_zero, List.set_cons_succ, i64_w, i32_w]
                rfl
               refine pure_ (i := 6) (N := some 85) (v := ?_) (a' := ?_) #[true, true, true, true, true, true, true, false, false, false, false] rfl rfl (any_of HT_.out (by kernel_rfl)) (fun _ _ _ h => h) (Or.inl ⟨by rfl, ?_⟩) ?_ ?_
               rotate_left
               ·
                intro w'
                go_simp
                with_reducible rfl
               rotate_left
               ·
                simp only [Act.put, List.setIfInBounds_toArray, List.set_cons_zero, List.set_cons_succ, i64_w, i32_w]
                rfl
               refine pure_ (i := 7) (N := some 86) (v := ?_) (a' := ?_) #[true, true, true, true, true, true, true, true, false, false, false] rfl rfl (any_of HT_.out (by kernel_rfl)) (fun _ _ _ h => h) (Or.inl ⟨by rfl, ?_⟩) ?_ ?_
               rotate_left
               ·
                intro w'
                go_simp
                with_reducible rfl
               rotate_left
               ·
                simp only [Act.put, List.setIfInBounds_toArray, List.set_cons_zero, List.set_cons_succ, i64_w, i32_w]
                rfl
               refine one_ (i := 8) (N := some 14) #[true, true, true, true, true, true, true, true, true, false, false] rfl rfl (one_of HT_.out (by kernel_rfl)) (by decide) (fun K hK => ?_)
               refine box_step ?hg (N := 14) ?hd (cs := #[.int .i64 0, .slice none 0 0]) (t := 30) ?hr ?_; (case hd => rfl); (case hg => rfl); (case hr => first | (go_simp; done) | (go_simp; rfl))
               intro gb248 hg w141 hbox hb
               have n0_ := Aside0.mk (Kd.R_below (qr HO_210001.out) hb)
               have n1_ := Aside0.mk (Kd.R_below (qr HO_215001.out) hb)
               have n2_ := Aside0.mk (Kd.R_below (qr HO_224001.out) hb)
               have n3_ := Aside0.mk (Kd.R_below (qr HO239.out) hb)
               have n4_ := Aside0.mk (Kd.R_below (qr HO246.out) hb)
               have n5_ := qbb BK194 hb
               have n6_ := qbb BK195 hb
               have n7_ := qbb BK209 hb
               have n8_ := qbb BK214 hb
               have n9_ := qbb BK223 hb
               have n10_ := Aside0.mk (below_step (qw HB) hb)
               have n11_ := Aside0.mk (hbox)
               have n12_ := Aside0.mk ((by rw [hg]; exact (below_size (qw HB)) : w.heap.size ≤ gb248))
               have n13_ := Aside0.mk ((by rw [hg]; exact (below_size (qw HB)) : w.heap.size ≤ gb248))
               have n14_ := Aside0.mk ((by rw [hg]; exact Nat.ne_of_lt (blk_lt (qb BK194)) : gb194 ≠ gb248))
               have n15_ := Aside0.mk ((by rw [hg]; exact Nat.ne_of_gt (blk_lt (qb BK194)) : gb248 ≠ gb194))
               have n16_ := Aside0.mk ((by rw [hg]; exact Nat.ne_of_lt (blk_lt (qb BK195)) : gb195 ≠ gb248))
               have n17_ := Aside0.mk ((by rw [hg]; exact Nat.ne_of_gt (blk_lt (qb BK195)) : gb248 ≠ gb195))
               have n18_ := Aside0.mk ((by rw [hg]; exact Nat.ne_of_lt (blk_lt (qb BK209)) : gb209 ≠ gb248))
               have n19_ := Aside0.mk ((by rw [hg]; exact Nat.ne_of_gt (blk_lt (qb BK209)) : gb248 ≠ gb209))
               have n20_ := Aside0.mk ((by rw [hg]; exact Nat.ne_of_lt (blk_lt (qb BK214)) : gb214 ≠ gb248))
               have n21_ := Aside0.mk ((by rw [hg]; exact Nat.ne_of_gt (blk_lt (qb BK214)) : gb248 ≠ gb214))
               have n22_ := Aside0.mk ((by rw [hg]; exact Nat.ne_of_lt (blk_lt (qb BK223)) : gb223 ≠ gb248))
               have n23_ := Aside0.mk ((by rw [hg]; exact Nat.ne_of_gt (blk_lt (qb BK223)) : gb248 ≠ gb223))
               clear HO_210001
               clear HO_215001
               clear HO_224001
               clear HO239
               clear HO246
               clear BK194
               clear BK195
               clear BK209
               clear BK214
               clear BK223
               clear HB
               have HO_210001 := n0_
               have HO_215001 := n1_
               have HO_224001 := n2_
               have HO239 := n3_
               have HO246 := n4_
               have BK194 := n5_
               have BK195 := n6_
               have BK209 := n7_
               have BK214 := n8_
               have BK223 := n9_
               have HB := n10_
               have BK248 := n11_
               have GW248 := n12_
               have GE248 := n13_
               have NB194_248 := n14_
               have NB248_194 := n15_
               have NB195_248 := n16_
               have NB248_195 := n17_
               have NB209_248 := n18_
               have NB248_209 := n19_
               have NB214_248 := n20_
               have NB248_214 := n21_
               have NB223_248 := n22_
               have NB248_223 := n23_
               clear n0_ n1_ n2_ n3_ n4_ n5_ n6_ n7_ n8_ n9_ n10_ n11_ n12_ n13_ n14_ n15_ n16_ n17_ n18_ n19_ n20_ n21_ n22_ n23_
               clear hb hbox hg
               refine hK.out _ _ ⟨bc BK194 0, bc BK194 1, bc BK195 0, bc BK195 1, bc BK195 2⟩ (fun hHeld => ?_)
               clear hK K
               refine norm_ (a' := ?_) ?_ ?_
               rotate_left
               ·
                show Act.put _ (some 14) _ = _
                simp only [Act.put, List.setIfInBounds_toArray, List.set_cons_zero, List.set_cons_succ, i64_w, i32_w]
                rfl
               exact norm_ (by simp only [putAll, Act.put, List.setIfInBounds_toArray, List.set_cons_zero, List.set_cons_succ]) (hCont (.slice Ao139 t237.length co139, v245, gb248) _ ⟨hHeld, (qr (Kd.R_mono HO239.out (fun _ hk => ⟨hk.2, ⟨hk.1.1.1.2, ⟨hk.1.1.2, hk.1.2⟩⟩⟩))), (qr (Kd.R_mono HO246.out (fun _ hk => ⟨hk.2, ⟨hk.1.1.1.2, ⟨hk.1.1.2, hk.1.2⟩⟩⟩))), (qr (Kd.R_mono HO_210001.out (fun _ hk => ⟨hk.1.2, ⟨hk.2, ⟨hk.1.1.1, hk.1.1.2⟩⟩⟩))), (qr (Kd.R_mono HO_215001.out (fun _ hk => ⟨hk.1.2, ⟨hk.2, ⟨hk.1.1.1, hk.1.1.2⟩⟩⟩))), (qr (Kd.R_mono HO_224001.out (fun _ hk => ⟨hk.1.2, ⟨hk.2, ⟨hk.1.1.1, hk.1.1.2⟩⟩⟩))), (qb BK194), (qb BK195), (qb BK209), (qb BK214), (qb BK223), (qb BK248), GW248.out, GE248.out, NB194_248.out, NB248_194.out, NB195_248.out, NB248_195.out, NB209_248.out, NB248_209.out, NB214_248.out, NB248_214.out, NB223_248.out, NB248_223.out, (qw HB)⟩)
              ·
               skip
               refine box_step ?hg (N := 14) ?hd (cs := #[.int .i64 0, .slice none 0 0]) (t := 30) ?hr ?_; (case hd => rfl); (case hg => rfl); (case hr => first | (go_simp; done) | (go_simp; rfl))
               intro gb248 hg w139 hbox hb
               have n0_ := Aside0.mk (Kd.R_below (qr HO_210001.out) hb)
               have n1_ := Aside0.mk (Kd.R_below (qr HO_215001.out) hb)
               have n2_ := Aside0.mk (Kd.R_below (qr HO_224001.out) hb)
               have n3_ := Aside0.mk (Kd.R_below (qr HO239.out) hb)
               have n4_ := qbb BK194 hb
               have n5_ := qbb BK195 hb
               have n6_ := qbb BK209 hb
               have n7_ := qbb BK214 hb
               have n8_ := qbb BK223 hb
               have n9_ := Aside0.mk (below_step (qw HB) hb)
               have n10_ := Aside0.mk (hbox)
               have n11_ := Aside0.mk ((by rw [hg]; exact (below_size (qw HB)) : w.heap.size ≤ gb248))
               have n12_ := Aside0.mk ((by rw [hg]; exact (below_size (qw HB)) : w.heap.size ≤ gb248))
               have n13_ := Aside0.mk ((by rw [hg]; exact Nat.ne_of_lt (blk_lt (qb BK194)) : gb194 ≠ gb248))
               have n14_ := Aside0.mk ((by rw [hg]; exact Nat.ne_of_gt (blk_lt (qb BK194)) : gb248 ≠ gb194))
               have n15_ := Aside0.mk ((by rw [hg]; exact Nat.ne_of_lt (blk_lt (qb BK195)) : gb195 ≠ gb248))
               have n16_ := Aside0.mk ((by rw [hg]; exact Nat.ne_of_gt (blk_lt (qb BK195)) : gb248 ≠ gb195))
               have n17_ := Aside0.mk ((by rw [hg]; exact Nat.ne_of_lt (blk_lt (qb BK209)) : gb209 ≠ gb248))
               have n18_ := Aside0.mk ((by rw [hg]; exact Nat.ne_of_gt (blk_lt (qb BK209)) : gb248 ≠ gb209))
               have n19_ := Aside0.mk ((by rw [hg]; exact Nat.ne_of_lt (blk_lt (qb BK214)) : gb214 ≠ gb248))
               have n20_ := Aside0.mk ((by rw [hg]; exact Nat.ne_of_gt (blk_lt (qb BK214)) : gb248 ≠ gb214))
               have n21_ := Aside0.mk ((by rw [hg]; exact Nat.ne_of_lt (blk_lt (qb BK223)) : gb223 ≠ gb248))
               have n22_ := Aside0.mk ((by rw [hg]; exact Nat.ne_of_gt (blk_lt (qb BK223)) : gb248 ≠ gb223))
               clear HO_210001
               clear HO_215001
               clear HO_224001
               clear HO239
               clear BK194
               clear BK195
               clear BK209
               clear BK214
               clear BK223
               clear HB
               have HO_210001 := n0_
               have HO_215001 := n1_
               have HO_224001 := n2_
               have HO239 := n3_
               have BK194 := n4_
               have BK195 := n5_
               have BK209 := n6_
               have BK214 := n7_
               have BK223 := n8_
               have HB := n9_
               have BK248 := n10_
               have GW248 := n11_
               have GE248 := n12_
               have NB194_248 := n13_
               have NB248_194 := n14_
               have NB195_248 := n15_
               have NB248_195 := n16_
               have NB209_248 := n17_
               have NB248_209 := n18_
               have NB214_248 := n19_
               have NB248_214 := n20_
               have NB223_248 := n21_
               have NB248_223 := n22_
               clear n0_ n1_ n2_ n3_ n4_ n5_ n6_ n7_ n8_ n9_ n10_ n11_ n12_ n13_ n14_ n15_ n16_ n17_ n18_ n19_ n20_ n21_ n22_
               clear hb hbox hg
               obtain ⟨Ao140, co140, eo140⟩ := Kd.R_slice HO239.out
               (first | subst eo140 | (injection eo140 with f1_ f2_ f3_; have f4_ := f1_.symm; have f5_ := f3_.symm; clear f1_ f2_ f3_; subst f4_; subst f5_))
               refine hK.out _ _ ⟨bc BK194 0, bc BK194 1, bc BK195 0, bc BK195 1, bc BK195 2⟩ (fun hHeld => ?_)
               clear hK K
               refine norm_ (a' := ?_) ?_ ?_
               rotate_left
               ·
                show Act.put _ (some 14) _ = _
                simp only [Act.put, List.setIfInBounds_toArray, List.set_cons_zero, List.set_cons_succ, i64_w, i32_w]
                rfl
               refine one_ (i := 4) (N := some 84) #[true, true, true, true, true, false, false, false, true, false, false] rfl rfl (one_of HT_.out (by kernel_rfl)) (by decide) (fun K hK => ?_)
               refine goes_ Try.func9 (by kernel_rfl) rfl #[.agg #[.int .i64 t236, .slice Ao140 t237.length co140], .agg #[.int .i64 t240, .int .i64 t241, .int .i64 t242]] (by rfl) rfl rfl (by (try simp only [List.map_toArray, List.map_cons, List.map_nil]); first | done | rfl | (simp only [List.length_drop, List.length_take]; rfl)) ?_
               with_reducible refine (impl_AddClue.calls t236 _ _ t237 t240 t241 t242 t243 t244 t247 _ ?side1 ?side2 A126.out).mono ?_
               (case side1 => repeat (first | exact (Kd.R_reads' HO239.out).2.2 | (with_reducible refine Kd.C_alloc ?_ _) | (with_reducible refine Kd.C_drewN ?_ _) | (with_reducible refine Kd.C_drew ?_)))
               (case side2 => exact (Kd.R_reads' HO239.out).2.1)
               rintro e w141 ⟨v245, rfl, ho0, hb⟩
               refine ⟨_, rfl, ?_⟩
               have n0_ := Aside0.mk (Kd.R_elder' (qr HO_210001.out) (Kd.R_base ho0) hb)
               have n1_ := Aside0.mk (Kd.R_elder' (qr HO_215001.out) (Kd.R_base ho0) hb)
               have n2_ := Aside0.mk (Kd.R_elder' (qr HO_224001.out) (Kd.R_base ho0) hb)
               have n3_ := Aside0.mk (Kd.R_elder' (qr HO239.out) (Kd.R_base ho0) hb)
               have n4_ := Aside0.mk (Kd.R_lower (Kd.R_new' (Kd.R_new' (Kd.R_new' (Kd.R_new' ho0 (Kd.R_lt (qr HO_210001.out))) (Kd.R_lt (qr HO_215001.out))) (Kd.R_lt (qr HO_224001.out))) (Kd.R_lt (qr HO239.out))) (below_size (qw HB)))
               have n5_ := qbb BK194 hb
               have n6_ := qbb BK195 hb
               have n7_ := qbb BK209 hb
               have n8_ := qbb BK214 hb
               have n9_ := qbb BK223 hb
               have n10_ := qbb BK248 hb
               have n11_ := Aside0.mk (below_step (qw HB) hb)
               clear HO_210001
               clear HO_215001
               clear HO_224001
               clear HO239
               clear BK194
               clear BK195
               clear BK209
               clear BK214
               clear BK223
               clear BK248
               clear HB
               have HO_210001 := n0_
               have HO_215001 := n1_
               have HO_224001 := n2_
               have HO239 := n3_
               have HO246 := n4_
               have BK194 := n5_
               have BK195 := n6_
               have BK209 := n7_
               have BK214 := n8_
               have BK223 := n9_
               have BK248 := n10_
               have HB := n11_
               clear n0_ n1_ n2_ n3_ n4_ n5_ n6_ n7_ n8_ n9_ n10_ n11_
               (try clear hb)
               (try clear hb2)
               (try clear hk)
               (try clear hi)
               (try clear ho0)
               refine hK.out _ _ ⟨bc BK194 0, bc BK194 1, bc BK195 0, bc BK195 1, bc BK195 2⟩ (fun hHeld => ?_)
               clear hK K
               refine norm_ (a' := ?_) ?_ ?_
               rotate_left
               ·
                show Act.put _ (some 84) _ = _
                simp only [Act.put, List.setIfInBounds_toArray, List.set_cons_zero, List.set_cons_succ, i64_w, i32_w]
                rfl
               refine pure_ (i := 5) (N := some 79) (v := ?_) (a' := ?_) #[true, true, true, true, true, true, false, false, true, false, false] rfl rfl (any_of HT_.out (by kernel_rfl)) (fun _ _ _ h => h) (Or.inl ⟨by rfl, ?_⟩) ?_ ?_
               rotate_left
               ·
                intro w'
                go_simp
                with_reducible rfl
               rotate_left
               ·
                simp only [Act.put, List.setIfInBounds_toArray, List.set_cons_zero, List.set_cons_succ, i64_w, i32_w]
                rfl
               refine pure_ (i := 6) (N := some 85) (v := ?_) (a' := ?_) #[true, true, true, true, true, true, true, false, true, false, false] rfl rfl (any_of HT_.out (by kernel_rfl)) (fun _ _ _ h => h) (Or.inl ⟨by rfl, ?_⟩) ?_ ?_
               rotate_left
               ·
                intro w'
                go_simp
                with_reducible rfl
               rotate_left
               ·
                simp only [Act.put, List.setIfInBounds_toArray, List.set_cons_zero, List.set_cons_succ, i64_w, i32_w]
                rfl
               refine pure_ (i := 7) (N := some 86) (v := ?_) (a' := ?_) #[true, true, true, true, true, true, true, true, true, false, false] rfl rfl (any_of HT_.out (by kernel_rfl)) (fun _ _ _ h => h) (Or.inl ⟨by rfl, ?_⟩) ?_ ?_
               rotate_left
               ·
                intro w'
                go_simp
                with_reducible rfl
               rotate_left
               ·
                simp only [Act.put, List.setIfInBounds_toArray, List.set_cons_zero, List.set_cons_succ, i64_w, i32_w]
                rfl
               exact norm_ (by simp only [putAll, Act.put, List.setIfInBounds_toArray, List.set_cons_zero, List.set_cons_succ]) (hCont (.slice Ao140 t237.length co140, v245, gb248) _ ⟨hHeld, (qr (Kd.R_mono HO239.out (fun _ hk => ⟨hk.2, ⟨hk.1.1.1.2, ⟨hk.1.1.2, hk.1.2⟩⟩⟩))), (qr (Kd.R_mono HO246.out (fun _ hk => ⟨hk.2, ⟨hk.1.1.1.2, ⟨hk.1.1.2, hk.1.2⟩⟩⟩))), (qr (Kd.R_mono HO_210001.out (fun _ hk => ⟨hk.1.2, ⟨hk.2, ⟨hk.1.1.1, hk.1.1.2⟩⟩⟩))), (qr (Kd.R_mono HO_215001.out (fun _ hk => ⟨hk.1.2, ⟨hk.2, ⟨hk.1.1.1, hk.1.1.2⟩⟩⟩))), (qr (Kd.R_mono HO_224001.out (fun _ hk => ⟨hk.1.2, ⟨hk.2, ⟨hk.1.1.1, hk.1.1.2⟩⟩⟩))), (qb BK194), (qb BK195), (qb BK209), (qb BK214), (qb BK223), (qb BK248), GW248.out, GE248.out, NB194_248.out, NB248_194.out, NB195_248.out, NB248_195.out, NB209_248.out, NB248_209.out, NB214_248.out, NB248_214.out, NB223_248.out, NB248_223.out, (qw HB)⟩)
             ·
              skip
              refine box_step ?hg (N := 14) ?hd (cs := #[.int .i64 0, .slice none 0 0]) (t := 30) ?hr ?_; (case hd => rfl); (case hg => rfl); (case hr => first | (go_simp; done) | (go_simp; rfl))
              intro gb248 hg w138 hbox hb
              have n0_ := Aside0.mk (Kd.R_below (qr HO_210001.out) hb)
              have n1_ := Aside0.mk (Kd.R_below (qr HO_215001.out) hb)
              have n2_ := Aside0.mk (Kd.R_below (qr HO_224001.out) hb)
              have n3_ := Aside0.mk (Kd.R_below (qr HO239.out) hb)
              have n4_ := qbb BK194 hb
              have n5_ := qbb BK195 hb
              have n6_ := qbb BK209 hb
              have n7_ := qbb BK214 hb
              have n8_ := qbb BK223 hb
              have n9_ := Aside0.mk (below_step (qw HB) hb)
              have n10_ := Aside0.mk (hbox)
              have n11_ := Aside0.mk ((by rw [hg]; exact (below_size (qw HB)) : w.heap.size ≤ gb248))
              have n12_ := Aside0.mk ((by rw [hg]; exact (below_size (qw HB)) : w.heap.size ≤ gb248))
              have n13_ := Aside0.mk ((by rw [hg]; exact Nat.ne_of_lt (blk_lt (qb BK194)) : gb194 ≠ gb248))
              have n14_ := Aside0.mk ((by rw [hg]; exact Nat.ne_of_gt (blk_lt (qb BK194)) : gb248 ≠ gb194))
              have n15_ := Aside0.mk ((by rw [hg]; exact Nat.ne_of_lt (blk_lt (qb BK195)) : gb195 ≠ gb248))
              have n16_ := Aside0.mk ((by rw [hg]; exact Nat.ne_of_gt (blk_lt (qb BK195)) : gb248 ≠ gb195))
              have n17_ := Aside0.mk ((by rw [hg]; exact Nat.ne_of_lt (blk_lt (qb BK209)) : gb209 ≠ gb248))
              have n18_ := Aside0.mk ((by rw [hg]; exact Nat.ne_of_gt (blk_lt (qb BK209)) : gb248 ≠ gb209))
              have n19_ := Aside0.mk ((by rw [hg]; exact Nat.ne_of_lt (blk_lt (qb BK214)) : gb214 ≠ gb248))
              have n20_ := Aside0.mk ((by rw [hg]; exact Nat.ne_of_gt (blk_lt (qb BK214)) : gb248 ≠ gb214))
              have n21_ := Aside0.mk ((by rw [hg]; exact Nat.ne_of_lt (blk_lt (qb BK223)) : gb223 ≠ gb248))
              have n22_ := Aside0.mk ((by rw [hg]; exact Nat.ne_of_gt (blk_lt (qb BK223)) : gb248 ≠ gb223))
              clear HO_210001
              clear HO_215001
              clear HO_224001
              clear HO239
              clear BK194
              clear BK195
              clear BK209
              clear BK214
              clear BK223
              clear HB
              have HO_210001 := n0_
              have HO_215001 := n1_
              have HO_224001 := n2_
              have HO239 := n3_
              have BK194 := n4_
              have BK195 := n5_
              have BK209 := n6_
              have BK214 := n7_
              have BK223 := n8_
              have HB := n9_
              have BK248 := n10_
              have GW248 := n11_
              have GE248 := n12_
              have NB194_248 := n13_
              have NB248_194 := n14_
              have NB195_248 := n15_
              have NB248_195 := n16_
              have NB209_248 := n17_
              have NB248_209 := n18_
              have NB214_248 := n19_
              have NB248_214 := n20_
              have NB223_248 := n21_
              have NB248_223 := n22_
              clear n0_ n1_ n2_ n3_ n4_ n5_ n6_ n7_ n8_ n9_ n10_ n11_ n12_ n13_ n14_ n15_ n16_ n17_ n18_ n19_ n20_ n21_ n22_
              clear hb hbox hg
              refine hK.out _ _ ⟨bc BK194 0, bc BK194 1, bc BK195 0, bc BK195 1, bc BK195 2⟩ (fun hHeld => ?_)
              clear hK K
              refine norm_ (a' := ?_) ?_ ?_
              rotate_left
              ·
               show Act.put _ (some 14) _ = _
               simp only [Act.put, List.setIfInBounds_toArray, List.set_cons_zero, List.set_cons_succ, i64_w, i32_w]
               rfl
              refine one_ (i := 3) (N := some 83) #[true, true, true, true, false, false, false, false, true, false, false] rfl rfl (one_of HT_.out (by kernel_rfl)) (by decide) (fun K hK => ?_)
              refine goes_ Try.func8 (by kernel_rfl) rfl #[.agg #[.int .i64 a1_0, .int .i64 a1_1, .int .i64 a1_2]] (by rfl) rfl rfl (by (try simp only [List.map_toArray, List.map_cons, List.map_nil]); first | done | rfl | (simp only [List.length_drop, List.length_take]; rfl)) ?_
              with_reducible refine (laws_toClue.calls a1_0 a1_1 a1_2 t240 t241 t242 _ A125.out).mono ?_
              rintro e w139 ⟨rfl, hb⟩
              refine ⟨_, rfl, ?_⟩
              have n0_ := Aside0.mk (Kd.R_below (qr HO_210001.out) hb)
              have n1_ := Aside0.mk (Kd.R_below (qr HO_215001.out) hb)
              have n2_ := Aside0.mk (Kd.R_below (qr HO_224001.out) hb)
              have n3_ := Aside0.mk (Kd.R_below (qr HO239.out) hb)
              have n4_ := qbb BK194 hb
              have n5_ := qbb BK195 hb
              have n6_ := qbb BK209 hb
              have n7_ := qbb BK214 hb
              have n8_ := qbb BK223 hb
              have n9_ := qbb BK248 hb
              have n10_ := Aside0.mk (below_step (qw HB) hb)
              clear HO_210001
              clear HO_215001
              clear HO_224001
              clear HO239
              clear BK194
              clear BK195
              clear BK209
              clear BK214
              clear BK223
              clear BK248
              clear HB
              have HO_210001 := n0_
              have HO_215001 := n1_
              have HO_224001 := n2_
              have HO239 := n3_
              have BK194 := n4_
              have BK195 := n5_
              have BK209 := n6_
              have BK214 := n7_
              have BK223 := n8_
              have BK248 := n9_
              have HB := n10_
              clear n0_ n1_ n2_ n3_ n4_ n5_ n6_ n7_ n8_ n9_ n10_
              (try clear hb)
              (try clear hb2)
              (try clear hk)
              (try clear hi)
              obtain ⟨Ao140, co140, eo140⟩ := Kd.R_slice HO239.out
              (first | subst eo140 | (injection eo140 with f1_ f2_ f3_; have f4_ := f1_.symm; have f5_ := f3_.symm; clear f1_ f2_ f3_; subst f4_; subst f5_))
              refine hK.out _ _ ⟨bc BK194 0, bc BK194 1, bc BK195 0, bc BK195 1, bc BK195 2⟩ (fun hHeld => ?_)
              clear hK K
              refine norm_ (a' := ?_) ?_ ?_
              rotate_left
              ·
               show Act.put _ (some 83) _ = _
               simp only [Act.put, List.setIfInBounds_toArray, List.set_cons_zero, List.set_cons_succ, i64_w, i32_w]
               rfl
              refine one_ (i := 4) (N := some 84) #[true, true, true, true, true, false, false, false, true, false, false] rfl rfl (one_of HT_.out (by kernel_rfl)) (by decide) (fun K hK => ?_)
              refine goes_ Try.func9 (by kernel_rfl) rfl #[.agg #[.int .i64 t236, .slice Ao140 t237.length co140], .agg #[.int .i64 t240, .int .i64 t241, .int .i64 t242]] (by rfl) rfl rfl (by (try simp only [List.map_toArray, List.map_cons, List.map_nil]); first | done | rfl | (simp only [List.length_drop, List.length_take]; rfl)) ?_
              with_reducible refine (impl_AddClue.calls t236 _ _ t237 t240 t241 t242 t243 t244 t247 _ ?side1 ?side2 A126.out).mono ?_
              (case side1 => repeat (first | exact (Kd.R_reads' HO239.out).2.2 | (with_reducible refine Kd.C_alloc ?_ _) | (with_reducible refine Kd.C_drewN ?_ _) | (with_reducible refine Kd.C_drew ?_)))
              (case side2 => exact (Kd.R_reads' HO239.out).2.1)
              rintro e w141 ⟨v245, rfl, ho0, hb⟩
              refine ⟨_, rfl, ?_⟩
              have n0_ := Aside0.mk (Kd.R_elder' (qr HO_210001.out) (Kd.R_base ho0) hb)
              have n1_ := Aside0.mk (Kd.R_elder' (qr HO_215001.out) (Kd.R_base ho0) hb)
              have n2_ := Aside0.mk (Kd.R_elder' (qr HO_224001.out) (Kd.R_base ho0) hb)
              have n3_ := Aside0.mk (Kd.R_elder' (qr HO239.out) (Kd.R_base ho0) hb)
              have n4_ := Aside0.mk (Kd.R_lower (Kd.R_new' (Kd.R_new' (Kd.R_new' (Kd.R_new' ho0 (Kd.R_lt (qr HO_210001.out))) (Kd.R_lt (qr HO_215001.out))) (Kd.R_lt (qr HO_224001.out))) (Kd.R_lt (qr HO239.out))) (below_size (qw HB)))
              have n5_ := qbb BK194 hb
              have n6_ := qbb BK195 hb
              have n7_ := qbb BK209 hb
              have n8_ := qbb BK214 hb
              have n9_ := qbb BK223 hb
              have n10_ := qbb BK248 hb
              have n11_ := Aside0.mk (below_step (qw HB) hb)
              clear HO_210001
              clear HO_215001
              clear HO_224001
              clear HO239
              clear BK194
              clear BK195
              clear BK209
              clear BK214
              clear BK223
              clear BK248
              clear HB
              have HO_210001 := n0_
              have HO_215001 := n1_
              have HO_224001 := n2_
              have HO239 := n3_
              have HO246 := n4_
              have BK194 := n5_
              have BK195 := n6_
              have BK209 := n7_
              have BK214 := n8_
              have BK223 := n9_
              have BK248 := n10_
              have HB := n11_
              clear n0_ n1_ n2_ n3_ n4_ n5_ n6_ n7_ n8_ n9_ n10_ n11_
              (try clear hb)
              (try clear hb2)
              (try clear hk)
              (try clear hi)
              (try clear ho0)
              refine hK.out _ _ ⟨bc BK194 0, bc BK194 1, bc BK195 0, bc BK195 1, bc BK195 2⟩ (fun hHeld => ?_)
              clear hK K
              refine norm_ (a' := ?_) ?_ ?_
              rotate_left
              ·
               show Act.put _ (some 84) _ = _
               simp only [Act.put, List.setIfInBounds_toArray, List.set_cons_zero, List.set_cons_succ, i64_w, i32_w]
               rfl
              refine pure_ (i := 5) (N := some 79) (v := ?_) (a' := ?_) #[true, true, true, true, true, true, false, false, true, false, false] rfl rfl (any_of HT_.out (by kernel_rfl)) (fun _ _ _ h => h) (Or.inl ⟨by rfl, ?_⟩) ?_ ?_
              rotate_left
              ·
               intro w'
               go_simp
               with_reducible rfl
              rotate_left
              ·
               simp only [Act.put, List.setIfInBounds_toArray, List.set_cons_zero, List.set_cons_succ, i64_w, i32_w]
               rfl
              refine pure_ (i := 6) (N := some 85) (v := ?_) (a' := ?_) #[true, true, true, true, true, true, true, false, true, false, false] rfl rfl (any_of HT_.out (by kernel_rfl)) (fun _ _ _ h => h) (Or.inl ⟨by rfl, ?_⟩) ?_ ?_
              rotate_left
              ·
               intro w'
               go_simp
               with_reducible rfl
              rotate_left
              ·
               simp only [Act.put, List.setIfInBounds_toArray, List.set_cons_zero, List.set_cons_succ, i64_w, i32_w]
               rfl
              refine pure_ (i := 7) (N := some 86) (v := ?_) (a' := ?_) #[true, true, true, true, true, true, true, true, true, false, false] rfl rfl (any_of HT_.out (by kernel_rfl)) (fun _ _ _ h => h) (Or.inl ⟨by rfl, ?_⟩) ?_ ?_
              rotate_left
              ·
               intro w'
               go_simp
               with_reducible rfl
              rotate_left
              ·
               simp only [Act.put, List.setIfInBounds_toArray, List.set_cons_zero, List.set_cons_succ, i64_w, i32_w]
               rfl
              exact norm_ (by simp only [putAll, Act.put, List.setIfInBounds_toArray, List.set_cons_zero, List.set_cons_succ]) (hCont (.slice Ao140 t237.length co140, v245, gb248) _ ⟨hHeld, (qr (Kd.R_mono HO239.out (fun _ hk => ⟨hk.2, ⟨hk.1.1.1.2, ⟨hk.1.1.2, hk.1.2⟩⟩⟩))), (qr (Kd.R_mono HO246.out (fun _ hk => ⟨hk.2, ⟨hk.1.1.1.2, ⟨hk.1.1.2, hk.1.2⟩⟩⟩))), (qr (Kd.R_mono HO_210001.out (fun _ hk => ⟨hk.1.2, ⟨hk.2, ⟨hk.1.1.1, hk.1.1.2⟩⟩⟩))), (qr (Kd.R_mono HO_215001.out (fun _ hk => ⟨hk.1.2, ⟨hk.2, ⟨hk.1.1.1, hk.1.1.2⟩⟩⟩))), (qr (Kd.R_mono HO_224001.out (fun _ hk => ⟨hk.1.2, ⟨hk.2, ⟨hk.1.1.1, hk.1.1.2⟩⟩⟩))), (qb BK194), (qb BK195), (qb BK209), (qb BK214), (qb BK223), (qb BK248), GW248.out, GE248.out, NB194_248.out, NB248_194.out, NB195_248.out, NB248_195.out, NB209_248.out, NB248_209.out, NB214_248.out, NB248_214.out, NB223_248.out, NB248_223.out, (qw HB)⟩)
            ·
             skip
             refine box_step ?hg (N := 14) ?hd (cs := #[.int .i64 0, .slice none 0 0]) (t := 30) ?hr ?_; (case hd => rfl); (case hg => rfl); (case hr => first | (go_simp; done) | (go_simp; rfl))
             intro gb248 hg w137 hbox hb
             have n0_ := Aside0.mk (Kd.R_below (qr HO_210001.out) hb)
             have n1_ := Aside0.mk (Kd.R_below (qr HO_215001.out) hb)
             have n2_ := Aside0.mk (Kd.R_below (qr HO_224001.out) hb)
             have n3_ := qbb BK194 hb
             have n4_ := qbb BK195 hb
             have n5_ := qbb BK209 hb
             have n6_ := qbb BK214 hb
             have n7_ := qbb BK223 hb
             have n8_ := Aside0.mk (below_step (qw HB) hb)
             have n9_ := Aside0.mk (hbox)
             have n10_ := Aside0.mk ((by rw [hg]; exact (below_size (qw HB)) : w.heap.size ≤ gb248))
             have n11_ := Aside0.mk ((by rw [hg]; exact (below_size (qw HB)) : w.heap.size ≤ gb248))
             have n12_ := Aside0.mk ((by rw [hg]; exact Nat.ne_of_lt (blk_lt (qb BK194)) : gb194 ≠ gb248))
             have n13_ := Aside0.mk ((by rw [hg]; exact Nat.ne_of_gt (blk_lt (qb BK194)) : gb248 ≠ gb194))
             have n14_ := Aside0.mk ((by rw [hg]; exact Nat.ne_of_lt (blk_lt (qb BK195)) : gb195 ≠ gb248))
             have n15_ := Aside0.mk ((by rw [hg]; exact Nat.ne_of_gt (blk_lt (qb BK195)) : gb248 ≠ gb195))
             have n16_ := Aside0.mk ((by rw [hg]; exact Nat.ne_of_lt (blk_lt (qb BK209)) : gb209 ≠ gb248))
             have n17_ := Aside0.mk ((by rw [hg]; exact Nat.ne_of_gt (blk_lt (qb BK209)) : gb248 ≠ gb209))
             have n18_ := Aside0.mk ((by rw [hg]; exact Nat.ne_of_lt (blk_lt (qb BK214)) : gb214 ≠ gb248))
             have n19_ := Aside0.mk ((by rw [hg]; exact Nat.ne_of_gt (blk_lt (qb BK214)) : gb248 ≠ gb214))
             have n20_ := Aside0.mk ((by rw [hg]; exact Nat.ne_of_lt (blk_lt (qb BK223)) : gb223 ≠ gb248))
             have n21_ := Aside0.mk ((by rw [hg]; exact Nat.ne_of_gt (blk_lt (qb BK223)) : gb248 ≠ gb223))
             clear HO_210001
             clear HO_215001
             clear HO_224001
             clear BK194
             clear BK195
             clear BK209
             clear BK214
             clear BK223
             clear HB
             have HO_210001 := n0_
             have HO_215001 := n1_
             have HO_224001 := n2_
             have BK194 := n3_
             have BK195 := n4_
             have BK209 := n5_
             have BK214 := n6_
             have BK223 := n7_
             have HB := n8_
             have BK248 := n9_
             have GW248 := n10_
             have GE248 := n11_
             have NB194_248 := n12_
             have NB248_194 := n13_
             have NB195_248 := n14_
             have NB248_195 := n15_
             have NB209_248 := n16_
             have NB248_209 := n17_
             have NB214_248 := n18_
             have NB248_214 := n19_
             have NB223_248 := n20_
             have NB248_223 := n21_
             clear n0_ n1_ n2_ n3_ n4_ n5_ n6_ n7_ n8_ n9_ n10_ n11_ n12_ n13_ n14_ n15_ n16_ n17_ n18_ n19_ n20_ n21_
             clear hb hbox hg
             refine hK.out _ _ ⟨bc BK194 0, bc BK194 1, bc BK195 0, bc BK195 1, bc BK195 2⟩ (fun hHeld => ?_)
             clear hK K
             refine norm_ (a' := ?_) ?_ ?_
             rotate_left
             ·
              show Act.put _ (some 14) _ = _
              simp only [Act.put, List.setIfInBounds_toArray, List.set_cons_zero, List.set_cons_succ, i64_w, i32_w]
              rfl
             refine one_ (i := 1) (N := some 81) #[true, true, true, false, false, false, false, false, true, false, false] rfl rfl (one_of HT_.out (by kernel_rfl)) (by decide) (fun K hK => ?_)
             refine goes_ Try.func7 (by kernel_rfl) rfl #[.agg #[.int .i64 a0_0, .slice A0_1 l0_1.length c0_1]] (by rfl) rfl rfl (by (try simp only [List.map_toArray, List.map_cons, List.map_nil]); first | done | rfl | (simp only [List.length_drop, List.length_take]; rfl)) ?_
             with_reducible refine (laws_toPuzzle.calls kj76 a0_0 _ _ l0_1 t236 t237 _ ?side1 ?side2 A124.out).mono ?_
             (case side1 => repeat (first | exact (Kd.C_below HR0_1.out HB.out) | (with_reducible refine Kd.C_alloc ?_ _) | (with_reducible refine Kd.C_drewN ?_ _) | (with_reducible refine Kd.C_drew ?_)))
             (case side2 => exact HC0_1.out)
             rintro e w138 ⟨v238, rfl, ho0, hb⟩
             refine ⟨_, rfl, ?_⟩
             have n0_ := Aside0.mk (Kd.R_elder' (qr HO_210001.out) (Kd.R_base ho0) hb)
             have n1_ := Aside0.mk (Kd.R_elder' (qr HO_215001.out) (Kd.R_base ho0) hb)
             have n2_ := Aside0.mk (Kd.R_elder' (qr HO_224001.out) (Kd.R_base ho0) hb)
             have n3_ := Aside0.mk (Kd.R_lower (Kd.R_new' (Kd.R_new' (Kd.R_new' ho0 (Kd.R_lt (qr HO_210001.out))) (Kd.R_lt (qr HO_215001.out))) (Kd.R_lt (qr HO_224001.out))) (below_size (qw HB)))
             have n4_ := qbb BK194 hb
             have n5_ := qbb BK195 hb
             have n6_ := qbb BK209 hb
             have n7_ := qbb BK214 hb
             have n8_ := qbb BK223 hb
             have n9_ := qbb BK248 hb
             have n10_ := Aside0.mk (below_step (qw HB) hb)
             clear HO_210001
             clear HO_215001
             clear HO_224001
             clear BK194
             clear BK195
             clear BK209
             clear BK214
             clear BK223
             clear BK248
             clear HB
             have HO_210001 := n0_
             have HO_215001 := n1_
             have HO_224001 := n2_
             have HO239 := n3_
             have BK194 := n4_
             have BK195 := n5_
             have BK209 := n6_
             have BK214 := n7_
             have BK223 := n8_
             have BK248 := n9_
             have HB := n10_
             clear n0_ n1_ n2_ n3_ n4_ n5_ n6_ n7_ n8_ n9_ n10_
             (try clear hb)
             (try clear hb2)
             (try clear hk)
             (try clear hi)
             (try clear ho0)
             refine hK.out _ _ ⟨bc BK194 0, bc BK194 1, bc BK195 0, bc BK195 1, bc BK195 2⟩ (fun hHeld => ?_)
             clear hK K
             refine norm_ (a' := ?_) ?_ ?_
             rotate_left
             ·
              show Act.put _ (some 81) _ = _
              simp only [Act.put, List.setIfInBounds_toArray, List.set_cons_zero, List.set_cons_succ, i64_w, i32_w]
              rfl
             refine one_ (i := 3) (N := some 83) #[true, true, true, true, false, false, false, false, true, false, false] rfl rfl (one_of HT_.out (by kernel_rfl)) (by decide) (fun K hK => ?_)
             refine goes_ Try.func8 (by kernel_rfl) rfl #[.agg #[.int .i64 a1_0, .int .i64 a1_1, .int .i64 a1_2]] (by rfl) rfl rfl (by (try simp only [List.map_toArray, List.map_cons, List.map_nil]); first | done | rfl | (simp only [List.length_drop, List.length_take]; rfl)) ?_
             with_reducible refine (laws_toClue.calls a1_0 a1_1 a1_2 t240 t241 t242 _ A125.out).mono ?_
             rintro e w139 ⟨rfl, hb⟩
             refine ⟨_, rfl, ?_⟩
             have n0_ := Aside0.mk (Kd.R_below (qr HO_210001.out) hb)
             have n1_ := Aside0.mk (Kd.R_below (qr HO_215001.out) hb)
             have n2_ := Aside0.mk (Kd.R_below (qr HO_224001.out) hb)
             have n3_ := Aside0.mk (Kd.R_below (qr HO239.out) hb)
             have n4_ := qbb BK194 hb
             have n5_ := qbb BK195 hb
             have n6_ := qbb BK209 hb
             have n7_ := qbb BK214 hb
             have n8_ := qbb BK223 hb
             have n9_ := qbb BK248 hb
             have n10_ := Aside0.mk (below_step (qw HB) hb)
             clear HO_210001
             clear HO_215001
             clear HO_224001
             clear HO239
             clear BK194
             clear BK195
             clear BK209
             clear BK214
             clear BK223
             clear BK248
             clear HB
             have HO_210001 := n0_
             have HO_215001 := n1_
             have HO_224001 := n2_
             have HO239 := n3_
             have BK194 := n4_
             have BK195 := n5_
             have BK209 := n6_
             have BK214 := n7_
             have BK223 := n8_
             have BK248 := n9_
             have HB := n10_
             clear n0_ n1_ n2_ n3_ n4_ n5_ n6_ n7_ n8_ n9_ n10_
             (try clear hb)
             (try clear hb2)
             (try clear hk)
             (try clear hi)
             obtain ⟨Ao140, co140, eo140⟩ := Kd.R_slice HO239.out
             (first | subst eo140 | (injection eo140 with f1_ f2_ f3_; have f4_ := f1_.symm; have f5_ := f3_.symm; clear f1_ f2_ f3_; subst f4_; subst f5_))
             refine hK.out _ _ ⟨bc BK194 0, bc BK194 1, bc BK195 0, bc BK195 1, bc BK195 2⟩ (fun hHeld => ?_)
             clear hK K
             refine norm_ (a' := ?_) ?_ ?_
             rotate_left
             ·
              show Act.put _ (some 83) _ = _
              simp only [Act.put, List.setIfInBounds_toArray, List.set_cons_zero, List.set_cons_succ, i64_w, i32_w]
              rfl
             refine one_ (i := 4) (N := some 84) #[true, true, true, true, true, false, false, false, true, false, false] rfl rfl (one_of HT_.out (by kernel_rfl)) (by decide) (fun K hK => ?_)
             refine goes_ Try.func9 (by kernel_rfl) rfl #[.agg #[.int .i64 t236, .slice Ao140 t237.length co140], .agg #[.int .i64 t240, .int .i64 t241, .int .i64 t242]] (by rfl) rfl rfl (by (try simp only [List.map_toArray, List.map_cons, List.map_nil]); first | done | rfl | (simp only [List.length_drop, List.length_take]; rfl)) ?_
             with_reducible refine (impl_AddClue.calls t236 _ _ t237 t240 t241 t242 t243 t244 t247 _ ?side1 ?side2 A126.out).mono ?_
             (case side1 => repeat (first | exact (Kd.R_reads' HO239.out).2.2 | (with_reducible refine Kd.C_alloc ?_ _) | (with_reducible refine Kd.C_drewN ?_ _) | (with_reducible refine Kd.C_drew ?_)))
             (case side2 => exact (Kd.R_reads' HO239.out).2.1)
             rintro e w141 ⟨v245, rfl, ho0, hb⟩
             refine ⟨_, rfl, ?_⟩
             have n0_ := Aside0.mk (Kd.R_elder' (qr HO_210001.out) (Kd.R_base ho0) hb)
             have n1_ := Aside0.mk (Kd.R_elder' (qr HO_215001.out) (Kd.R_base ho0) hb)
             have n2_ := Aside0.mk (Kd.R_elder' (qr HO_224001.out) (Kd.R_base ho0) hb)
             have n3_ := Aside0.mk (Kd.R_elder' (qr HO239.out) (Kd.R_base ho0) hb)
             have n4_ := Aside0.mk (Kd.R_lower (Kd.R_new' (Kd.R_new' (Kd.R_new' (Kd.R_new' ho0 (Kd.R_lt (qr HO_210001.out))) (Kd.R_lt (qr HO_215001.out))) (Kd.R_lt (qr HO_224001.out))) (Kd.R_lt (qr HO239.out))) (below_size (qw HB)))
             have n5_ := qbb BK194 hb
             have n6_ := qbb BK195 hb
             have n7_ := qbb BK209 hb
             have n8_ := qbb BK214 hb
             have n9_ := qbb BK223 hb
             have n10_ := qbb BK248 hb
             have n11_ := Aside0.mk (below_step (qw HB) hb)
             clear HO_210001
             clear HO_215001
             clear HO_224001
             clear HO239
             clear BK194
             clear BK195
             clear BK209
             clear BK214
             clear BK223
             clear BK248
             clear HB
             have HO_210001 := n0_
             have HO_215001 := n1_
             have HO_224001 := n2_
             have HO239 := n3_
             have HO246 := n4_
             have BK194 := n5_
             have BK195 := n6_
             have BK209 := n7_
             have BK214 := n8_
             have BK223 := n9_
             have BK248 := n10_
             have HB := n11_
             clear n0_ n1_ n2_ n3_ n4_ n5_ n6_ n7_ n8_ n9_ n10_ n11_
             (try clear hb)
             (try clear hb2)
             (try clear hk)
             (try clear hi)
             (try clear ho0)
             refine hK.out _ _ ⟨bc BK194 0, bc BK194 1, bc BK195 0, bc BK195 1, bc BK195 2⟩ (fun hHeld => ?_)
             clear hK K
             refine norm_ (a' := ?_) ?_ ?_
             rotate_left
             ·
              show Act.put _ (some 84) _ = _
              simp only [Act.put, List.setIfInBounds_toArray, List.set_cons_zero, List.set_cons_succ, i64_w, i32_w]
              rfl
             refine pure_ (i := 5) (N := some 79) (v := ?_) (a' := ?_) #[true, true, true, true, true, true, false, false, true, false, false] rfl rfl (any_of HT_.out (by kernel_rfl)) (fun _ _ _ h => h) (Or.inl ⟨by rfl, ?_⟩) ?_ ?_
             rotate_left
             ·
              intro w'
              go_simp
              with_reducible rfl
             rotate_left
             ·
              simp only [Act.put, List.setIfInBounds_toArray, List.set_cons_zero, List.set_cons_succ, i64_w, i32_w]
              rfl
             refine pure_ (i := 6) (N := some 85) (v := ?_) (a' := ?_) #[true, true, true, true, true, true, true, false, true, false, false] rfl rfl (any_of HT_.out (by kernel_rfl)) (fun _ _ _ h => h) (Or.inl ⟨by rfl, ?_⟩) ?_ ?_
             rotate_left
             ·
              intro w'
              go_simp
              with_reducible rfl
             rotate_left
             ·
              simp only [Act.put, List.setIfInBounds_toArray, List.set_cons_zero, List.set_cons_succ, i64_w, i32_w]
              rfl
             refine pure_ (i := 7) (N := some 86) (v := ?_) (a' := ?_) #[true, true, true, true, true, true, true, true, true, false, false] rfl rfl (any_of HT_.out (by kernel_rfl)) (fun _ _ _ h => h) (Or.inl ⟨by rfl, ?_⟩) ?_ ?_
             rotate_left
             ·
              intro w'
              go_simp
              with_reducible rfl
             rotate_left
             ·
              simp only [Act.put, List.setIfInBounds_toArray, List.set_cons_zero, List.set_cons_succ, i64_w, i32_w]
              rfl
             exact norm_ (by simp only [putAll, Act.put, List.setIfInBounds_toArray, List.set_cons_zero, List.set_cons_succ]) (hCont (.slice Ao140 t237.length co140, v245, gb248) _ ⟨hHeld, (qr (Kd.R_mono HO239.out (fun _ hk => ⟨hk.2, ⟨hk.1.1.1.2, ⟨hk.1.1.2, hk.1.2⟩⟩⟩))), (qr (Kd.R_mono HO246.out (fun _ hk => ⟨hk.2, ⟨hk.1.1.1.2, ⟨hk.1.1.2, hk.1.2⟩⟩⟩))), (qr (Kd.R_mono HO_210001.out (fun _ hk => ⟨hk.1.2, ⟨hk.2, ⟨hk.1.1.1, hk.1.1.2⟩⟩⟩))), (qr (Kd.R_mono HO_215001.out (fun _ hk => ⟨hk.1.2, ⟨hk.2, ⟨hk.1.1.1, hk.1.1.2⟩⟩⟩))), (qr (Kd.R_mono HO_224001.out (fun _ hk => ⟨hk.1.2, ⟨hk.2, ⟨hk.1.1.1, hk.1.1.2⟩⟩⟩))), (qb BK194), (qb BK195), (qb BK209), (qb BK214), (qb BK223), (qb BK248), GW248.out, GE248.out, NB194_248.out, NB248_194.out, NB195_248.out, NB248_195.out, NB209_248.out, NB248_209.out, NB214_248.out, NB248_214.out, NB223_248.out, NB248_223.out, (qw HB)⟩)
           rintro ⟨v238, v245, gb248⟩ w142 ⟨hS_, h0_, h1_, h2_, h3_, h4_, h5_, h6_, h7_, h8_, h9_, h10_, h11_, h12_, h13_, h14_, h15_, h16_, h17_, h18_, h19_, h20_, h21_, h22_, h23_⟩
           have n0_ : Aside0 (Kd.R k34 34 w142 w.heap.size (fun k_ => some k_ ≠ (v245 : Value).ownBlock ∧ some k_ ≠ (.slice Ao30 t205.length co30 : Value).ownBlock ∧ some k_ ≠ (.slice Ao40 t231.length co40 : Value).ownBlock ∧ some k_ ≠ (.slice Ao48 t219.length co48 : Value).ownBlock) v238 t237) := ⟨h0_⟩
           have n1_ : Aside0 (Kd.R k34 34 w142 w.heap.size (fun k_ => some k_ ≠ (v238 : Value).ownBlock ∧ some k_ ≠ (.slice Ao30 t205.length co30 : Value).ownBlock ∧ some k_ ≠ (.slice Ao40 t231.length co40 : Value).ownBlock ∧ some k_ ≠ (.slice Ao48 t219.length co48 : Value).ownBlock) v245 t244) := ⟨h1_⟩
           have n2_ : Aside0 (Kd.R k34 34 w142 w.heap.size (fun k_ => some k_ ≠ (v238 : Value).ownBlock ∧ some k_ ≠ (v245 : Value).ownBlock ∧ some k_ ≠ (.slice Ao40 t231.length co40 : Value).ownBlock ∧ some k_ ≠ (.slice Ao48 t219.length co48 : Value).ownBlock) (.slice Ao30 t205.length co30) t205) := ⟨h2_⟩
           have n3_ : Aside0 (Kd.R k34 34 w142 w.heap.size (fun k_ => some k_ ≠ (v238 : Value).ownBlock ∧ some k_ ≠ (v245 : Value).ownBlock ∧ some k_ ≠ (.slice Ao30 t205.length co30 : Value).ownBlock ∧ some k_ ≠ (.slice Ao48 t219.length co48 : Value).ownBlock) (.slice Ao40 t231.length co40) t231) := ⟨h3_⟩
           have n4_ : Aside0 (Kd.R k34 34 w142 w.heap.size (fun k_ => some k_ ≠ (v238 : Value).ownBlock ∧ some k_ ≠ (v245 : Value).ownBlock ∧ some k_ ≠ (.slice Ao30 t205.length co30 : Value).ownBlock ∧ some k_ ≠ (.slice Ao40 t231.length co40 : Value).ownBlock) (.slice Ao48 t219.length co48) t234) := ⟨h4_⟩
           have n5_ : Aside0 (w142.heap[gb194]? = some (.cells #[.int .i64 a0_0, .slice A0_1 l0_1.length c0_1] 24 (0, 0))) := ⟨h5_⟩
           have n6_ : Aside0 (w142.heap[gb195]? = some (.cells #[.int .i64 a1_0, .int .i64 a1_1, .int .i64 a1_2] 26 (0, 0))) := ⟨h6_⟩
           have n7_ : Aside0 (w142.heap[gb209]? = some (.cells #[.int .i64 t204, .slice Ao30 t205.length co30] 30 (0, 0))) := ⟨h7_⟩
           have n8_ : Aside0 (w142.heap[gb214]? = some (.cells #[.int .i64 t210, .slice Ao40 t231.length co40] 30 (0, 0))) := ⟨h8_⟩
           have n9_ : Aside0 (w142.heap[gb223]? = some (.cells #[.int .i64 t218, .slice Ao48 t219.length co48] 30 (0, 0))) := ⟨h9_⟩
           have n10_ : Aside0 (w142.heap[gb248]? = some (.cells #[.int .i64 0, .slice none 0 0] 30 (0, 0))) := ⟨h10_⟩
           have n11_ : Aside0 (w.heap.size ≤ gb248) := ⟨h11_⟩
           have n12_ : Aside0 (w.heap.size ≤ gb248) := ⟨h12_⟩
           have n13_ : Aside0 (gb194 ≠ gb248) := ⟨h13_⟩
           have n14_ : Aside0 (gb248 ≠ gb194) := ⟨h14_⟩
           have n15_ : Aside0 (gb195 ≠ gb248) := ⟨h15_⟩
           have n16_ : Aside0 (gb248 ≠ gb195) := ⟨h16_⟩
           have n17_ : Aside0 (gb209 ≠ gb248) := ⟨h17_⟩
           have n18_ : Aside0 (gb248 ≠ gb209) := ⟨h18_⟩
           have n19_ : Aside0 (gb214 ≠ gb248) := ⟨h19_⟩
           have n20_ : Aside0 (gb248 ≠ gb214) := ⟨h20_⟩
           have n21_ : Aside0 (gb223 ≠ gb248) := ⟨h21_⟩
           have n22_ : Aside0 (gb248 ≠ gb223) := ⟨h22_⟩
           have n23_ : Aside0 (Below w.heap.size w w142) := ⟨h23_⟩
           clear HO_210001
           clear HO_215001
           clear HO_224001
           clear BK194
           clear BK195
           clear BK209
           clear BK214
           clear BK223
           clear HB
           clear h0_ h1_ h2_ h3_ h4_ h5_ h6_ h7_ h8_ h9_ h10_ h11_ h12_ h13_ h14_ h15_ h16_ h17_ h18_ h19_ h20_ h21_ h22_ h23_
           have HO239 := n0_
           have HO246 := n1_
           have HO_210001 := n2_
           have HO_215001 := n3_
           have HO_224001 := n4_
           have BK194 := n5_
           have BK195 := n6_
           have BK209 := n7_
           have BK214 := n8_
           have BK223 := n9_
           have BK248 := n10_
           have GW248 := n11_
           have GE248 := n12_
           have NB194_248 := n13_
           have NB248_194 := n14_
           have NB195_248 := n15_
           have NB248_195 := n16_
           have NB209_248 := n17_
           have NB248_209 := n18_
           have NB214_248 := n19_
           have NB248_214 := n20_
           have NB223_248 := n21_
           have NB248_223 := n22_
           have HB := n23_
           clear n0_ n1_ n2_ n3_ n4_ n5_ n6_ n7_ n8_ n9_ n10_ n11_ n12_ n13_ n14_ n15_ n16_ n17_ n18_ n19_ n20_ n21_ n22_ n23_
           have hHeld : w142.cell? ⟨gb194, 0, none⟩ = some (.int .i64 a0_0) ∧ w142.cell? ⟨gb194, 1, none⟩ = some (.slice A0_1 l0_1.length c0_1) ∧ w142.cell? ⟨gb195, 0, none⟩ = some (.int .i64 a1_0) ∧ w142.cell? ⟨gb195, 1, none⟩ = some (.int .i64 a1_1) ∧ w142.cell? ⟨gb195, 2, none⟩ = some (.int .i64 a1_2) := hS_
           obtain ⟨Ao144, co144, eo144⟩ := Kd.R_slice HO246.out
           (first | subst eo144 | (injection eo144 with f1_ f2_ f3_; have f4_ := f1_.symm; have f5_ := f3_.symm; clear f1_ f2_ f3_; subst f4_; subst f5_))
           refine norm_ (a' := ?_) ?_ ?_
           rotate_left
           ·
            simp only [putAll, Act.put, List.setIfInBounds_toArray, List.set_cons_zero, List.set_cons_succ]
            rfl
           refine one_ (i := 9) (N := none) #[true, true, true, true, true, true, true, true, true, true, false] rfl rfl (one_of HT_.out (by kernel_rfl)) (by decide) (fun K hK => ?_)
           have hs143 : w142.cell? ⟨gb248, 0, none⟩ = some (.int .i64 0) := bc BK248 0
           have hfs143 := blk_frozen BK248.out 0
           have hns143_0 := NB194_248.out
           have hns143_1 := NB195_248.out
           have hns143_2 := NB209_248.out
           have hns143_3 := NB214_248.out
           have hns143_4 := NB223_248.out
           have hms143_0 := NB248_194.out
           have hms143_1 := NB248_195.out
           have hms143_2 := NB248_209.out
           have hms143_3 := NB248_214.out
           have hms143_4 := NB248_223.out
           have hs145 : w142.cell? ⟨gb248, 1, none⟩ = some (.slice none 0 0) := bc BK248 1
           have hfs145 := blk_frozen BK248.out 1
           have hns145_0 := NB194_248.out
           have hns145_1 := NB195_248.out
           have hns145_2 := NB209_248.out
           have hns145_3 := NB214_248.out
           have hns145_4 := NB223_248.out
           have hms145_0 := NB248_194.out
           have hms145_1 := NB248_195.out
           have hms145_2 := NB248_209.out
           have hms145_3 := NB248_214.out
           have hms145_4 := NB248_223.out
           refine skip_ (w1 := ?_) (by rfl) rfl ?_ ?_
           rotate_left
           ·
            go_simp
            rfl
           refine hK.out _ _ ⟨((cell_far (p := ⟨gb248, _, none⟩) NB194_248.out _).trans (((cell_far (p := ⟨gb248, _, none⟩) NB194_248.out _).trans (hHeld.1)))), ((cell_far (p := ⟨gb248, _, none⟩) NB194_248.out _).trans (((cell_far (p := ⟨gb248, _, none⟩) NB194_248.out _).trans (hHeld.2.1)))), ((cell_far (p := ⟨gb248, _, none⟩) NB195_248.out _).trans (((cell_far (p := ⟨gb248, _, none⟩) NB195_248.out _).trans (hHeld.2.2.1)))), ((cell_far (p := ⟨gb248, _, none⟩) NB195_248.out _).trans (((cell_far (p := ⟨gb248, _, none⟩) NB195_248.out _).trans (hHeld.2.2.2.1)))), ((cell_far (p := ⟨gb248, _, none⟩) NB195_248.out _).trans (((cell_far (p := ⟨gb248, _, none⟩) NB195_248.out _).trans (hHeld.2.2.2.2))))⟩ (fun hHeld => ?_)
           clear hK K
           refine pure_ (i := 10) (N := some 15) (v := ?_) (a' := ?_) #[true, true, true, true, true, true, true, true, true, true, true] rfl rfl (any_of HT_.out (by kernel_rfl)) (fun _ _ _ h => h) (Or.inl ⟨by rfl, ?_⟩) ?_ ?_
           rotate_left
           ·
            intro w'
            go_simp
            with_reducible rfl
           rotate_left
           ·
            simp only [Act.put, List.setIfInBounds_toArray, List.set_cons_zero, List.set_cons_succ, i64_w, i32_w]
            rfl
           refine done_ (done_of HT_.out (by kernel_rfl)) ?_
           go_upto_region 25 with (fail)
           go_cut [95] (fun v95 wc => ∃ (kq : Nat) (x95_126 : Bool), v95 = .bool x95_126 ∧ Aside0 (laws_FnExactAddClue.j2 kq t233 x95_126 t218 t234 = some r) ∧ Aside0 (kq ≤ kj76) ∧ Aside0 (Kd.R k34 34 wc w.heap.size (fun k_ => some k_ ≠ ((.slice Ao40 t231.length co40) : Value).ownBlock ∧ some k_ ≠ ((.slice Ao48 t219.length co48) : Value).ownBlock ∧ some k_ ≠ ((.slice Ao144 t244.length co144) : Value).ownBlock) (.slice Ao30 t205.length co30) t205) ∧ Aside0 (Kd.R k34 34 wc w.heap.size (fun k_ => some k_ ≠ ((.slice Ao30 t205.length co30) : Value).ownBlock ∧ some k_ ≠ ((.slice Ao48 t219.length co48) : Value).ownBlock ∧ some k_ ≠ ((.slice Ao144 t244.length co144) : Value).ownBlock) (.slice Ao40 t231.length co40) t231) ∧ Aside0 (Kd.R k34 34 wc w.heap.size (fun k_ => some k_ ≠ ((.slice Ao30 t205.length co30) : Value).ownBlock ∧ some k_ ≠ ((.slice Ao40 t231.length co40) : Value).ownBlock ∧ some k_ ≠ ((.slice Ao144 t244.length co144) : Value).ownBlock) (.slice Ao48 t219.length co48) t234) ∧ Aside0 (Kd.R k34 34 wc w.heap.size (fun k_ => some k_ ≠ ((.slice Ao30 t205.length co30) : Value).ownBlock ∧ some k_ ≠ ((.slice Ao40 t231.length co40) : Value).ownBlock ∧ some k_ ≠ ((.slice Ao48 t219.length co48) : Value).ownBlock) (.slice Ao144 t244.length co144) t244) ∧ Aside0 (wc.heap[gb194]? = some (.cells #[.int .i64 a0_0, (.slice A0_1 l0_1.length c0_1)] 24 (0, 0))) ∧ Aside0 (wc.heap[gb195]? = some (.cells #[.int .i64 a1_0, .int .i64 a1_1, .int .i64 a1_2] 26 (0, 0))) ∧ Aside0 (wc.heap[gb209]? = some (.cells #[.int .i64 t204, (.slice Ao30 t205.length co30)] 30 (0, 0))) ∧ Aside0 (wc.heap[gb214]? = some (.cells #[.int .i64 t210, (.slice Ao40 t231.length co40)] 30 (0, 0))) ∧ Aside0 (wc.heap[gb223]? = some (.cells #[.int .i64 t218, (.slice Ao48 t219.length co48)] 30 (0, 0))) ∧ Aside0 (wc.heap[gb248]? = some (.cells #[.int .i64 t243, (.slice Ao144 t244.length co144)] 30 (0, 0))) ∧ Aside0 (Below w.heap.size w wc))
           case first =>
            have H := HC127.out
            clear HC127
            replace H := Option.bind_eq_some_iff.mp H
            obtain ⟨t249, A1460, H⟩ := H
            replace H : (if t249 = true then (laws_FnExactAddClue.j2 kj76 t233 (t247 != t208) t218 t234) else (laws_FnExactAddClue.j2 kj76 t233 true t218 t234)) = some r := H
            have A146 := Aside0.mk A1460
            clear A1460
            by_cases c147 : t249 = true
            ·
             subst c147
             have H1 : (laws_FnExactAddClue.j2 kj76 t233 (t247 != t208) t218 t234) = some r := by rw [if_pos rfl] at H; exact H
             clear H
             have H := H1
             clear H1
             have H' := Aside0.mk H
             clear H
             have hnb148 := NB248_194.out
             have hnc148 := NB194_248.out
             have hnb149 := NB248_195.out
             have hnc149 := NB195_248.out
             have hnb150 := NB248_209.out
             have hnc150 := NB209_248.out
             have hnb151 := NB248_214.out
             have hnc151 := NB214_248.out
             have hnb152 := NB248_223.out
             have hnc152 := NB223_248.out
             have hcz153_0 : w142.cell? ⟨gb248, 0, none⟩ = some (.int .i64 0) := bc BK248 0
             have hcz153_1 : w142.cell? ⟨gb248, 1, none⟩ = some (.slice none 0 0) := bc BK248 1
             have hfz153_0 := blk_frozen BK248.out 0
             have hfz153_1 := blk_frozen BK248.out 1
             have hnb154 := NB209_194.out
             have hnc154 := NB194_209.out
             have hnb155 := NB209_195.out
             have hnc155 := NB195_209.out
             have hnb156 := NB209_214.out
             have hnc156 := NB214_209.out
             have hnb157 := NB209_223.out
             have hnc157 := NB223_209.out
             have hcz158_0 : w142.cell? ⟨gb209, 0, none⟩ = some (.int .i64 t204) := bc BK209 0
             have hcz158_1 : w142.cell? ⟨gb209, 1, none⟩ = some (.slice Ao30 t205.length co30) := bc BK209 1
             have hfz158_0 := blk_frozen BK209.out 0
             have hfz158_1 := blk_frozen BK209.out 1
             go_wp2_with (first | ((with_reducible refine gate_callee (f := 10) rfl ?_); refine goesL_ (some 89) rfl rfl Try.func10 (by kernel_rfl) rfl #[.agg #[.int .i64 t243, .slice Ao144 t244.length co144], .agg #[.int .i64 t204, .slice Ao30 t205.length co30]] rfl (by (try simp only [List.map_toArray, List.map_cons, List.map_nil]); first | done | rfl | (simp only [List.length_drop, List.length_take]; rfl)) ?_; (with_reducible refine (laws_eqPuzzle.calls kj76 t243 _ _ t244 t204 _ _ t205 true _ ?side1 ?side2 ?side3 ?side4 A146.out).mono ?_); (case side1 => refine (Kd.R_reads' (e := 34) (base := w.heap.size) (ok := fun k_ => (some k_ ≠ (v238 : Value).ownBlock ∧ (some k_ ≠ (.slice Ao30 t205.length co30 : Value).ownBlock ∧ (some k_ ≠ (.slice Ao40 t231.length co40 : Value).ownBlock ∧ some k_ ≠ (.slice Ao48 t219.length co48 : Value).ownBlock)))) (n := t244.length) (c := co144) ?_).2.2; exact (qr (Kd.R_mono (Kd.R_far (p := ⟨gb248, 1, none⟩) (Kd.R_far (p := ⟨gb248, 0, none⟩) (Kd.R_types HO246.out BK248.out (by decide)) (fun _ hk => hk.2) (.int .i64 t243)) (fun _ hk => hk.2) (.slice Ao144 t244.length co144)) (fun _ h_ => h_.1)))); (case side2 => exact (Kd.R_reads' HO246.out).2.1); (case side3 => refine (Kd.R_reads' (e := 34) (base := w.heap.size) (ok := fun k_ => (some k_ ≠ (v238 : Value).ownBlock ∧ (some k_ ≠ (.slice Ao144 t244.length co144 : Value).ownBlock ∧ (some k_ ≠ (.slice Ao40 t231.length co40 : Value).ownBlock ∧ some k_ ≠ (.slice Ao48 t219.length co48 : Value).ownBlock)))) (n := t205.length) (c := co30) ?_).2.2; exact (qr (Kd.R_mono (Kd.R_far (p := ⟨gb248, 1, none⟩) (Kd.R_far (p := ⟨gb248, 0, none⟩) (Kd.R_types HO_210001.out BK248.out (by decide)) (fun _ hk => hk.2) (.int .i64 t243)) (fun _ hk => hk.2) (.slice Ao144 t244.length co144)) (fun _ h_ => h_.1)))); (case side4 => exact (Kd.R_reads' HO_210001.out).2.1); rintro e w159 ⟨rfl, hb⟩; refine ⟨_, rfl, ?_⟩; have n0_ := Aside0.mk (Kd.R_below (qr (Kd.R_mono (Kd.R_far (p := ⟨gb248, 1, none⟩) (Kd.R_far (p := ⟨gb248, 0, none⟩) (Kd.R_types HO_210001.out BK248.out (by decide)) (fun _ hk => hk.2) (.int .i64 t243)) (fun _ hk => hk.2) (.slice Ao144 t244.length co144)) (fun _ h_ => h_.1))) hb); have n1_ := Aside0.mk (Kd.R_below (qr (Kd.R_mono (Kd.R_far (p := ⟨gb248, 1, none⟩) (Kd.R_far (p := ⟨gb248, 0, none⟩) (Kd.R_types HO_215001.out BK248.out (by decide)) (fun _ hk => hk.2) (.int .i64 t243)) (fun _ hk => hk.2) (.slice Ao144 t244.length co144)) (fun _ h_ => h_.1))) hb); have n2_ := Aside0.mk (Kd.R_below (qr (Kd.R_mono (Kd.R_far (p := ⟨gb248, 1, none⟩) (Kd.R_far (p := ⟨gb248, 0, none⟩) (Kd.R_types HO_224001.out BK248.out (by decide)) (fun _ hk => hk.2) (.int .i64 t243)) (fun _ hk => hk.2) (.slice Ao144 t244.length co144)) (fun _ h_ => h_.1))) hb); have n3_ := Aside0.mk (Kd.R_below (qr (Kd.R_mono (Kd.R_far (p := ⟨gb248, 1, none⟩) (Kd.R_far (p := ⟨gb248, 0, none⟩) (Kd.R_types HO239.out BK248.out (by decide)) (fun _ hk => hk.2) (.int .i64 t243)) (fun _ hk => hk.2) (.slice Ao144 t244.length co144)) (fun _ h_ => h_.1))) hb); have n4_ := Aside0.mk (Kd.R_below (qr (Kd.R_mono (Kd.R_far (p := ⟨gb248, 1, none⟩) (Kd.R_far (p := ⟨gb248, 0, none⟩) (Kd.R_types HO246.out BK248.out (by decide)) (fun _ hk => hk.2) (.int .i64 t243)) (fun _ hk => hk.2) (.slice Ao144 t244.length co144)) (fun _ h_ => h_.1))) hb); have n5_ := Aside0.mk (blk_below (g := gb194) (o := .cells #[.int .i64 a0_0, .slice A0_1 l0_1.length c0_1] 24 (0, 0)) (by (with_reducible repeat (first | refine blk_drewN ?_ _ | refine blk_drew ?_ | refine blk_alloc ?_ _)); refine blk_far ?_ NB194_248.out _; (with_reducible repeat (first | refine blk_drewN ?_ _ | refine blk_drew ?_ | refine blk_alloc ?_ _)); refine blk_far ?_ NB194_248.out _; (with_reducible repeat (first | refine blk_drewN ?_ _ | refine blk_drew ?_ | refine blk_alloc ?_ _)); exact BK194.out) hb); have n6_ := Aside0.mk (blk_below (g := gb195) (o := .cells #[.int .i64 a1_0, .int .i64 a1_1, .int .i64 a1_2] 26 (0, 0)) (by (with_reducible repeat (first | refine blk_drewN ?_ _ | refine blk_drew ?_ | refine blk_alloc ?_ _)); refine blk_far ?_ NB195_248.out _; (with_reducible repeat (first | refine blk_drewN ?_ _ | refine blk_drew ?_ | refine blk_alloc ?_ _)); refine blk_far ?_ NB195_248.out _; (with_reducible repeat (first | refine blk_drewN ?_ _ | refine blk_drew ?_ | refine blk_alloc ?_ _)); exact BK195.out) hb); have n7_ := Aside0.mk (blk_below (g := gb209) (o := .cells #[.int .i64 t204, .slice Ao30 t205.length co30] 30 (0, 0)) (by (with_reducible repeat (first | refine blk_drewN ?_ _ | refine blk_drew ?_ | refine blk_alloc ?_ _)); refine blk_far ?_ NB209_248.out _; (with_reducible repeat (first | refine blk_drewN ?_ _ | refine blk_drew ?_ | refine blk_alloc ?_ _)); refine blk_far ?_ NB209_248.out _; (with_reducible repeat (first | refine blk_drewN ?_ _ | refine blk_drew ?_ | refine blk_alloc ?_ _)); exact BK209.out) hb); have n8_ := Aside0.mk (blk_below (g := gb214) (o := .cells #[.int .i64 t210, .slice Ao40 t231.length co40] 30 (0, 0)) (by (with_reducible repeat (first | refine blk_drewN ?_ _ | refine blk_drew ?_ | refine blk_alloc ?_ _)); refine blk_far ?_ NB214_248.out _; (with_reducible repeat (first | refine blk_drewN ?_ _ | refine blk_drew ?_ | refine blk_alloc ?_ _)); refine blk_far ?_ NB214_248.out _; (with_reducible repeat (first | refine blk_drewN ?_ _ | refine blk_drew ?_ | refine blk_alloc ?_ _)); exact BK214.out) hb); have n9_ := Aside0.mk (blk_below (g := gb223) (o := .cells #[.int .i64 t218, .slice Ao48 t219.length co48] 30 (0, 0)) (by (with_reducible repeat (first | refine blk_drewN ?_ _ | refine blk_drew ?_ | refine blk_alloc ?_ _)); refine blk_far ?_ NB223_248.out _; (with_reducible repeat (first | refine blk_drewN ?_ _ | refine blk_drew ?_ | refine blk_alloc ?_ _)); refine blk_far ?_ NB223_248.out _; (with_reducible repeat (first | refine blk_drewN ?_ _ | refine blk_drew ?_ | refine blk_alloc ?_ _)); exact BK223.out) hb); have n10_ := Aside0.mk (blk_below (g := gb248) (o := .cells #[.int .i64 t243, .slice Ao144 t244.length co144] 30 (0, 0)) (by (with_reducible repeat (first | refine blk_drewN ?_ _ | refine blk_drew ?_ | refine blk_alloc ?_ _)); refine blk_put (cs := #[.int .i64 t243, .slice none 0 0]) ?_ 1 _ rfl; (with_reducible repeat (first | refine blk_drewN ?_ _ | refine blk_drew ?_ | refine blk_alloc ?_ _)); refine blk_put (cs := #[.int .i64 0, .slice none 0 0]) ?_ 0 _ rfl; (with_reducible repeat (first | refine blk_drewN ?_ _ | refine blk_drew ?_ | refine blk_alloc ?_ _)); exact BK248.out) hb); have n11_ := Aside0.mk (below_step (qw HB) hb); clear HO_210001; clear HO_215001; clear HO_224001; clear HO239; clear HO246; clear BK194; clear BK195; clear BK209; clear BK214; clear BK223; clear BK248; clear HB; have HO_210001 := n0_; have HO_215001 := n1_; have HO_224001 := n2_; have HO239 := n3_; have HO246 := n4_; have BK194 := n5_; have BK195 := n6_; have BK209 := n7_; have BK214 := n8_; have BK223 := n9_; have BK248 := n10_; have HB := n11_; clear n0_ n1_ n2_ n3_ n4_ n5_ n6_ n7_ n8_ n9_ n10_ n11_; (try clear hb); (try clear hb2); (try clear hk); (try clear hi)))
             go_meet
             case rel => exact ⟨_, ((t247 != t208)), (by first | rfl | (simp; done) | (simp [*]; done) | (simp [isEmpty_bne]; done) | (simp [i64_w]; done) | (simp only [i64_w]; done)), H', ⟨by have := HJ15.out; have := HJ76.out; first | omega | exact Nat.le_refl _⟩, ⟨by (try simp only [hl215001_76]); (with_reducible repeat (first | apply Kd.R_alloc | apply Kd.R_drewN | apply Kd.R_drew)); exact Kd.R_mono HO_210001.out (fun _ hk => ⟨hk.2.2.1, ⟨hk.2.2.2, hk.2.1⟩⟩)⟩, ⟨by (try simp only [hl215001_76]); (with_reducible repeat (first | apply Kd.R_alloc | apply Kd.R_drewN | apply Kd.R_drew)); exact Kd.R_mono HO_215001.out (fun _ hk => ⟨hk.2.2.1, ⟨hk.2.2.2, hk.2.1⟩⟩)⟩, ⟨by (try simp only [hl215001_76]); (with_reducible repeat (first | apply Kd.R_alloc | apply Kd.R_drewN | apply Kd.R_drew)); exact Kd.R_mono HO_224001.out (fun _ hk => ⟨hk.2.2.1, ⟨hk.2.2.2, hk.2.1⟩⟩)⟩, ⟨by (try simp only [hl215001_76]); (with_reducible repeat (first | apply Kd.R_alloc | apply Kd.R_drewN | apply Kd.R_drew)); exact Kd.R_mono HO246.out (fun _ hk => ⟨hk.2.1, ⟨hk.2.2.1, hk.2.2.2⟩⟩)⟩, ⟨by (try simp only [hl215001_76]); (with_reducible repeat (first | refine blk_drewN ?_ _ | refine blk_drew ?_ | refine blk_alloc ?_ _)); exact BK194.out⟩, ⟨by (try simp only [hl215001_76]); (with_reducible repeat (first | refine blk_drewN ?_ _ | refine blk_drew ?_ | refine blk_alloc ?_ _)); exact BK195.out⟩, ⟨by (try simp only [hl215001_76]); (with_reducible repeat (first | refine blk_drewN ?_ _ | refine blk_drew ?_ | refine blk_alloc ?_ _)); exact BK209.out⟩, ⟨by (try simp only [hl215001_76]); (with_reducible repeat (first | refine blk_drewN ?_ _ | refine blk_drew ?_ | refine blk_alloc ?_ _)); exact BK214.out⟩, ⟨by (try simp only [hl215001_76]); (with_reducible repeat (first | refine blk_drewN ?_ _ | refine blk_drew ?_ | refine blk_alloc ?_ _)); exact BK223.out⟩, ⟨by (try simp only [hl215001_76]); (with_reducible repeat (first | refine blk_drewN ?_ _ | refine blk_drew ?_ | refine blk_alloc ?_ _)); exact BK248.out⟩, ⟨by repeat (first | (with_reducible first | exact HB.out | apply below_alloc | apply pw_below_drewN | apply below_drew1 | refine below_set ?_ GE194.out | refine below_set ?_ GE195.out | refine below_set ?_ GE209.out | refine below_set ?_ GE214.out | refine below_set ?_ GE223.out | refine below_set ?_ GE248.out) | exact HB.out)⟩⟩
            ·
             replace c147 := Bool.eq_false_iff.mpr c147
             subst c147
             have H1 : (laws_FnExactAddClue.j2 kj76 t233 true t218 t234) = some r := by rw [if_neg (show ¬ (false = true) by decide)] at H; exact H
             clear H
             have H := H1
             clear H1
             have H' := Aside0.mk H
             clear H
             have hnb160 := NB248_194.out
             have hnc160 := NB194_248.out
             have hnb161 := NB248_195.out
             have hnc161 := NB195_248.out
             have hnb162 := NB248_209.out
             have hnc162 := NB209_248.out
             have hnb163 := NB248_214.out
             have hnc163 := NB214_248.out
             have hnb164 := NB248_223.out
             have hnc164 := NB223_248.out
             have hcz165_0 : w142.cell? ⟨gb248, 0, none⟩ = some (.int .i64 0) := bc BK248 0
             have hcz165_1 : w142.cell? ⟨gb248, 1, none⟩ = some (.slice none 0 0) := bc BK248 1
             have hfz165_0 := blk_frozen BK248.out 0
             have hfz165_1 := blk_frozen BK248.out 1
             have hnb166 := NB209_194.out
             have hnc166 := NB194_209.out
             have hnb167 := NB209_195.out
             have hnc167 := NB195_209.out
             have hnb168 := NB209_214.out
             have hnc168 := NB214_209.out
             have hnb169 := NB209_223.out
             have hnc169 := NB223_209.out
             have hcz170_0 : w142.cell? ⟨gb209, 0, none⟩ = some (.int .i64 t204) := bc BK209 0
             have hcz170_1 : w142.cell? ⟨gb209, 1, none⟩ = some (.slice Ao30 t205.length co30) := bc BK209 1
             have hfz170_0 := blk_frozen BK209.out 0
             have hfz170_1 := blk_frozen BK209.out 1
             go_wp2_with (first | ((with_reducible refine gate_callee (f := 10) rfl ?_); refine goesL_ (some 89) rfl rfl Try.func10 (by kernel_rfl) rfl #[.agg #[.int .i64 t243, .slice Ao144 t244.length co144], .agg #[.int .i64 t204, .slice Ao30 t205.length co30]] rfl (by (try simp only [List.map_toArray, List.map_cons, List.map_nil]); first | done | rfl | (simp only [List.length_drop, List.length_take]; rfl)) ?_; (with_reducible refine (laws_eqPuzzle.calls kj76 t243 _ _ t244 t204 _ _ t205 false _ ?side1 ?side2 ?side3 ?side4 A146.out).mono ?_); (case side1 => refine (Kd.R_reads' (e := 34) (base := w.heap.size) (ok := fun k_ => (some k_ ≠ (v238 : Value).ownBlock ∧ (some k_ ≠ (.slice Ao30 t205.length co30 : Value).ownBlock ∧ (some k_ ≠ (.slice Ao40 t231.length co40 : Value).ownBlock ∧ some k_ ≠ (.slice Ao48 t219.length co48 : Value).ownBlock)))) (n := t244.length) (c := co144) ?_).2.2; exact (qr (Kd.R_mono (Kd.R_far (p := ⟨gb248, 1, none⟩) (Kd.R_far (p := ⟨gb248, 0, none⟩) (Kd.R_types HO246.out BK248.out (by decide)) (fun _ hk => hk.2) (.int .i64 t243)) (fun _ hk => hk.2) (.slice Ao144 t244.length co144)) (fun _ h_ => h_.1)))); (case side2 => exact (Kd.R_reads' HO246.out).2.1); (case side3 => refine (Kd.R_reads' (e := 34) (base := w.heap.size) (ok := fun k_ => (some k_ ≠ (v238 : Value).ownBlock ∧ (some k_ ≠ (.slice Ao144 t244.length co144 : Value).ownBlock ∧ (some k_ ≠ (.slice Ao40 t231.length co40 : Value).ownBlock ∧ some k_ ≠ (.slice Ao48 t219.length co48 : Value).ownBlock)))) (n := t205.length) (c := co30) ?_).2.2; exact (qr (Kd.R_mono (Kd.R_far (p := ⟨gb248, 1, none⟩) (Kd.R_far (p := ⟨gb248, 0, none⟩) (Kd.R_types HO_210001.out BK248.out (by decide)) (fun _ hk => hk.2) (.int .i64 t243)) (fun _ hk => hk.2) (.slice Ao144 t244.length co144)) (fun _ h_ => h_.1)))); (case side4 => exact (Kd.R_reads' HO_210001.out).2.1); rintro e w171 ⟨rfl, hb⟩; refine ⟨_, rfl, ?_⟩; have n0_ := Aside0.mk (Kd.R_below (qr (Kd.R_mono (Kd.R_far (p := ⟨gb248, 1, none⟩) (Kd.R_far (p := ⟨gb248, 0, none⟩) (Kd.R_types HO_210001.out BK248.out (by decide)) (fun _ hk => hk.2) (.int .i64 t243)) (fun _ hk => hk.2) (.slice Ao144 t244.length co144)) (fun _ h_ => h_.1))) hb); have n1_ := Aside0.mk (Kd.R_below (qr (Kd.R_mono (Kd.R_far (p := ⟨gb248, 1, none⟩) (Kd.R_far (p := ⟨gb248, 0, none⟩) (Kd.R_types HO_215001.out BK248.out (by decide)) (fun _ hk => hk.2) (.int .i64 t243)) (fun _ hk => hk.2) (.slice Ao144 t244.length co144)) (fun _ h_ => h_.1))) hb); have n2_ := Aside0.mk (Kd.R_below (qr (Kd.R_mono (Kd.R_far (p := ⟨gb248, 1, none⟩) (Kd.R_far (p := ⟨gb248, 0, none⟩) (Kd.R_types HO_224001.out BK248.out (by decide)) (fun _ hk => hk.2) (.int .i64 t243)) (fun _ hk => hk.2) (.slice Ao144 t244.length co144)) (fun _ h_ => h_.1))) hb); have n3_ := Aside0.mk (Kd.R_below (qr (Kd.R_mono (Kd.R_far (p := ⟨gb248, 1, none⟩) (Kd.R_far (p := ⟨gb248, 0, none⟩) (Kd.R_types HO239.out BK248.out (by decide)) (fun _ hk => hk.2) (.int .i64 t243)) (fun _ hk => hk.2) (.slice Ao144 t244.length co144)) (fun _ h_ => h_.1))) hb); have n4_ := Aside0.mk (Kd.R_below (qr (Kd.R_mono (Kd.R_far (p := ⟨gb248, 1, none⟩) (Kd.R_far (p := ⟨gb248, 0, none⟩) (Kd.R_types HO246.out BK248.out (by decide)) (fun _ hk => hk.2) (.int .i64 t243)) (fun _ hk => hk.2) (.slice Ao144 t244.length co144)) (fun _ h_ => h_.1))) hb); have n5_ := Aside0.mk (blk_below (g := gb194) (o := .cells #[.int .i64 a0_0, .slice A0_1 l0_1.length c0_1] 24 (0, 0)) (by (with_reducible repeat (first | refine blk_drewN ?_ _ | refine blk_drew ?_ | refine blk_alloc ?_ _)); refine blk_far ?_ NB194_248.out _; (with_reducible repeat (first | refine blk_drewN ?_ _ | refine blk_drew ?_ | refine blk_alloc ?_ _)); refine blk_far ?_ NB194_248.out _; (with_reducible repeat (first | refine blk_drewN ?_ _ | refine blk_drew ?_ | refine blk_alloc ?_ _)); exact BK194.out) hb); have n6_ := Aside0.mk (blk_below (g := gb195) (o := .cells #[.int .i64 a1_0, .int .i64 a1_1, .int .i64 a1_2] 26 (0, 0)) (by (with_reducible repeat (first | refine blk_drewN ?_ _ | refine blk_drew ?_ | refine blk_alloc ?_ _)); refine blk_far ?_ NB195_248.out _; (with_reducible repeat (first | refine blk_drewN ?_ _ | refine blk_drew ?_ | refine blk_alloc ?_ _)); refine blk_far ?_ NB195_248.out _; (with_reducible repeat (first | refine blk_drewN ?_ _ | refine blk_drew ?_ | refine blk_alloc ?_ _)); exact BK195.out) hb); have n7_ := Aside0.mk (blk_below (g := gb209) (o := .cells #[.int .i64 t204, .slice Ao30 t205.length co30] 30 (0, 0)) (by (with_reducible repeat (first | refine blk_drewN ?_ _ | refine blk_drew ?_ | refine blk_alloc ?_ _)); refine blk_far ?_ NB209_248.out _; (with_reducible repeat (first | refine blk_drewN ?_ _ | refine blk_drew ?_ | refine blk_alloc ?_ _)); refine blk_far ?_ NB209_248.out _; (with_reducible repeat (first | refine blk_drewN ?_ _ | refine blk_drew ?_ | refine blk_alloc ?_ _)); exact BK209.out) hb); have n8_ := Aside0.mk (blk_below (g := gb214) (o := .cells #[.int .i64 t210, .slice Ao40 t231.length co40] 30 (0, 0)) (by (with_reducible repeat (first | refine blk_drewN ?_ _ | refine blk_drew ?_ | refine blk_alloc ?_ _)); refine blk_far ?_ NB214_248.out _; (with_reducible repeat (first | refine blk_drewN ?_ _ | refine blk_drew ?_ | refine blk_alloc ?_ _)); refine blk_far ?_ NB214_248.out _; (with_reducible repeat (first | refine blk_drewN ?_ _ | refine blk_drew ?_ | refine blk_alloc ?_ _)); exact BK214.out) hb); have n9_ := Aside0.mk (blk_below (g := gb223) (o := .cells #[.int .i64 t218, .slice Ao48 t219.length co48] 30 (0, 0)) (by (with_reducible repeat (first | refine blk_drewN ?_ _ | refine blk_drew ?_ | refine blk_alloc ?_ _)); refine blk_far ?_ NB223_248.out _; (with_reducible repeat (first | refine blk_drewN ?_ _ | refine blk_drew ?_ | refine blk_alloc ?_ _)); refine blk_far ?_ NB223_248.out _; (with_reducible repeat (first | refine blk_drewN ?_ _ | refine blk_drew ?_ | refine blk_alloc ?_ _)); exact BK223.out) hb); have n10_ := Aside0.mk (blk_below (g := gb248) (o := .cells #[.int .i64 t243, .slice Ao144 t244.length co144] 30 (0, 0)) (by (with_reducible repeat (first | refine blk_drewN ?_ _ | refine blk_drew ?_ | refine blk_alloc ?_ _)); refine blk_put (cs := #[.int .i64 t243, .slice none 0 0]) ?_ 1 _ rfl; (with_reducible repeat (first | refine blk_drewN ?_ _ | refine blk_drew ?_ | refine blk_alloc ?_ _)); refine blk_put (cs := #[.int .i64 0, .slice none 0 0]) ?_ 0 _ rfl; (with_reducible repeat (first | refine blk_drewN ?_ _ | refine blk_drew ?_ | refine blk_alloc ?_ _)); exact BK248.out) hb); have n11_ := Aside0.mk (below_step (qw HB) hb); clear HO_210001; clear HO_215001; clear HO_224001; clear HO239; clear HO246; clear BK194; clear BK195; clear BK209; clear BK214; clear BK223; clear BK248; clear HB; have HO_210001 := n0_; have HO_215001 := n1_; have HO_224001 := n2_; have HO239 := n3_; have HO246 := n4_; have BK194 := n5_; have BK195 := n6_; have BK209 := n7_; have BK214 := n8_; have BK223 := n9_; have BK248 := n10_; have HB := n11_; clear n0_ n1_ n2_ n3_ n4_ n5_ n6_ n7_ n8_ n9_ n10_ n11_; (try clear hb); (try clear hb2); (try clear hk); (try clear hi)))
             go_meet
             case rel => exact ⟨_, (true), (by first | rfl | (simp; done) | (simp [*]; done) | (simp [isEmpty_bne]; done) | (simp [i64_w]; done) | (simp only [i64_w]; done)), H', ⟨by have := HJ15.out; have := HJ76.out; first | omega | exact Nat.le_refl _⟩, ⟨by (try simp only [hl215001_76]); (with_reducible repeat (first | apply Kd.R_alloc | apply Kd.R_drewN | apply Kd.R_drew)); exact Kd.R_mono HO_210001.out (fun _ hk => ⟨hk.2.2.1, ⟨hk.2.2.2, hk.2.1⟩⟩)⟩, ⟨by (try simp only [hl215001_76]); (with_reducible repeat (first | apply Kd.R_alloc | apply Kd.R_drewN | apply Kd.R_drew)); exact Kd.R_mono HO_215001.out (fun _ hk => ⟨hk.2.2.1, ⟨hk.2.2.2, hk.2.1⟩⟩)⟩, ⟨by (try simp only [hl215001_76]); (with_reducible repeat (first | apply Kd.R_alloc | apply Kd.R_drewN | apply Kd.R_drew)); exact Kd.R_mono HO_224001.out (fun _ hk => ⟨hk.2.2.1, ⟨hk.2.2.2, hk.2.1⟩⟩)⟩, ⟨by (try simp only [hl215001_76]); (with_reducible repeat (first | apply Kd.R_alloc | apply Kd.R_drewN | apply Kd.R_drew)); exact Kd.R_mono HO246.out (fun _ hk => ⟨hk.2.1, ⟨hk.2.2.1, hk.2.2.2⟩⟩)⟩, ⟨by (try simp only [hl215001_76]); (with_reducible repeat (first | refine blk_drewN ?_ _ | refine blk_drew ?_ | refine blk_alloc ?_ _)); exact BK194.out⟩, ⟨by (try simp only [hl215001_76]); (with_reducible repeat (first | refine blk_drewN ?_ _ | refine blk_drew ?_ | refine blk_alloc ?_ _)); exact BK195.out⟩, ⟨by (try simp only [hl215001_76]); (with_reducible repeat (first | refine blk_drewN ?_ _ | refine blk_drew ?_ | refine blk_alloc ?_ _)); exact BK209.out⟩, ⟨by (try simp only [hl215001_76]); (with_reducible repeat (first | refine blk_drewN ?_ _ | refine blk_drew ?_ | refine blk_alloc ?_ _)); exact BK214.out⟩, ⟨by (try simp only [hl215001_76]); (with_reducible repeat (first | refine blk_drewN ?_ _ | refine blk_drew ?_ | refine blk_alloc ?_ _)); exact BK223.out⟩, ⟨by (try simp only [hl215001_76]); (with_reducible repeat (first | refine blk_drewN ?_ _ | refine blk_drew ?_ | refine blk_alloc ?_ _)); exact BK248.out⟩, ⟨by repeat (first | (with_reducible first | exact HB.out | apply below_alloc | apply pw_below_drewN | apply below_drew1 | refine below_set ?_ GE194.out | refine below_set ?_ GE195.out | refine below_set ?_ GE209.out | refine below_set ?_ GE214.out | refine below_set ?_ GE223.out | refine below_set ?_ GE248.out) | exact HB.out)⟩⟩
           case rest =>
            clear HC127
            try clear c1
            try clear p2
            try clear c7
            try clear c8
            try clear c9
            try clear c10
            try clear c14
            try clear c15
            try clear c16
            try clear c147
            try clear c148
            try clear c149
            try clear c150
            try clear c151
            try clear c152
            try clear c154
            try clear c155
            try clear c156
            try clear c157
            try clear c160
            try clear c161
            try clear c162
            try clear c163
            try clear c164
            try clear c166
            try clear c167
            try clear c168
            try clear c169
            try clear hcz153_0
            try clear hcz153_1
            try clear hcz158_0
            try clear hcz158_1
            try clear hcz165_0
            try clear hcz165_1
            try clear hcz170_0
            try clear hcz170_1
            try clear hfz153_0
            try clear hfz153_1
            try clear hfz158_0
            try clear hfz158_1
            try clear hfz165_0
            try clear hfz165_1
            try clear hfz170_0
            try clear hfz170_1
            obtain ⟨kq, x95_126, rfl, HA, HJ126, HO_210001, HO_215001, HO_224001, HO_249001, BK194, BK195, BK209, BK214, BK223, BK248, HB⟩ := hcut
            have hl224001_126 := (Kd.R_reads' HO_224001.out).1
            rw [hl224001_126] at HO_224001
            (try simp only [hl224001_126])
            (try simp only [hl224001_126] at BK194)
            (try simp only [hl224001_126] at BK195)
            (try simp only [hl224001_126] at BK209)
            (try simp only [hl224001_126] at BK214)
            (try simp only [hl224001_126] at BK223)
            (try simp only [hl224001_126] at BK248)
            (try simp only [hl224001_126] at HO_210001)
            (try simp only [hl224001_126] at HO_215001)
            (try simp only [hl224001_126] at HO_249001)
            cases kq with
            | zero => exact absurd HA.out (by simp [laws_FnExactAddClue.j2])
            | succ kj126 =>
             have H := HA.out
             clear HA
             simp only [laws_FnExactAddClue.j2] at H
             by_cases c172 : x95_126 = true
             ·
              subst c172
              have H1 : (some false) = some r := by rw [if_pos rfl] at H; exact H
              clear H
              have H := H1
              clear H1
              obtain rfl := Option.some.inj H
              go_wp2
              go_ret
              exact ⟨by first | rfl | (simp [errW_none, errW_some] <;> rfl) | (simp [*, errW_none, errW_some] <;> rfl), qw HB⟩
             ·
              replace c172 := Bool.eq_false_iff.mpr c172
              subst c172
              have H1 : ((laws_heldPuzzle.f kj126 t218 t234 1).bind fun t250 => (if t250 < 0 then (some false) else (if t250 = t233 then (some true) else (some false)))) = some r := by rw [if_neg (show ¬ (false = true) by decide)] at H; exact H
              clear H
              have H := H1
              clear H1
              replace H := Option.bind_eq_some_iff.mp H
              obtain ⟨t250, A1730, H⟩ := H
              replace H : (if t250 < 0 then (some false) else (if t250 = t233 then (some true) else (some false))) = some r := H
              have A173 := Aside0.mk A1730
              clear A1730
              by_cases c174 : t250 < 0
              ·
               rw [if_pos c174] at H
               have c174b0 : decide (t250 < 0) = true := decide_eq_true c174
               clear c174
               obtain rfl := Option.some.inj H
               have hnb175 := NB223_194.out
               have hnc175 := NB194_223.out
               have hnb176 := NB223_195.out
               have hnc176 := NB195_223.out
               have hnb177 := NB223_209.out
               have hnc177 := NB209_223.out
               have hnb178 := NB223_214.out
               have hnc178 := NB214_223.out
               have hnb179 := NB223_248.out
               have hnc179 := NB248_223.out
               have hcz180_0 : wc.cell? ⟨gb223, 0, none⟩ = some (.int .i64 t218) := bc BK223 0
               have hcz180_1 : wc.cell? ⟨gb223, 1, none⟩ = some (.slice Ao48 t234.length co48) := bc BK223 1
               have hfz180_0 := blk_frozen BK223.out 0
               have hfz180_1 := blk_frozen BK223.out 1
               go_wp2_with (first | ((with_reducible refine gate_callee (f := 12) rfl ?_); refine goesL_ (some 98) rfl rfl Try.func12 (by kernel_rfl) rfl #[.agg #[.int .i64 t218, .slice Ao48 t234.length co48], .int .i64 1] rfl (by (try simp only [List.map_toArray, List.map_cons, List.map_nil]); first | done | rfl | (simp only [List.length_drop, List.length_take]; rfl)) ?_; (with_reducible refine (laws_heldPuzzle.calls kj126 t218 _ _ t234 1 t250 _ ?side1 ?side2 A173.out).mono ?_); (case side1 => repeat (first | exact (Kd.R_reads' HO_224001.out).2.2 | (with_reducible refine Kd.C_alloc ?_ _) | (with_reducible refine Kd.C_drewN ?_ _) | (with_reducible refine Kd.C_drew ?_))); (case side2 => exact (Kd.R_reads' HO_224001.out).2.1); rintro e w181 ⟨rfl, hb⟩; refine ⟨_, rfl, ?_⟩; have n0_ := Aside0.mk (Kd.R_below (qr HO_210001.out) hb); have n1_ := Aside0.mk (Kd.R_below (qr HO_215001.out) hb); have n2_ := Aside0.mk (Kd.R_below (qr HO_224001.out) hb); have n3_ := Aside0.mk (Kd.R_below (qr HO_249001.out) hb); have n4_ := qbb BK194 hb; have n5_ := qbb BK195 hb; have n6_ := qbb BK209 hb; have n7_ := qbb BK214 hb; have n8_ := qbb BK223 hb; have n9_ := qbb BK248 hb; have n10_ := Aside0.mk (below_step (qw HB) hb); clear HO_210001; clear HO_215001; clear HO_224001; clear HO_249001; clear BK194; clear BK195; clear BK209; clear BK214; clear BK223; clear BK248; clear HB; have HO_210001 := n0_; have HO_215001 := n1_; have HO_224001 := n2_; have HO_249001 := n3_; have BK194 := n4_; have BK195 := n5_; have BK209 := n6_; have BK214 := n7_; have BK223 := n8_; have BK248 := n9_; have HB := n10_; clear n0_ n1_ n2_ n3_ n4_ n5_ n6_ n7_ n8_ n9_ n10_; (try clear hb); (try clear hb2); (try clear hk); (try clear hi)))
               go_ret
               exact ⟨by first | rfl | (simp [errW_none, errW_some] <;> rfl) | (simp [*, errW_none, errW_some] <;> rfl), qw HB⟩
              ·
               rw [if_neg c174] at H
               have c174b0 : decide (t250 < 0) = false := decide_eq_false c174
               clear c174
               by_cases c182 : t250 = t233
               ·
                rw [if_pos c182] at H
                have c182b0 : (t250 == t233) = true := beq_iff_eq.mpr c182
                have c182b1 : (t250 != t233) = false := bne_eq_false_iff_eq.mpr c182
                clear c182
                obtain rfl := Option.some.inj H
                have hnb183 := NB223_194.out
                have hnc183 := NB194_223.out
                have hnb184 := NB223_195.out
                have hnc184 := NB195_223.out
                have hnb185 := NB223_209.out
                have hnc185 := NB209_223.out
                have hnb186 := NB223_214.out
                have hnc186 := NB214_223.out
                have hnb187 := NB223_248.out
                have hnc187 := NB248_223.out
                have hcz188_0 : wc.cell? ⟨gb223, 0, none⟩ = some (.int .i64 t218) := bc BK223 0
                have hcz188_1 : wc.cell? ⟨gb223, 1, none⟩ = some (.slice Ao48 t234.length co48) := bc BK223 1
                have hfz188_0 := blk_frozen BK223.out 0
                have hfz188_1 := blk_frozen BK223.out 1
                go_wp2_with (first | ((with_reducible refine gate_callee (f := 12) rfl ?_); refine goesL_ (some 98) rfl rfl Try.func12 (by kernel_rfl) rfl #[.agg #[.int .i64 t218, .slice Ao48 t234.length co48], .int .i64 1] rfl (by (try simp only [List.map_toArray, List.map_cons, List.map_nil]); first | done | rfl | (simp only [List.length_drop, List.length_take]; rfl)) ?_; (with_reducible refine (laws_heldPuzzle.calls kj126 t218 _ _ t234 1 t250 _ ?side1 ?side2 A173.out).mono ?_); (case side1 => repeat (first | exact (Kd.R_reads' HO_224001.out).2.2 | (with_reducible refine Kd.C_alloc ?_ _) | (with_reducible refine Kd.C_drewN ?_ _) | (with_reducible refine Kd.C_drew ?_))); (case side2 => exact (Kd.R_reads' HO_224001.out).2.1); rintro e w189 ⟨rfl, hb⟩; refine ⟨_, rfl, ?_⟩; have n0_ := Aside0.mk (Kd.R_below (qr HO_210001.out) hb); have n1_ := Aside0.mk (Kd.R_below (qr HO_215001.out) hb); have n2_ := Aside0.mk (Kd.R_below (qr HO_224001.out) hb); have n3_ := Aside0.mk (Kd.R_below (qr HO_249001.out) hb); have n4_ := qbb BK194 hb; have n5_ := qbb BK195 hb; have n6_ := qbb BK209 hb; have n7_ := qbb BK214 hb; have n8_ := qbb BK223 hb; have n9_ := qbb BK248 hb; have n10_ := Aside0.mk (below_step (qw HB) hb); clear HO_210001; clear HO_215001; clear HO_224001; clear HO_249001; clear BK194; clear BK195; clear BK209; clear BK214; clear BK223; clear BK248; clear HB; have HO_210001 := n0_; have HO_215001 := n1_; have HO_224001 := n2_; have HO_249001 := n3_; have BK194 := n4_; have BK195 := n5_; have BK209 := n6_; have BK214 := n7_; have BK223 := n8_; have BK248 := n9_; have HB := n10_; clear n0_ n1_ n2_ n3_ n4_ n5_ n6_ n7_ n8_ n9_ n10_; (try clear hb); (try clear hb2); (try clear hk); (try clear hi)))
                go_ret
                exact ⟨by first | rfl | (simp [errW_none, errW_some] <;> rfl) | (simp [*, errW_none, errW_some] <;> rfl), qw HB⟩
               ·
                rw [if_neg c182] at H
                have c182b0 : (t250 == t233) = false := beq_eq_false_iff_ne.mpr c182
                have c182b1 : (t250 != t233) = true := bne_iff_ne.mpr c182
                obtain rfl := Option.some.inj H
                have hnb190 := NB223_194.out
                have hnc190 := NB194_223.out
                have hnb191 := NB223_195.out
                have hnc191 := NB195_223.out
                have hnb192 := NB223_209.out
                have hnc192 := NB209_223.out
                have hnb193 := NB223_214.out
                have hnc193 := NB214_223.out
                have hnb194 := NB223_248.out
                have hnc194 := NB248_223.out
                have hcz195_0 : wc.cell? ⟨gb223, 0, none⟩ = some (.int .i64 t218) := bc BK223 0
                have hcz195_1 : wc.cell? ⟨gb223, 1, none⟩ = some (.slice Ao48 t234.length co48) := bc BK223 1
                have hfz195_0 := blk_frozen BK223.out 0
                have hfz195_1 := blk_frozen BK223.out 1
                go_wp2_with (first | ((with_reducible refine gate_callee (f := 12) rfl ?_); refine goesL_ (some 98) rfl rfl Try.func12 (by kernel_rfl) rfl #[.agg #[.int .i64 t218, .slice Ao48 t234.length co48], .int .i64 1] rfl (by (try simp only [List.map_toArray, List.map_cons, List.map_nil]); first | done | rfl | (simp only [List.length_drop, List.length_take]; rfl)) ?_; (with_reducible refine (laws_heldPuzzle.calls kj126 t218 _ _ t234 1 t250 _ ?side1 ?side2 A173.out).mono ?_); (case side1 => repeat (first | exact (Kd.R_reads' HO_224001.out).2.2 | (with_reducible refine Kd.C_alloc ?_ _) | (with_reducible refine Kd.C_drewN ?_ _) | (with_reducible refine Kd.C_drew ?_))); (case side2 => exact (Kd.R_reads' HO_224001.out).2.1); rintro e w196 ⟨rfl, hb⟩; refine ⟨_, rfl, ?_⟩; have n0_ := Aside0.mk (Kd.R_below (qr HO_210001.out) hb); have n1_ := Aside0.mk (Kd.R_below (qr HO_215001.out) hb); have n2_ := Aside0.mk (Kd.R_below (qr HO_224001.out) hb); have n3_ := Aside0.mk (Kd.R_below (qr HO_249001.out) hb); have n4_ := qbb BK194 hb; have n5_ := qbb BK195 hb; have n6_ := qbb BK209 hb; have n7_ := qbb BK214 hb; have n8_ := qbb BK223 hb; have n9_ := qbb BK248 hb; have n10_ := Aside0.mk (below_step (qw HB) hb); clear HO_210001; clear HO_215001; clear HO_224001; clear HO_249001; clear BK194; clear BK195; clear BK209; clear BK214; clear BK223; clear BK248; clear HB; have HO_210001 := n0_; have HO_215001 := n1_; have HO_224001 := n2_; have HO_249001 := n3_; have BK194 := n4_; have BK195 := n5_; have BK209 := n6_; have BK214 := n7_; have BK223 := n8_; have BK248 := n9_; have HB := n10_; clear n0_ n1_ n2_ n3_ n4_ n5_ n6_ n7_ n8_ n9_ n10_; (try clear hb); (try clear hb2); (try clear hk); (try clear hi)))
                go_ret
                exact ⟨by first | rfl | (simp [errW_none, errW_some] <;> rfl) | (simp [*, errW_none, errW_some] <;> rfl), qw HB⟩
          ·
           rw [if_neg c123] at H
           have c123b0 : (t235 == t233) = false := beq_eq_false_iff_ne.mpr c123
           have c123b1 : (t235 != t233) = true := bne_iff_ne.mpr c123
           obtain rfl := Option.some.inj H
           have hnb197 := NB223_194.out
           have hnc197 := NB194_223.out
           have hnb198 := NB223_195.out
           have hnc198 := NB195_223.out
           have hnb199 := NB223_209.out
           have hnc199 := NB209_223.out
           have hnb200 := NB223_214.out
           have hnc200 := NB214_223.out
           have hcz201_0 : wc.cell? ⟨gb223, 0, none⟩ = some (.int .i64 t218) := bc BK223 0
           have hcz201_1 : wc.cell? ⟨gb223, 1, none⟩ = some (.slice Ao48 t219.length co48) := bc BK223 1
           have hfz201_0 := blk_frozen BK223.out 0
           have hfz201_1 := blk_frozen BK223.out 1
           go_wp2_with (first | ((with_reducible refine gate_callee (f := 11) rfl ?_); refine goesL_ (some 70) rfl rfl Try.func11 (by kernel_rfl) rfl #[.agg #[.int .i64 t218, .slice Ao48 t219.length co48], .int .i64 1] rfl (by (try simp only [List.map_toArray, List.map_cons, List.map_nil]); first | done | rfl | (simp only [List.length_drop, List.length_take]; rfl)) ?_; (with_reducible refine (laws_markPuzzle.calls kj76 t218 (fun k_ => some k_ = (.slice Ao48 t219.length co48 : Value).ownBlock) (.slice Ao48 t219.length co48) t219 1 t233 t234 w _ ?side1 ?side2 A112.out).mono ?_); (case side1 => repeat (first | (with_reducible first | exact HB.out | apply below_alloc | apply pw_below_drewN | apply below_drew1 | refine below_set ?_ GE194.out | refine below_set ?_ GE195.out | refine below_set ?_ GE209.out | refine below_set ?_ GE214.out | refine below_set ?_ GE223.out) | exact HB.out)); (case side2 => exact Kd.R_tight rfl HO_224001.out); rintro e w202 ⟨rfl, hy0, hb, hkp⟩; refine ⟨_, rfl, ?_⟩; have n0_ := Aside0.mk (Kd.R_mono (ok' := fun k_ => some k_ ≠ (.slice Ao40 t231.length co40 : Value).ownBlock ∧ some k_ ≠ (.slice Ao48 t219.length co48 : Value).ownBlock) (Kd.R_keptB (HO_210001.out) hkp (fun k_ hk_ hs_ => (hk_.2) hs_)) (fun k_ hk_ => ⟨hk_.1.1, hk_.1.2⟩)); have n1_ := Aside0.mk (Kd.R_mono (ok' := fun k_ => some k_ ≠ (.slice Ao30 t205.length co30 : Value).ownBlock ∧ some k_ ≠ (.slice Ao48 t219.length co48 : Value).ownBlock) (Kd.R_keptB (HO_215001.out) hkp (fun k_ hk_ hs_ => (hk_.2) hs_)) (fun k_ hk_ => ⟨hk_.1.1, hk_.1.2⟩)); have n2_ := Aside0.mk (Kd.R_reok rfl hy0 (fun k_ e_ => HO_224001.out.1 k_ e_)); have n3_ := Aside0.mk (blk_kept (qb BK194) hkp (fun hs_ => (fun e_ => (Kd.R_ne HO_224001.out BK194.out (by decide)) e_) hs_)); have n4_ := Aside0.mk (blk_kept (qb BK195) hkp (fun hs_ => (fun e_ => (Kd.R_ne HO_224001.out BK195.out (by decide)) e_) hs_)); have n5_ := Aside0.mk (blk_kept (qb BK209) hkp (fun hs_ => (fun e_ => (Kd.R_ne HO_224001.out BK209.out (by decide)) e_) hs_)); have n6_ := Aside0.mk (blk_kept (qb BK214) hkp (fun hs_ => (fun e_ => (Kd.R_ne HO_224001.out BK214.out (by decide)) e_) hs_)); have n7_ := Aside0.mk (blk_kept (qb BK223) hkp (fun hs_ => (fun e_ => (Kd.R_ne HO_224001.out BK223.out (by decide)) e_) hs_)); have n8_ := Aside0.mk (hb); clear HO_210001; clear HO_215001; clear HO_224001; clear BK194; clear BK195; clear BK209; clear BK214; clear BK223; clear HB; have HO_210001 := n0_; have HO_215001 := n1_; have HO_224001 := n2_; have BK194 := n3_; have BK195 := n4_; have BK209 := n5_; have BK214 := n6_; have BK223 := n7_; have HB := n8_; clear n0_ n1_ n2_ n3_ n4_ n5_ n6_ n7_ n8_; (try clear hb); (try clear hkp); (try clear hy0); have hcz203_0 : w202.cell? ⟨gb223, 0, none⟩ = some (.int .i64 t218) := bc BK223 0; have hcz203_1 : w202.cell? ⟨gb223, 1, none⟩ = some (.slice Ao48 t219.length co48) := bc BK223 1; have hfz203_0 := blk_frozen BK223.out 0; have hfz203_1 := blk_frozen BK223.out 1) | ((with_reducible refine gate_callee (f := 12) rfl ?_); refine goesL_ (some 73) rfl rfl Try.func12 (by kernel_rfl) rfl #[.agg #[.int .i64 t218, .slice Ao48 t234.length co48], .int .i64 1] rfl (by (try simp only [List.map_toArray, List.map_cons, List.map_nil]); first | done | (rw [show t234.length = t219.length from (Kd.R_reads' HO_224001.out).1.symm] <;> rfl) | rfl | (simp only [List.length_drop, List.length_take]; rfl)) ?_; (with_reducible refine (laws_heldPuzzle.calls kj76 t218 _ _ t234 1 t235 _ ?side1 ?side2 A113.out).mono ?_); (case side1 => repeat (first | exact (Kd.R_reads' HO_224001.out).2.2 | (with_reducible refine Kd.C_alloc ?_ _) | (with_reducible refine Kd.C_drewN ?_ _) | (with_reducible refine Kd.C_drew ?_))); (case side2 => rw [show t234.length = t219.length from (Kd.R_reads' HO_224001.out).1.symm]; exact (Kd.R_reads' HO_224001.out).2.1); rintro e w204 ⟨rfl, hb⟩; refine ⟨_, rfl, ?_⟩; have n0_ := Aside0.mk (Kd.R_below (qr HO_210001.out) hb); have n1_ := Aside0.mk (Kd.R_below (qr HO_215001.out) hb); have n2_ := Aside0.mk (Kd.R_below (qr HO_224001.out) hb); have n3_ := qbb BK194 hb; have n4_ := qbb BK195 hb; have n5_ := qbb BK209 hb; have n6_ := qbb BK214 hb; have n7_ := qbb BK223 hb; have n8_ := Aside0.mk (below_step (qw HB) hb); clear HO_210001; clear HO_215001; clear HO_224001; clear BK194; clear BK195; clear BK209; clear BK214; clear BK223; clear HB; have HO_210001 := n0_; have HO_215001 := n1_; have HO_224001 := n2_; have BK194 := n3_; have BK195 := n4_; have BK209 := n5_; have BK214 := n6_; have BK223 := n7_; have HB := n8_; clear n0_ n1_ n2_ n3_ n4_ n5_ n6_ n7_ n8_; (try clear hb); (try clear hb2); (try clear hk); (try clear hi)))
           go_ret
           exact ⟨by first | rfl | (simp [errW_none, errW_some] <;> rfl) | (simp [*, errW_none, errW_some] <;> rfl), qw HB⟩
     ·
      replace c75 := Bool.eq_false_iff.mpr c75
      subst c75
      have H1 : (some false) = some r := by rw [if_neg (show ¬ (false = true) by decide)] at H; exact H
      clear H
      have H := H1
      clear H1
      obtain rfl := Option.some.inj H
      try go_wp2
      have n0_ := Aside0.mk (Kd.R_drew HO_210001.out)
      have n1_ := Aside0.mk (Kd.R_drew HO_215001.out)
      have n2_ := Aside0.mk (Kd.R_drew HO_224001.out)
      have n3_ := Aside0.mk (blk_drew BK194.out)
      have n4_ := Aside0.mk (blk_drew BK195.out)
      have n5_ := Aside0.mk (blk_drew BK209.out)
      have n6_ := Aside0.mk (blk_drew BK214.out)
      have n7_ := Aside0.mk (blk_drew BK223.out)
      have n8_ := Aside0.mk (below_drew1 HB.out)
      clear HO_210001
      clear HO_215001
      clear HO_224001
      clear BK194
      clear BK195
      clear BK209
      clear BK214
      clear BK223
      clear HB
      have HO_210001 := n0_
      have HO_215001 := n1_
      have HO_224001 := n2_
      have BK194 := n3_
      have BK195 := n4_
      have BK209 := n5_
      have BK214 := n6_
      have BK223 := n7_
      have HB := n8_
      clear n0_ n1_ n2_ n3_ n4_ n5_ n6_ n7_ n8_
      refine start_ (n := 5) (S := fun w' => w'.cell? ⟨gb214, 0, none⟩ = some (.int .i64 t210) ∧ w'.cell? ⟨gb214, 1, none⟩ = some (.slice Ao40 t211.length co40) ∧ w'.cell? ⟨gb194, 0, none⟩ = some (.int .i64 a0_0) ∧ w'.cell? ⟨gb194, 1, none⟩ = some (.slice A0_1 l0_1.length c0_1)) (ds := []) #[false, false, false, false, false] (by kernel_rfl) rfl rfl ⟨bc BK214 0, bc BK214 1, bc BK194 0, bc BK194 1⟩ (fun hHeld => ?_)
      generalize wc.drew = w205 at HO_210001 HO_215001 HO_224001 BK194 BK195 BK209 BK214 BK223 HB hHeld ⊢
      refine take_ (i := 0) (N := some 47) (v := ?_) (a' := ?_) #[true, false, false, false, false] rfl rfl (by kernel_rfl) (fun _ _ _ h => h) (Or.inl ⟨by rfl, ?_⟩) hHeld ?_ ?_
      rotate_left
      ·
       rintro w' ⟨s0, s1, s2, s3⟩
       go_simp
       with_reducible rfl
      rotate_left
      ·
       simp only [Act.put, List.setIfInBounds_toArray, List.set_cons_zero, List.set_cons_succ, i64_w, i32_w]
       rfl
      refine take_ (i := 1) (N := some 48) (v := ?_) (a' := ?_) #[true, true, false, false, false] rfl rfl (by kernel_rfl) (fun _ _ _ h => h) (Or.inl ⟨by rfl, ?_⟩) hHeld ?_ ?_
      rotate_left
      ·
       rintro w' ⟨s0, s1, s2, s3⟩
       go_simp
       with_reducible rfl
      rotate_left
      ·
       simp only [Act.put, List.setIfInBounds_toArray, List.set_cons_zero, List.set_cons_succ, i64_w, i32_w]
       rfl
      refine one_ (i := 2) (N := some 49) #[true, true, true, false, false] rfl rfl (by kernel_rfl) (by decide) (fun K hK => ?_)
      refine goes_ Try.func7 (by kernel_rfl) rfl #[.agg #[.int .i64 a0_0, .slice A0_1 l0_1.length c0_1]] (by rfl) rfl rfl (by (try simp only [List.map_toArray, List.map_cons, List.map_nil]); first | done | rfl | (simp only [List.length_drop, List.length_take]; rfl)) ?_
      with_reducible refine (laws_toPuzzle.calls kj15 a0_0 _ _ l0_1 t225 t226 _ ?side1 ?side2 A73.out).mono ?_
      (case side1 => repeat (first | exact (Kd.C_below HR0_1.out HB.out) | (with_reducible refine Kd.C_alloc ?_ _) | (with_reducible refine Kd.C_drewN ?_ _) | (with_reducible refine Kd.C_drew ?_)))
      (case side2 => exact HC0_1.out)
      rintro e w206 ⟨v227, rfl, ho0, hb⟩
      refine ⟨_, rfl, ?_⟩
      have n0_ := Aside0.mk (Kd.R_elder' (qr HO_210001.out) (Kd.R_base ho0) hb)
      have n1_ := Aside0.mk (Kd.R_elder' (qr HO_215001.out) (Kd.R_base ho0) hb)
      have n2_ := Aside0.mk (Kd.R_elder' (qr HO_224001.out) (Kd.R_base ho0) hb)
      have n3_ := Aside0.mk (Kd.R_lower (Kd.R_new' (Kd.R_new' (Kd.R_new' ho0 (Kd.R_lt (qr HO_210001.out))) (Kd.R_lt (qr HO_215001.out))) (Kd.R_lt (qr HO_224001.out))) (below_size (qw HB)))
      have n4_ := qbb BK194 hb
      have n5_ := qbb BK195 hb
      have n6_ := qbb BK209 hb
      have n7_ := qbb BK214 hb
      have n8_ := qbb BK223 hb
      have n9_ := Aside0.mk (below_step (qw HB) hb)
      clear HO_210001
      clear HO_215001
      clear HO_224001
      clear BK194
      clear BK195
      clear BK209
      clear BK214
      clear BK223
      clear HB
      have HO_210001 := n0_
      have HO_215001 := n1_
      have HO_224001 := n2_
      have HO228 := n3_
      have BK194 := n4_
      have BK195 := n5_
      have BK209 := n6_
      have BK214 := n7_
      have BK223 := n8_
      have HB := n9_
      clear n0_ n1_ n2_ n3_ n4_ n5_ n6_ n7_ n8_ n9_
      (try clear hb)
      (try clear hb2)
      (try clear hk)
      (try clear hi)
      (try clear ho0)
      obtain ⟨Ao207, co207, eo207⟩ := Kd.R_slice HO228.out
      (first | subst eo207 | (injection eo207 with f1_ f2_ f3_; have f4_ := f1_.symm; have f5_ := f3_.symm; clear f1_ f2_ f3_; subst f4_; subst f5_))
      refine hK.out _ _ ⟨bc BK214 0, bc BK214 1, bc BK194 0, bc BK194 1⟩ (fun hHeld => ?_)
      clear hK K
      refine norm_ (a' := ?_) ?_ ?_
      rotate_left
      ·
       show Act.put _ (some 49) _ = _
       simp only [Act.put, List.setIfInBounds_toArray, List.set_cons_zero, List.set_cons_succ, i64_w, i32_w]
       rfl
      refine one_ (i := 3) (N := some 50) #[true, true, true, true, false] rfl rfl (by kernel_rfl) (by decide) (fun K hK => ?_)
      refine goes_ Try.func10 (by kernel_rfl) rfl #[.agg #[.int .i64 t210, .slice Ao40 t211.length co40], .agg #[.int .i64 t225, .slice Ao207 t226.length co207]] (by rfl) rfl rfl (by (try simp only [List.map_toArray, List.map_cons, List.map_nil]); first | done | rfl | (simp only [List.length_drop, List.length_take]; rfl)) ?_
      with_reducible refine (laws_eqPuzzle.calls kj15 t210 _ _ t211 t225 _ _ t226 false _ ?side1 ?side2 ?side3 ?side4 A74.out).mono ?_
      (case side1 => repeat (first | exact (Kd.R_reads' HO_215001.out).2.2 | (with_reducible refine Kd.C_alloc ?_ _) | (with_reducible refine Kd.C_drewN ?_ _) | (with_reducible refine Kd.C_drew ?_)))
      (case side2 => exact (Kd.R_reads' HO_215001.out).2.1)
      (case side3 => repeat (first | exact (Kd.R_reads' HO228.out).2.2 | (with_reducible refine Kd.C_alloc ?_ _) | (with_reducible refine Kd.C_drewN ?_ _) | (with_reducible refine Kd.C_drew ?_)))
      (case side4 => exact (Kd.R_reads' HO228.out).2.1)
      rintro e w208 ⟨rfl, hb⟩
      refine ⟨_, rfl, ?_⟩
      have n0_ := Aside0.mk (Kd.R_below (qr HO_210001.out) hb)
      have n1_ := Aside0.mk (Kd.R_below (qr HO_215001.out) hb)
      have n2_ := Aside0.mk (Kd.R_below (qr HO_224001.out) hb)
      have n3_ := Aside0.mk (Kd.R_below (qr HO228.out) hb)
      have n4_ := qbb BK194 hb
      have n5_ := qbb BK195 hb
      have n6_ := qbb BK209 hb
      have n7_ := qbb BK214 hb
      have n8_ := qbb BK223 hb
      have n9_ := Aside0.mk (below_step (qw HB) hb)
      clear HO_210001
      clear HO_215001
      clear HO_224001
      clear HO228
      clear BK194
      clear BK195
      clear BK209
      clear BK214
      clear BK223
      clear HB
      have HO_210001 := n0_
      have HO_215001 := n1_
      have HO_224001 := n2_
      have HO228 := n3_
      have BK194 := n4_
      have BK195 := n5_
      have BK209 := n6_
      have BK214 := n7_
      have BK223 := n8_
      have HB := n9_
      clear n0_ n1_ n2_ n3_ n4_ n5_ n6_ n7_ n8_ n9_
      (try clear hb)
      (try clear hb2)
      (try clear hk)
      (try clear hi)
      refine hK.out _ _ ⟨bc BK214 0, bc BK214 1, bc BK194 0, bc BK194 1⟩ (fun hHeld => ?_)
      clear hK K
      refine norm_ (a' := ?_) ?_ ?_
      rotate_left
      ·
       show Act.put _ (some 50) _ = _
       simp only [Act.put, List.setIfInBounds_toArray, List.set_cons_zero, List.set_cons_succ, i64_w, i32_w]
       rfl
      refine pure_ (i := 4) (N := some 51) (v := ?_) (a' := ?_) #[true, true, true, true, true] rfl rfl (by kernel_rfl) (fun _ _ _ h => h) (Or.inl ⟨by rfl, ?_⟩) ?_ ?_
      rotate_left
      ·
       intro w'
       go_simp
       with_reducible rfl
      rotate_left
      ·
       simp only [Act.put, List.setIfInBounds_toArray, List.set_cons_zero, List.set_cons_succ, i64_w, i32_w]
       rfl
      refine done_ (by kernel_rfl) ?_
      try go_wp2
      go_ret
      exact ⟨by first | rfl | (simp [errW_none, errW_some] <;> rfl) | (simp [*, errW_none, errW_some] <;> rfl), qw HB⟩

end Go.Proofs.Ythnippdgfhbneaa.PA
