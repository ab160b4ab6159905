-- printed by xprint.py: the kit's print.py with given contracts
import Derived.Test.YtbgkaabbpdhhlaaGreatDoorPAx0
import Derived.Test.YtbgkaabbpdhhlaaGreatDoorPAx3
import Derived.Test.YtbgkaabbpdhhlaaGreatDoorPAx4
import Derived.Test.YtbgkaabbpdhhlaaGreatDoorPAx5
namespace Go.Proofs.YtbgkaabbpdhhlaaGreatDoor.PA
open Go.RowKit Go.Proofs.YtbgkaabbpdhhlaaGreatDoorW.PrintWords Go.Proofs.YtbgkaabbpdhhlaaGreatDoorW.PrintLast Go.Proofs.YtbgkaabbpdhhlaaGreatDoorW.PrintMore
attribute [local go_sem] max2_int min2_int max_two min_two max_three min_three max_four min_four   -- for this text's walks alone
set_option linter.unusedVariables false
set_option linter.unusedSimpArgs false

/-! ### impl_Clue_fits: function 71 -/
def impl_Clue_fits.f (k : Nat) (a0_0 : Int) (a0_1 : Int) (a0_2 : Int) (a1 : ByteArray) : Option (Bool) := (impl_truth.f k a0_0 a0_1 a1).bind fun t270 => (some (t270 == a0_2))
theorem impl_Clue_fits.mono : ∀ a0 a1 a2 a3 k, LeO (impl_Clue_fits.f k a0 a1 a2 a3) (impl_Clue_fits.f (k + 1) a0 a1 a2 a3) := by
 intro a0 a1 a2 a3 k
 unfold impl_Clue_fits.f
 repeat' first
   | (with_reducible exact impl_truth.mono _ _ _ _)
   | (with_reducible exact LeO.refl _)
   | (with_reducible exact LeO.none _)
   | (with_reducible refine LeO.ite ?_ ?_)
   | (with_reducible refine LeO.bind ?_ (fun _ => ?_))
   | exact impl_truth.mono _ _ _ _
   | exact LeO.none _
   | refine LeO.ite ?_ ?_
   | refine LeO.bind ?_ (fun _ => ?_)
def impl_Clue_fits.T1 : Bool × List (List Nat × List Nat) := (true, [([], []), ([0], [0]), ([], []), ([2], [2]), ([], []), ([1, 3, 4], [1, 3, 4]), ([], []), ([6], [6]), ([5, 7], [5, 7]), ([8, 5, 0, 1, 2, 3, 4, 5, 6, 7, 8], [8])])
def impl_Clue_fits.B1 : List Nat := [0, 1, 0, 4, 0, 31, 0, 64, 255, 511]
theorem impl_Clue_fits.tab1 : rtab .any (opsOf Tryz.f71 1) = impl_Clue_fits.T1 := by kernel_rfl
theorem impl_Clue_fits.bits1 : waitsOk impl_Clue_fits.T1.2 impl_Clue_fits.B1 = true := by kernel_rfl
set_option maxHeartbeats 8000000 in
set_option maxRecDepth 100000 in
theorem impl_Clue_fits.calls (k : Nat) (a0_0 : Int) (a0_1 : Int) (a0_2 : Int) (a1 : ByteArray) (r : Bool) (w : World) (h : impl_Clue_fits.f k a0_0 a0_1 a0_2 a1 = some r) (hglob : Glob w := by first | exact Glob.below HG.out (by repeat (first | (with_reducible first | exact HB.out | apply below_alloc | apply pw_below_drewN | apply below_drew1 | refine below_set ?_ (Aside0.out (by assumption))) | exact HB.out)) | assumption) :
  Calls Tryz.prog 71 #[.agg #[.int .i64 a0_0, .int .i64 a0_1, .int .i64 a0_2], .string a1] w fun e w' => e = .returned (.bool r) ∧ Below w.heap.size w w' := by
 have HG := Aside0.mk hglob
 clear hglob
 have hu65 := Tryz.underlying65
 have HB := Aside0.mk (Below.refl w.heap.size w)
 have H : ((impl_truth.f k a0_0 a0_1 a1).bind fun t270 => (some (t270 == a0_2))) = some r := h
 clear h
 replace H := Option.bind_eq_some_iff.mp H
 obtain ⟨t270, A30, H⟩ := H
 replace H : (some (t270 == a0_2)) = some r := H
 have A3 := Aside0.mk A30
 clear A30
 obtain rfl := Option.some.inj H
 go_enter Tryz.func71, Tryz.ntmps71
 try go_wp2_with (first | ((with_reducible refine gate_dst (N := 2) rfl ?_); refine box_event ?hg (N := 2) ?hd (cs := #[.int .i64 a0_0, .int .i64 a0_1, .int .i64 a0_2]) (t := 65) ?hr ?_; (case hd => rfl); (case hg => rfl); (case hr => first | (go_simp; done) | (go_simp; rfl)); intro gb269 hg w4 hbox hb; have n0_ := Aside0.mk (below_step (qw HB) hb); have n1_ := Aside0.mk (hbox); have n2_ := Aside0.mk ((by rw [hg]; exact (below_size (qw HB)) : w.heap.size ≤ gb269)); have n3_ := Aside0.mk ((by rw [hg]; exact (below_size (qw HB)) : w.heap.size ≤ gb269)); clear HB; have HB := n0_; have BK269 := n1_; have GW269 := n2_; have GE269 := n3_; clear n0_ n1_ n2_ n3_; clear hb hbox hg))
 have n0_ := Aside0.mk (blk_drew BK269.out)
 have n1_ := Aside0.mk (below_drew1 HB.out)
 clear BK269
 clear HB
 have BK269 := n0_
 have HB := n1_
 clear n0_ n1_
 refine start_ (n := 10) (S := fun w' => w'.cell? ⟨gb269, 0, none⟩ = some (.int .i64 a0_0) ∧ w'.cell? ⟨gb269, 1, none⟩ = some (.int .i64 a0_1) ∧ w'.cell? ⟨gb269, 2, none⟩ = some (.int .i64 a0_2)) (ds := []) #[false, false, false, false, false, false, false, false, false, false] (by kernel_rfl) rfl rfl ⟨bc BK269 0, bc BK269 1, bc BK269 2⟩ (fun hHeld => ?_); refine with_tabW impl_Clue_fits.tab1 impl_Clue_fits.bits1 (fun HT_ HW_ => ?_)
 generalize w4.drew = w5 at BK269 HB hHeld ⊢
 refine pure_ (i := 0) (N := some 5) (v := ?_) (a' := ?_) #[true, false, false, false, false, false, false, false, false, false] rfl rfl (any_of HT_.out (by kernel_rfl)) (fun _ _ _ h => h) (Or.inl ⟨by rfl, ?_⟩) ?_ ?_
 rotate_left
 ·
  intro w'
  go_simp
  with_reducible rfl
 rotate_left
 ·
  simp only [Act.put, List.setIfInBounds_toArray, List.set_cons_zero, List.set_cons_succ, i64_w, i32_w]
  rfl
 refine pure_ (i := 2) (N := some 7) (v := ?_) (a' := ?_) #[true, false, true, false, false, false, false, false, false, false] rfl rfl (any_of HT_.out (by kernel_rfl)) (fun _ _ _ h => h) (Or.inl ⟨by rfl, ?_⟩) ?_ ?_
 rotate_left
 ·
  intro w'
  go_simp
  with_reducible rfl
 rotate_left
 ·
  simp only [Act.put, List.setIfInBounds_toArray, List.set_cons_zero, List.set_cons_succ, i64_w, i32_w]
  rfl
 refine pure_ (i := 4) (N := some 9) (v := ?_) (a' := ?_) #[true, false, true, false, true, false, false, false, false, false] rfl rfl (any_of HT_.out (by kernel_rfl)) (fun _ _ _ h => h) (Or.inl ⟨by rfl, ?_⟩) ?_ ?_
 rotate_left
 ·
  intro w'
  go_simp
  with_reducible rfl
 rotate_left
 ·
  simp only [Act.put, List.setIfInBounds_toArray, List.set_cons_zero, List.set_cons_succ, i64_w, i32_w]
  rfl
 refine pure_ (i := 6) (N := some 11) (v := ?_) (a' := ?_) #[true, false, true, false, true, false, true, false, false, false] rfl rfl (any_of HT_.out (by kernel_rfl)) (fun _ _ _ h => h) (Or.inl ⟨by rfl, ?_⟩) ?_ ?_
 rotate_left
 ·
  intro w'
  go_simp
  with_reducible rfl
 rotate_left
 ·
  simp only [Act.put, List.setIfInBounds_toArray, List.set_cons_zero, List.set_cons_succ, i64_w, i32_w]
  rfl
 refine take_ (i := 1) (N := some 6) (v := ?_) (a' := ?_) #[true, true, true, false, true, false, true, false, false, false] rfl rfl (take_ofW HT_.out HW_.out (by kernel_rfl)) (fun _ _ _ h => h) (Or.inl ⟨by rfl, ?_⟩) hHeld ?_ ?_
 rotate_left
 ·
  rintro w' ⟨s0, s1, s2⟩
  go_simp
  with_reducible rfl
 rotate_left
 ·
  simp only [Act.put, List.setIfInBounds_toArray, List.set_cons_zero, List.set_cons_succ, i64_w, i32_w]
  rfl
 refine take_ (i := 3) (N := some 8) (v := ?_) (a' := ?_) #[true, true, true, true, true, false, true, false, false, false] rfl rfl (take_ofW HT_.out HW_.out (by kernel_rfl)) (fun _ _ _ h => h) (Or.inl ⟨by rfl, ?_⟩) hHeld ?_ ?_
 rotate_left
 ·
  rintro w' ⟨s0, s1, s2⟩
  go_simp
  with_reducible rfl
 rotate_left
 ·
  simp only [Act.put, List.setIfInBounds_toArray, List.set_cons_zero, List.set_cons_succ, i64_w, i32_w]
  rfl
 refine take_ (i := 7) (N := some 12) (v := ?_) (a' := ?_) #[true, true, true, true, true, false, true, true, false, false] rfl rfl (take_ofW HT_.out HW_.out (by kernel_rfl)) (fun _ _ _ h => h) (Or.inl ⟨by rfl, ?_⟩) hHeld ?_ ?_
 rotate_left
 ·
  rintro w' ⟨s0, s1, s2⟩
  go_simp
  with_reducible rfl
 rotate_left
 ·
  simp only [Act.put, List.setIfInBounds_toArray, List.set_cons_zero, List.set_cons_succ, i64_w, i32_w]
  rfl
 refine one_ (i := 5) (N := some 10) #[true, true, true, true, true, true, true, true, false, false] rfl rfl (one_of HT_.out (by kernel_rfl)) (by decide) (fun K hK => ?_)
 refine goes_ Tryz.func80 (by kernel_rfl) rfl #[.int .i64 a0_0, .int .i64 a0_1, .string a1] (by rfl) rfl rfl (by (try simp only [List.map_toArray, List.map_cons, List.map_nil]); first | done | rfl | (simp only [List.length_drop, List.length_take]; rfl)) ?_
 with_reducible refine (impl_truth.calls k a0_0 a0_1 a1 t270 _ A3.out).mono ?_
 rintro e w6 ⟨rfl, hb⟩
 refine ⟨_, rfl, ?_⟩
 have n0_ := qbb BK269 hb
 have n1_ := Aside0.mk (below_step (qw HB) hb)
 clear BK269
 clear HB
 have BK269 := n0_
 have HB := n1_
 clear n0_ n1_
 (try clear hb)
 (try clear hb2)
 (try clear hk)
 (try clear hi)
 refine hK.out _ _ ⟨bc BK269 0, bc BK269 1, bc BK269 2⟩ (fun hHeld => ?_)
 clear hK K
 refine norm_ (a' := ?_) ?_ ?_
 rotate_left
 ·
  show Act.put _ (some 10) _ = _
  simp only [Act.put, List.setIfInBounds_toArray, List.set_cons_zero, List.set_cons_succ, i64_w, i32_w]
  rfl
 refine pure_ (i := 8) (N := some 13) (v := ?_) (a' := ?_) #[true, true, true, true, true, true, true, true, true, false] rfl rfl (any_of HT_.out (by kernel_rfl)) (fun _ _ _ h => h) (Or.inl ⟨by rfl, ?_⟩) ?_ ?_
 rotate_left
 ·
  intro w'
  go_simp
  with_reducible rfl
 rotate_left
 ·
  simp only [Act.put, List.setIfInBounds_toArray, List.set_cons_zero, List.set_cons_succ, i64_w, i32_w]
  rfl
 refine pure_ (i := 9) (N := some 4) (v := ?_) (a' := ?_) #[true, true, true, true, true, true, true, true, true, true] rfl rfl (any_of HT_.out (by kernel_rfl)) (fun _ _ _ h => h) (Or.inl ⟨by rfl, ?_⟩) ?_ ?_
 rotate_left
 ·
  intro w'
  go_simp
  with_reducible rfl
 rotate_left
 ·
  simp only [Act.put, List.setIfInBounds_toArray, List.set_cons_zero, List.set_cons_succ, i64_w, i32_w]
  rfl
 refine done_ (done_of HT_.out (by kernel_rfl)) ?_
 try go_wp2
 go_ret
 exact ⟨by first | rfl | (simp [errW_none, errW_some] <;> rfl) | (simp [*, errW_none, errW_some] <;> rfl), qw HB⟩


/-! ### impl_fitting_1_1: function 70 -/
set_option maxHeartbeats 2000000 in
/-- the inner closure of fitting: the number lies in block B -/
theorem impl_fitting_1_1.calls (k : Nat) (B : Nat) (x : S65) (num : ByteArray) (b : Bool) (W : World) (hB : B < W.heap.size) (h0 : W.cell? ⟨B, 0, none⟩ = some (.string num)) (hg : Glob W)
    (h : impl_Clue_fits.f k x.f0 x.f1 x.f2 num = some (!b)) :
    Calls Tryz.prog 70 #[.agg #[.int .i64 x.f0, .int .i64 x.f1, .int .i64 x.f2], .pointer (some ⟨B, 0, none⟩)] W fun e w' => e = .returned (.bool b) ∧ Below W.heap.size W w' := by
  have hcall := fun w hw => impl_Clue_fits.calls k x.f0 x.f1 x.f2 num (!b) w h hw
  clear h
  have HG := Aside0.mk hg
  clear hg
  obtain ⟨x0, x1, x2⟩ := x
  go_enter Tryz.func70, Tryz.ntmps70
  go_wp2_with fail
  refine (hcall _ (Glob.below HG.out ((Below.refl _ W).alloc (Nat.le_refl _) _))).mono ?_
  rintro e w' ⟨rfl, hb⟩
  go_wp2
  go_ret
  exact ⟨by simp, ((Below.refl _ W).alloc (Nat.le_refl _) _).trans (hb.mono (by simp))⟩


/-! ### impl_fitting_1: function 69 -/
set_option maxHeartbeats 2000000 in
/-- the closure of fitting: the clues' slice lies in block B -/
theorem impl_fitting_1.calls (k : Nat) (B : Nat) (A : Option Addr) (c : Nat) (l : List S65) (num : ByteArray) (b : Bool) (W : World) (h0 : W.cell? ⟨B, 0, none⟩ = some (.slice A l.length c))
    (hr : Kd.C k65 W A l.length l) (hc : l.length ≤ c) (hbig : l.length ≤ 1048576) (hg : Glob W)
    (h : anyO (fun x => (impl_Clue_fits.f k x.f0 x.f1 x.f2 num).map (!·)) l = some (!b)) :
    Calls Tryz.prog 69 (#[.string num] ++ #[.pointer (some ⟨B, 0, none⟩)]) W fun e w' => e = .returned (.bool b) ∧ Below W.heap.size W w' := by
  have hb0 : Below W.heap.size W (W.alloc (.cells #[.string num] 9)) := (Below.refl _ W).alloc (Nat.le_refl _) _
  have hany := any_clue A c l 70 #[.pointer (some ⟨W.heap.size, 0, none⟩)] _ (W.alloc (.cells #[.string num] 9)) (!b)
    (Kd.C_below hr hb0) hc (by omega) (enters_of Tryz.func70 (by kernel_rfl) rfl)
    (fun V x b' hV hx => impl_fitting_1_1.calls k W.heap.size x num b' V (by have := hV.size; simp at this; omega) ((hV.cell (p := ⟨W.heap.size, 0, none⟩) (by simp)).trans (by simp)) ((hg.below hb0).below hV) (by obtain ⟨y, hy, hz⟩ := Option.map_eq_some_iff.mp hx; rw [hy, ← hz]; simp)) h
  have h1 : (W.alloc (.cells #[.string num] 9)).cell? ⟨B, 0, none⟩ = some (.slice A l.length c) := (hb0.cell (World.block_lt_of_cell? W _ h0)).trans h0
  clear h hr hg h0
  go_enter Tryz.func69, Tryz.ntmps69
  go_wp2_with fail
  refine hany.mono ?_
  rintro e w' ⟨rfl, hb⟩
  clear hany
  go_wp2
  go_ret
  exact ⟨by simp, hb0.trans (hb.mono hb0.size)⟩


/-! ### impl_fitting: function 48 -/
/-- those of which a function says yes -/
def filterO (pf : ByteArray → Option Bool) : List ByteArray → Option (List ByteArray)
  | [] => some []
  | x :: xs => (pf x).bind fun b => (filterO pf xs).bind fun r => some (if b = true then x :: r else r)
theorem filterO_spec (pf : ByteArray → Option Bool) : ∀ (l r : List ByteArray), filterO pf l = some r → (∀ x ∈ l, pf x = some ((pf x).getD false)) ∧ r = l.filter fun x => (pf x).getD false
  | [], r, h => by simp [filterO] at h; subst h; simp
  | x :: xs, r, h => by
    simp only [filterO] at h
    obtain ⟨b, hb, h⟩ := Option.bind_eq_some_iff.mp h
    obtain ⟨s, hs, h⟩ := Option.bind_eq_some_iff.mp h
    obtain ⟨h1, h2⟩ := filterO_spec pf xs s hs
    have e := Option.some.inj h
    refine ⟨?_, ?_⟩
    · intro y hy
      rcases List.mem_cons.mp hy with rfl | hy
      · rw [hb]; rfl
      · exact h1 y hy
    · rw [List.filter_cons, hb, ← h2, ← e]; rfl
theorem filterO_mono (pf pg : ByteArray → Option Bool) (h : ∀ x, LeO (pf x) (pg x)) : ∀ l, LeO (filterO pf l) (filterO pg l)
  | [] => LeO.refl _
  | x :: xs => by
    simp only [filterO]
    exact LeO.bind (h x) (fun b => LeO.bind (filterO_mono pf pg h xs) (fun r => LeO.refl _))
theorem anyO_mono {α : Type} (pf pg : α → Option Bool) (h : ∀ x, LeO (pf x) (pg x)) : ∀ l, LeO (anyO pf l) (anyO pg l)
  | [] => LeO.refl _
  | x :: xs => by
    simp only [anyO]
    exact LeO.bind (h x) (fun b => LeO.ite (LeO.refl _) (anyO_mono pf pg h xs))
theorem map_mono {α β : Type} {f : α → β} {o p : Option α} (h : LeO o p) : LeO (o.map f) (p.map f) := fun r hr => by
  obtain ⟨a, ha, e⟩ := Option.map_eq_some_iff.mp hr
  rw [h a ha, ← e]; rfl
/-- do all clues fit a number -/
def fitsAllO (k : Nat) (l : List S65) (num : ByteArray) : Option Bool := (anyO (fun x => (impl_Clue_fits.f k x.f0 x.f1 x.f2 num).map (!·)) l).map (!·)
def impl_fitting.f (k : Nat) (a0 : Int) (l1 : List S65) : Option (List ByteArray) :=
  if l1.length ≤ 1048576 then (impl_allTexts.f k 10 a0).bind fun t => if t ≠ [] ∧ t.length ≤ 1048576 then filterO (fitsAllO k l1) t else none else none
theorem impl_fitting.mono : ∀ a0 l1 k, LeO (impl_fitting.f k a0 l1) (impl_fitting.f (k + 1) a0 l1) := by
  intro a0 l1 k
  unfold impl_fitting.f
  exact LeO.ite (LeO.bind (impl_allTexts.mono _ _ _) (fun t => LeO.ite (filterO_mono _ _ (fun x => map_mono (anyO_mono _ _ (fun c => map_mono (impl_Clue_fits.mono _ _ _ _ _)) _)) _) (LeO.refl _))) (LeO.refl _)
set_option maxHeartbeats 4000000 in
theorem impl_fitting.calls (k : Nat) (a0 : Int) (A1 : Option Addr) (c1 : Nat) (l1 : List S65) (r : List ByteArray) (w : World) (hr1 : Kd.C k65 w A1 l1.length l1) (hc1 : l1.length ≤ c1) (h : impl_fitting.f k a0 l1 = some r) (hglob : Glob w := by first | exact Glob.below HG.out (by repeat (first | (with_reducible first | exact HB.out | apply below_alloc | apply pw_below_drewN | apply below_drew1 | refine below_set ?_ (Aside0.out (by assumption))) | exact HB.out)) | assumption) :
    Calls Tryz.prog 48 #[.int .i64 a0, .slice A1 l1.length c1] w fun e w' => ∃ v0_ : Value, e = .returned (v0_) ∧ Kd.R Kd.string 9 w' w.heap.size (fun _ => True) v0_ r ∧ Below w.heap.size w w' := by
  unfold impl_fitting.f at h
  split at h
  · rename_i hbig
    replace h := Option.bind_eq_some_iff.mp h
    obtain ⟨t, ht, h⟩ := h
    split at h
    · rename_i hcond
      obtain ⟨hdef, e⟩ := filterO_spec _ _ _ h
      subst e
      have hb0 : Below w.heap.size w (w.alloc (.cells #[.slice A1 l1.length c1] 28)) := (Below.refl _ w).alloc (Nat.le_refl _) _
      have hcell0 : (w.alloc (.cells #[.slice A1 l1.length c1] 28)).cell? ⟨w.heap.size, 0, none⟩ = some (.slice A1 l1.length c1) := by simp
      have hl0 : w.heap.size < (w.alloc (.cells #[.slice A1 l1.length c1] 28)).heap.size := by simp
      have hall := impl_allTexts.calls k 10 a0 t (w.alloc (.cells #[.slice A1 l1.length c1] 28)) ht
      have hpick : ∀ (w2 : World) (A2 : Option Addr) (c2 : Nat), Below (w.alloc (.cells #[.slice A1 l1.length c1] 28)).heap.size (w.alloc (.cells #[.slice A1 l1.length c1] 28)) w2 → Kd.C Kd.string w2 A2 t.length t → t.length ≤ c2 → _ := fun w2 A2 c2 hb2 hC2 hc2 =>
        picked_any A2 c2 t 69 #[.pointer (some ⟨w.heap.size, 0, none⟩)] (fitsAllO k l1) (fun x => (fitsAllO k l1 x).getD false) w2 hC2 hc2 hcond.1 hcond.2 (enters_of Tryz.func69 (by kernel_rfl) rfl) hdef
          (fun W x b hW hx => by
            obtain ⟨y, hy, hz⟩ := Option.map_eq_some_iff.mp hx
            have hbW : Below w.heap.size w W := hb0.trans ((hb2.trans (hW.mono hb2.size)).mono hb0.size)
            exact impl_fitting_1.calls k w.heap.size A1 c1 l1 x b W ((hW.cell (p := ⟨w.heap.size, 0, none⟩) (Nat.lt_of_lt_of_le hl0 hb2.size)).trans ((hb2.cell (p := ⟨w.heap.size, 0, none⟩) hl0).trans hcell0)) (Kd.C_below hr1 hbW) hc1 hbig (hglob.below hbW) (by rw [hy, ← hz]; simp))
      have HP := Aside0.mk hpick
      clear hr1 hglob h hdef ht hcell0 hpick
      go_enter Tryz.func48, Tryz.ntmps48
      go_wp2_with fail
      refine hall.mono ?_
      rintro e w2 ⟨v, rfl, hR, hb2⟩
      clear hall
      obtain ⟨A2, c2, hv, hc2, hC2⟩ := Kd.R_reads hR
      subst hv
      have hp2 := HP.out w2 A2 c2 hb2 hC2 hc2
      clear hR hC2 HP
      go_wp2_with fail
      refine hp2.mono ?_
      rintro e w3 ⟨v, rfl, hR, hb3⟩
      clear hp2
      go_wp2
      go_ret
      have hb4 := hb0.trans (hb2.mono hb0.size)
      exact ⟨_, rfl, Kd.R_lower hR hb4.size, hb4.trans (hb3.mono hb4.size)⟩
    · exact absurd h (by simp)
  · exact absurd h (by simp)

/-! ### impl_Puzzle_solutions: function 50 -/
def impl_Puzzle_solutions.f (k : Nat) (a0_0 : Int) (l0_1 : List (S65)) : Option (List ByteArray) := (impl_fitting.f k a0_0 l0_1).bind fun t272 => (some t272)
theorem impl_Puzzle_solutions.mono : ∀ a0 a1 k, LeO (impl_Puzzle_solutions.f k a0 a1) (impl_Puzzle_solutions.f (k + 1) a0 a1) := by
 intro a0 a1 k
 unfold impl_Puzzle_solutions.f
 repeat' first
   | (with_reducible exact impl_fitting.mono _ _ _)
   | (with_reducible exact LeO.refl _)
   | (with_reducible exact LeO.none _)
   | (with_reducible refine LeO.ite ?_ ?_)
   | (with_reducible refine LeO.bind ?_ (fun _ => ?_))
   | exact impl_fitting.mono _ _ _
   | exact LeO.none _
   | refine LeO.ite ?_ ?_
   | refine LeO.bind ?_ (fun _ => ?_)
set_option maxHeartbeats 8000000 in
set_option maxRecDepth 100000 in
theorem impl_Puzzle_solutions.calls (k : Nat) (a0_0 : Int) (A0_1 : Option Addr) (c0_1 : Nat) (l0_1 : List (S65)) (r : List ByteArray) (w : World) (hr0_1 : Kd.C k65 w A0_1 l0_1.length l0_1) (hc0_1 : l0_1.length ≤ c0_1) (h : impl_Puzzle_solutions.f k a0_0 l0_1 = some r) (hglob : Glob w := by first | exact Glob.below HG.out (by repeat (first | (with_reducible first | exact HB.out | apply below_alloc | apply pw_below_drewN | apply below_drew1 | refine below_set ?_ (Aside0.out (by assumption))) | exact HB.out)) | assumption) :
  Calls Tryz.prog 50 #[.agg #[.int .i64 a0_0, .slice A0_1 l0_1.length c0_1]] w fun e w' => ∃ v0_ : Value, e = .returned (v0_) ∧ Kd.R Kd.string 9 w' w.heap.size (fun _ => True) v0_ r ∧ Below w.heap.size w w' := by
 have HG := Aside0.mk hglob
 clear hglob
 have hu30 := Tryz.underlying30
 have HR0_1 := Aside0.mk hr0_1
 have HC0_1 := Aside0.mk hc0_1
 clear hr0_1 hc0_1
 have HB := Aside0.mk (Below.refl w.heap.size w)
 have H : ((impl_fitting.f k a0_0 l0_1).bind fun t272 => (some t272)) = some r := h
 clear h
 replace H := Option.bind_eq_some_iff.mp H
 obtain ⟨t272, A20, H⟩ := H
 replace H : (some t272) = some r := H
 have A2 := Aside0.mk A20
 clear A20
 obtain rfl := Option.some.inj H
 go_enter Tryz.func50, Tryz.ntmps50
 go_wp2_with (first | ((with_reducible refine gate_dst (N := 1) rfl ?_); refine box_event ?hg (N := 1) ?hd (cs := #[.int .i64 a0_0, .slice A0_1 l0_1.length c0_1]) (t := 30) ?hr ?_; (case hd => rfl); (case hg => rfl); (case hr => first | (go_simp; done) | (go_simp; rfl)); intro gb271 hg w3 hbox hb; have n0_ := Aside0.mk (below_step (qw HB) hb); have n1_ := Aside0.mk (hbox); have n2_ := Aside0.mk ((by rw [hg]; exact (below_size (qw HB)) : w.heap.size ≤ gb271)); have n3_ := Aside0.mk ((by rw [hg]; exact (below_size (qw HB)) : w.heap.size ≤ gb271)); clear HB; have HB := n0_; have BK271 := n1_; have GW271 := n2_; have GE271 := n3_; clear n0_ n1_ n2_ n3_; clear hb hbox hg; have hcz4_0 : w3.cell? ⟨gb271, 0, none⟩ = some (.int .i64 a0_0) := bc BK271 0; have hcz4_1 : w3.cell? ⟨gb271, 1, none⟩ = some (.slice A0_1 l0_1.length c0_1) := bc BK271 1; have hfz4_0 := blk_frozen BK271.out 0; have hfz4_1 := blk_frozen BK271.out 1) | ((with_reducible refine gate_callee (f := 48) rfl ?_); refine goesL_ (some 7) rfl rfl Tryz.func48 (by kernel_rfl) rfl #[.int .i64 a0_0, .slice A0_1 l0_1.length c0_1] rfl (by (try simp only [List.map_toArray, List.map_cons, List.map_nil]); first | done | rfl | (simp only [List.length_drop, List.length_take]; rfl)) ?_; (with_reducible refine (impl_fitting.calls k a0_0 _ _ l0_1 t272 _ ?side1 ?side2 A2.out).mono ?_); (case side1 => repeat (first | exact (Kd.C_below HR0_1.out HB.out) | (with_reducible refine Kd.C_alloc ?_ _) | (with_reducible refine Kd.C_drewN ?_ _) | (with_reducible refine Kd.C_drew ?_))); (case side2 => exact HC0_1.out); rintro e w5 ⟨v273, rfl, ho0, hb⟩; refine ⟨_, rfl, ?_⟩; have n0_ := Aside0.mk (Kd.R_lower ho0 (below_size (qw HB))); have n1_ := qbb BK271 hb; have n2_ := Aside0.mk (below_step (qw HB) hb); clear BK271; clear HB; have HO274 := n0_; have BK271 := n1_; have HB := n2_; clear n0_ n1_ n2_; (try clear hb); (try clear hb2); (try clear hk); (try clear hi); (try clear ho0)))
 go_ret
 exact ⟨_, by first | rfl | (simp [errW_none, errW_some] <;> rfl) | (simp [*, errW_none, errW_some] <;> rfl), by (with_reducible repeat (first | apply Kd.R_alloc | apply Kd.R_drewN | apply Kd.R_drew)); exact HO274.out, qw HB⟩

/-! ### impl_Solutions: function 32 -/
def impl_Solutions.f (k : Nat) (a0_0 : Int) (l0_1 : List (S65)) : Option (List ByteArray × Bool) := (impl_IsPuzzle.f a0_0 l0_1).bind fun t276 => (if t276 = true then ((impl_Puzzle_solutions.f k a0_0 l0_1).bind fun t277 => (some (t277, true))) else (some (([] : List ByteArray), false)))
theorem impl_Solutions.mono : ∀ a0 a1 k, LeO (impl_Solutions.f k a0 a1) (impl_Solutions.f (k + 1) a0 a1) := by
 intro a0 a1 k
 unfold impl_Solutions.f
 repeat' first
   | (with_reducible exact impl_Puzzle_solutions.mono _ _ _)
   | (with_reducible exact LeO.refl _)
   | (with_reducible exact LeO.none _)
   | (with_reducible refine LeO.ite ?_ ?_)
   | (with_reducible refine LeO.bind ?_ (fun _ => ?_))
   | exact impl_Puzzle_solutions.mono _ _ _
   | exact LeO.none _
   | refine LeO.ite ?_ ?_
   | refine LeO.bind ?_ (fun _ => ?_)
set_option maxHeartbeats 8000000 in
set_option maxRecDepth 100000 in
theorem impl_Solutions.calls (k : Nat) (a0_0 : Int) (A0_1 : Option Addr) (c0_1 : Nat) (l0_1 : List (S65)) (r1 : List ByteArray) (r2 : Bool) (w : World) (hr0_1 : Kd.C k65 w A0_1 l0_1.length l0_1) (hc0_1 : l0_1.length ≤ c0_1) (h : impl_Solutions.f k a0_0 l0_1 = some (r1, r2)) (hglob : Glob w := by first | exact Glob.below HG.out (by repeat (first | (with_reducible first | exact HB.out | apply below_alloc | apply pw_below_drewN | apply below_drew1 | refine below_set ?_ (Aside0.out (by assumption))) | exact HB.out)) | assumption) :
  Calls Tryz.prog 32 #[.agg #[.int .i64 a0_0, .slice A0_1 l0_1.length c0_1]] w fun e w' => ∃ v0_ : Value, e = .returned (.tuple #[v0_, .bool r2]) ∧ Kd.R Kd.string 9 w' w.heap.size (fun _ => True) v0_ r1 ∧ Below w.heap.size w w' := by
 have HG := Aside0.mk hglob
 clear hglob
 have hu30 := Tryz.underlying30
 have HR0_1 := Aside0.mk hr0_1
 have HC0_1 := Aside0.mk hc0_1
 clear hr0_1 hc0_1
 have HB := Aside0.mk (Below.refl w.heap.size w)
 have H : ((impl_IsPuzzle.f a0_0 l0_1).bind fun t276 => (if t276 = true then ((impl_Puzzle_solutions.f k a0_0 l0_1).bind fun t277 => (some (t277, true))) else (some (([] : List ByteArray), false)))) = some (r1, r2) := h
 clear h
 replace H := Option.bind_eq_some_iff.mp H
 obtain ⟨t276, A20, H⟩ := H
 replace H : (if t276 = true then ((impl_Puzzle_solutions.f k a0_0 l0_1).bind fun t277 => (some (t277, true))) else (some (([] : List ByteArray), false))) = some (r1, r2) := H
 have A2 := Aside0.mk A20
 clear A20
 by_cases c3 : t276 = true
 ·
  subst c3
  have H1 : ((impl_Puzzle_solutions.f k a0_0 l0_1).bind fun t277 => (some (t277, true))) = some (r1, r2) := by rw [if_pos rfl] at H; exact H
  clear H
  have H := H1
  clear H1
  replace H := Option.bind_eq_some_iff.mp H
  obtain ⟨t277, A40, H⟩ := H
  replace H : (some (t277, true)) = some (r1, r2) := H
  have A4 := Aside0.mk A40
  clear A40
  simp only [Option.some.injEq, Prod.mk.injEq] at H
  obtain ⟨rfl, rfl⟩ := H
  go_enter Tryz.func32, Tryz.ntmps32
  go_wp2_with (first | ((with_reducible refine gate_dst (N := 1) rfl ?_); refine box_event ?hg (N := 1) ?hd (cs := #[.int .i64 a0_0, .slice A0_1 l0_1.length c0_1]) (t := 30) ?hr ?_; (case hd => rfl); (case hg => rfl); (case hr => first | (go_simp; done) | (go_simp; rfl)); intro gb275 hg w5 hbox hb; have n0_ := Aside0.mk (below_step (qw HB) hb); have n1_ := Aside0.mk (hbox); have n2_ := Aside0.mk ((by rw [hg]; exact (below_size (qw HB)) : w.heap.size ≤ gb275)); have n3_ := Aside0.mk ((by rw [hg]; exact (below_size (qw HB)) : w.heap.size ≤ gb275)); clear HB; have HB := n0_; have BK275 := n1_; have GW275 := n2_; have GE275 := n3_; clear n0_ n1_ n2_ n3_; clear hb hbox hg; have hcz6_0 : w5.cell? ⟨gb275, 0, none⟩ = some (.int .i64 a0_0) := bc BK275 0; have hcz6_1 : w5.cell? ⟨gb275, 1, none⟩ = some (.slice A0_1 l0_1.length c0_1) := bc BK275 1; have hfz6_0 := blk_frozen BK275.out 0; have hfz6_1 := blk_frozen BK275.out 1) | ((with_reducible refine gate_callee (f := 47) rfl ?_); refine goesL_ (some 5) rfl rfl Tryz.func47 (by kernel_rfl) rfl #[.agg #[.int .i64 a0_0, .slice A0_1 l0_1.length c0_1]] rfl (by (try simp only [List.map_toArray, List.map_cons, List.map_nil]); first | done | rfl | (simp only [List.length_drop, List.length_take]; rfl)) ?_; (with_reducible refine (impl_IsPuzzle.calls a0_0 _ _ l0_1 true _ ?side1 ?side2 A2.out).mono ?_); (case side1 => repeat (first | exact (Kd.C_below HR0_1.out HB.out) | (with_reducible refine Kd.C_alloc ?_ _) | (with_reducible refine Kd.C_drewN ?_ _) | (with_reducible refine Kd.C_drew ?_))); (case side2 => exact HC0_1.out); rintro e w7 ⟨rfl, hb⟩; refine ⟨_, rfl, ?_⟩; have n0_ := qbb BK275 hb; have n1_ := Aside0.mk (below_step (qw HB) hb); clear BK275; clear HB; have BK275 := n0_; have HB := n1_; clear n0_ n1_; (try clear hb); (try clear hb2); (try clear hk); (try clear hi); have hcz8_0 : w7.cell? ⟨gb275, 0, none⟩ = some (.int .i64 a0_0) := bc BK275 0; have hcz8_1 : w7.cell? ⟨gb275, 1, none⟩ = some (.slice A0_1 l0_1.length c0_1) := bc BK275 1; have hfz8_0 := blk_frozen BK275.out 0; have hfz8_1 := blk_frozen BK275.out 1) | ((with_reducible refine gate_callee (f := 50) rfl ?_); refine goesL_ (some 8) rfl rfl Tryz.func50 (by kernel_rfl) rfl #[.agg #[.int .i64 a0_0, .slice A0_1 l0_1.length c0_1]] rfl (by (try simp only [List.map_toArray, List.map_cons, List.map_nil]); first | done | rfl | (simp only [List.length_drop, List.length_take]; rfl)) ?_; (with_reducible refine (impl_Puzzle_solutions.calls k a0_0 _ _ l0_1 t277 _ ?side1 ?side2 A4.out).mono ?_); (case side1 => repeat (first | exact (Kd.C_below HR0_1.out HB.out) | (with_reducible refine Kd.C_alloc ?_ _) | (with_reducible refine Kd.C_drewN ?_ _) | (with_reducible refine Kd.C_drew ?_))); (case side2 => exact HC0_1.out); rintro e w9 ⟨v278, rfl, ho0, hb⟩; refine ⟨_, rfl, ?_⟩; have n0_ := Aside0.mk (Kd.R_lower ho0 (below_size (qw HB))); have n1_ := qbb BK275 hb; have n2_ := Aside0.mk (below_step (qw HB) hb); clear BK275; clear HB; have HO279 := n0_; have BK275 := n1_; have HB := n2_; clear n0_ n1_ n2_; (try clear hb); (try clear hb2); (try clear hk); (try clear hi); (try clear ho0)))
  go_ret2
  exact ⟨_, by first | rfl | (simp [errW_none, errW_some] <;> rfl) | (simp [*, errW_none, errW_some] <;> rfl), by (with_reducible repeat (first | apply Kd.R_alloc | apply Kd.R_drewN | apply Kd.R_drew)); exact HO279.out, qw HB⟩
 ·
  replace c3 := Bool.eq_false_iff.mpr c3
  subst c3
  have H1 : (some (([] : List ByteArray), false)) = some (r1, r2) := by rw [if_neg (show ¬ (false = true) by decide)] at H; exact H
  clear H
  have H := H1
  clear H1
  simp only [Option.some.injEq, Prod.mk.injEq] at H
  obtain ⟨rfl, rfl⟩ := H
  go_enter Tryz.func32, Tryz.ntmps32
  go_wp2_with (first | ((with_reducible refine gate_dst (N := 1) rfl ?_); refine box_event ?hg (N := 1) ?hd (cs := #[.int .i64 a0_0, .slice A0_1 l0_1.length c0_1]) (t := 30) ?hr ?_; (case hd => rfl); (case hg => rfl); (case hr => first | (go_simp; done) | (go_simp; rfl)); intro gb275 hg w10 hbox hb; have n0_ := Aside0.mk (below_step (qw HB) hb); have n1_ := Aside0.mk (hbox); have n2_ := Aside0.mk ((by rw [hg]; exact (below_size (qw HB)) : w.heap.size ≤ gb275)); have n3_ := Aside0.mk ((by rw [hg]; exact (below_size (qw HB)) : w.heap.size ≤ gb275)); clear HB; have HB := n0_; have BK275 := n1_; have GW275 := n2_; have GE275 := n3_; clear n0_ n1_ n2_ n3_; clear hb hbox hg; have hcz11_0 : w10.cell? ⟨gb275, 0, none⟩ = some (.int .i64 a0_0) := bc BK275 0; have hcz11_1 : w10.cell? ⟨gb275, 1, none⟩ = some (.slice A0_1 l0_1.length c0_1) := bc BK275 1; have hfz11_0 := blk_frozen BK275.out 0; have hfz11_1 := blk_frozen BK275.out 1) | ((with_reducible refine gate_callee (f := 47) rfl ?_); refine goesL_ (some 5) rfl rfl Tryz.func47 (by kernel_rfl) rfl #[.agg #[.int .i64 a0_0, .slice A0_1 l0_1.length c0_1]] rfl (by (try simp only [List.map_toArray, List.map_cons, List.map_nil]); first | done | rfl | (simp only [List.length_drop, List.length_take]; rfl)) ?_; (with_reducible refine (impl_IsPuzzle.calls a0_0 _ _ l0_1 false _ ?side1 ?side2 A2.out).mono ?_); (case side1 => repeat (first | exact (Kd.C_below HR0_1.out HB.out) | (with_reducible refine Kd.C_alloc ?_ _) | (with_reducible refine Kd.C_drewN ?_ _) | (with_reducible refine Kd.C_drew ?_))); (case side2 => exact HC0_1.out); rintro e w12 ⟨rfl, hb⟩; refine ⟨_, rfl, ?_⟩; have n0_ := qbb BK275 hb; have n1_ := Aside0.mk (below_step (qw HB) hb); clear BK275; clear HB; have BK275 := n0_; have HB := n1_; clear n0_ n1_; (try clear hb); (try clear hb2); (try clear hk); (try clear hi)))
  go_ret2
  exact ⟨_, by first | rfl | (simp [errW_none, errW_some] <;> rfl) | (simp [*, errW_none, errW_some] <;> rfl), by first | exact Kd.R_nil _ _ _ _ _ | exact Kd.N_nil _ _ _ _ _ | exact Kd.V_nil _ _ _ _ _ | exact Kd.Q_nil _ _ _ _ _ | exact Kd.S_nil _ _ _ _ _, qw HB⟩

end Go.Proofs.YtbgkaabbpdhhlaaGreatDoor.PA
