-- printed by xprint.py: the kit's print.py with given contracts
import Derived.Test.YtbkincjjafioaaaDoorPAx0
import Derived.Test.YtbkincjjafioaaaDoorPAx1
import Derived.Test.YtbkincjjafioaaaDoorPAx6
namespace Go.Proofs.YtbkincjjafioaaaDoor.PA
open Go.RowKit Go.Proofs.YtbkincjjafioaaaDoorW.PrintWords Go.Proofs.YtbkincjjafioaaaDoorW.PrintLast Go.Proofs.YtbkincjjafioaaaDoorW.PrintMore
attribute [local go_sem] max2_int min2_int max_two min_two max_three min_three max_four min_four   -- for this text's walks alone
set_option linter.unusedVariables false
set_option linter.unusedSimpArgs false

/-- A state of type 34 at block g of W; what its slices lead to came in by w0. -/
def IsS34 (w0 W : World) (g : Nat) (f0 : Int) (f1 : List Int) : Prop := ∃ A1 c1, W.heap[g]? = some (.cells #[.int .i64 f0, .slice A1 f1.length c1] 34 (0, 0)) ∧ w0.heap.size ≤ g ∧ Kd.C (Kd.int .i64) w0 A1 f1.length f1
theorem IsS34.grown {w0 W : World} {g : Nat} {f0 : Int} {f1 : List Int} {W1 : World} {row : Option Nat} (h : IsS34 w0 W g f0 f1) (hw : W.grownBy W1 row) (hne : some g ≠ row) : IsS34 w0 W1 g f0 f1 := by
  obtain ⟨A1, c1, hb, hg, hr1⟩ := h
  exact ⟨A1, c1, blk_grown hb hw hne, hg, hr1⟩
theorem IsS34.own_neN {w0 W : World} {g : Nat} {f0 : Int} {f1 : List Int} {α : Type} {d : Kd α} {e : Nat} {base : Nat} {ok : Nat → Prop} {v : Value} {xs : List α} (h : IsS34 w0 W g f0 f1) (ho : Kd.N d e W base ok v xs) (ht : e ≠ 34) : some g ≠ v.ownBlock := by
  obtain ⟨A1, c1, hb, hg, hr1⟩ := h
  exact Kd.N_ne ho hb ht
theorem IsS34.fresh {w0 W : World} {g : Nat} {f0 : Int} {f1 : List Int} (h : IsS34 w0 W g f0 f1) : ∀ k, W.heap.size ≤ k → k ≠ g := by
  obtain ⟨A1, c1, hb, hg, hr1⟩ := h
  exact Kd.freshB hb
theorem IsS34.kept {w0 W : World} {g : Nat} {f0 : Int} {f1 : List Int} {W1 : World} {S : Nat → Prop} (h : IsS34 w0 W g f0 f1) (hk : Kept W W1 S) (hne : ¬ S g) : IsS34 w0 W1 g f0 f1 := by
  obtain ⟨A1, c1, hb, hg, hr1⟩ := h
  exact ⟨A1, c1, blk_kept hb hk hne, hg, hr1⟩
theorem IsS34.below {w0 W : World} {g : Nat} {f0 : Int} {f1 : List Int} {W1 : World} (h : IsS34 w0 W g f0 f1) (hw : Below W.heap.size W W1) : IsS34 w0 W1 g f0 f1 := h.grown (grown_of_below hw none) (by simp)
theorem IsS34.alloc {w0 W : World} {g : Nat} {f0 : Int} {f1 : List Int} (h : IsS34 w0 W g f0 f1) (o : Obj) : IsS34 w0 (W.alloc o) g f0 f1 := h.below (below_alloc (Below.refl _ _) o)
theorem IsS34.drewN {w0 W : World} {g : Nat} {f0 : Int} {f1 : List Int} (h : IsS34 w0 W g f0 f1) (m : Nat) : IsS34 w0 (W.drewN m) g f0 f1 := h
theorem IsS34.drew {w0 W : World} {g : Nat} {f0 : Int} {f1 : List Int} (h : IsS34 w0 W g f0 f1) : IsS34 w0 W.drew g f0 f1 := h
theorem IsS34.at_ {w0 W : World} {g : Nat} {f0 : Int} {f1 : List Int} {w' : World} {m : Nat} (hq : W.drewN m = w') (h : IsS34 w0 W g f0 f1) : IsS34 w0 w' g f0 f1 := by subst hq; exact IsS34.drewN h m
theorem IsS34.apart {w0 W : World} {g : Nat} {f0 : Int} {f1 : List Int} {α : Type} {d : Kd α} {e : Nat} {base : Nat} {ok : Nat → Prop} {v : Value} {xs : List α} (h : IsS34 w0 W g f0 f1) (ho : d.R e W base ok v xs) (ht : ∀ q, q ∈ e :: d.E → q ≠ 34) : d.R e W base (fun k => ok k ∧ k ≠ g) v xs := by
  obtain ⟨A1, c1, hb, hg, hr1⟩ := h
  exact Kd.R_types ho hb ht
theorem IsS34.own_ne {w0 W : World} {g : Nat} {f0 : Int} {f1 : List Int} {α : Type} {d : Kd α} {e : Nat} {base : Nat} {ok : Nat → Prop} {v : Value} {xs : List α} (h : IsS34 w0 W g f0 f1) (ho : d.R e W base ok v xs) (ht : e ≠ 34) : some g ≠ v.ownBlock := by
  obtain ⟨A1, c1, hb, hg, hr1⟩ := h
  exact Kd.R_ne ho hb ht
theorem IsS34.apartQ {w0 W : World} {g : Nat} {f0 : Int} {f1 : List Int} {α : Type} {d : Kd α} {e : Nat} {base : Nat} {ok : Nat → Prop} {v : Value} {xs : List α} (h : IsS34 w0 W g f0 f1) (ho : d.Q e W base ok v xs) (ht : ∀ q, q ∈ e :: d.E → q ≠ 34) : d.Q e W base (fun k => ok k ∧ k ≠ g) v xs := by
  obtain ⟨A1, c1, hb, hg, hr1⟩ := h
  exact Kd.Q_types ho hb ht
theorem IsS34.own_neQ {w0 W : World} {g : Nat} {f0 : Int} {f1 : List Int} {α : Type} {d : Kd α} {e : Nat} {base : Nat} {ok : Nat → Prop} {v : Value} {xs : List α} (h : IsS34 w0 W g f0 f1) (ho : d.Q e W base ok v xs) (ht : e ≠ 34) : some g ≠ v.ownBlock := by
  obtain ⟨A1, c1, hb, hg, hr1⟩ := h
  exact Kd.Q_ne ho hb ht
theorem IsS34.apartS {w0 W : World} {g : Nat} {f0 : Int} {f1 : List Int} {α : Type} {d : Kd α} {e : Nat} {base : Nat} {ok : Nat → Prop} {v : Value} {xs : List α} (h : IsS34 w0 W g f0 f1) (ho : d.S e W base ok v xs) (ht : ∀ q, q ∈ e :: d.E → q ≠ 34) : d.S e W base (fun k => ok k ∧ k ≠ g) v xs := by
  obtain ⟨A1, c1, hb, hg, hr1⟩ := h
  exact Kd.S_types ho hb ht
theorem IsS34.own_neS {w0 W : World} {g : Nat} {f0 : Int} {f1 : List Int} {α : Type} {d : Kd α} {e : Nat} {base : Nat} {ok : Nat → Prop} {v : Value} {xs : List α} (h : IsS34 w0 W g f0 f1) (ho : d.S e W base ok v xs) (ht : e ≠ 34) : some g ≠ v.ownBlock := by
  obtain ⟨A1, c1, hb, hg, hr1⟩ := h
  exact Kd.S_ne ho hb ht
theorem IsS34.lt {w0 W : World} {g : Nat} {f0 : Int} {f1 : List Int} (h : IsS34 w0 W g f0 f1) : g < W.heap.size := by
  obtain ⟨A1, c1, hb, hg, hr1⟩ := h
  exact blk_lt hb
theorem IsS34.ge {w0 W : World} {g : Nat} {f0 : Int} {f1 : List Int} (h : IsS34 w0 W g f0 f1) : w0.heap.size ≤ g := by
  obtain ⟨A1, c1, hb, hg, hr1⟩ := h
  exact hg
theorem IsS34.ne_blk {w0 W : World} {g : Nat} {f0 : Int} {f1 : List Int} {a : Nat} {cs : Array Value} {t : TypeId} {fr : Nat × Nat} (h : IsS34 w0 W g f0 f1) (hb2 : W.heap[a]? = some (.cells cs t fr)) (ht : t ≠ 34) : g ≠ a := by
  obtain ⟨A1, c1, hb, hg, hr1⟩ := h
  rintro rfl
  rw [hb] at hb2
  injection hb2 with hb2
  injection hb2 with _ ht2
  exact ht ht2.symm
theorem IsS34.far {w0 W : World} {g : Nat} {f0 : Int} {f1 : List Int} {p : Addr} (h : IsS34 w0 W g f0 f1) (hne : g ≠ p.block) (u : Value) : IsS34 w0 (W.setCell p u) g f0 f1 := by
  obtain ⟨A1, c1, hb, hg, hr1⟩ := h
  exact ⟨A1, c1, blk_far hb hne u, hg, hr1⟩
theorem cellS34_0 {W : World} {g : Nat} {A1 : Option Addr} {c1 : Nat} {f0 : Int} {f1 : List Int} (h : W.heap[g]? = some (.cells #[.int .i64 f0, .slice A1 f1.length c1] 34 (0, 0))) : W.cell? ⟨g, 0, none⟩ = some (.int .i64 f0) := (blk_cell h 0).trans rfl
theorem IsS34.set_0 {w0 W : World} {g : Nat} {f0 : Int} {f1 : List Int} (h : IsS34 w0 W g f0 f1) (x : Int) : IsS34 w0 (W.setCell ⟨g, 0, none⟩ (.int .i64 x)) g x f1 := by
  obtain ⟨A1, c1, hb, hg, hr1⟩ := h
  exact ⟨A1, c1, by simpa using blk_set hb 0 (.int .i64 x), hg, hr1⟩
theorem cellS34_1 {W : World} {g : Nat} {A1 : Option Addr} {c1 : Nat} {f0 : Int} {f1 : List Int} (h : W.heap[g]? = some (.cells #[.int .i64 f0, .slice A1 f1.length c1] 34 (0, 0))) : W.cell? ⟨g, 1, none⟩ = some (.slice A1 f1.length c1) := (blk_cell h 1).trans rfl
theorem IsS34.new (w0 W : World) (A1 : Option Addr) (c1 : Nat) (f0 : Int) (f1 : List Int) (hB : Below w0.heap.size w0 W) (hr1 : Kd.C (Kd.int .i64) w0 A1 f1.length f1) : IsS34 w0 (W.alloc (.cells #[.int .i64 f0, .slice A1 f1.length c1] 34)) W.heap.size f0 f1 := ⟨A1, c1, by simpa using heap_alloc_new W _, hB.size, hr1⟩

/-! ### impl_Scheme_check: function 44 -/
def impl_Scheme_check.f (s0_0 : Int) (s0_1 : List Int) (a1 : Int) : Option (Int × Int) := if s0_0 = 0 then (none) else (some (Int.tmod (wrap64 (s0_0 - (Int.tmod a1 s0_0))) s0_0, s0_0))
set_option maxHeartbeats 8000000 in
set_option maxRecDepth 100000 in
theorem impl_Scheme_check.calls (g : Nat) (s0_0 : Int) (s0_1 : List Int) (a1 : Int) (r1 : Int) (r2 : Int) (w0 w : World) (hI : IsS34 w0 w g s0_0 s0_1) (hB : Below w0.heap.size w0 w) (h : impl_Scheme_check.f s0_0 s0_1 a1 = some (r1, r2)) :
    Calls Tryd.prog 44 #[.pointer (some ⟨g, 0, none⟩), .int .i64 a1] w fun e w' => e = .returned (.int .i64 r1) ∧ IsS34 w0 w' g r2 s0_1 ∧ Below w0.heap.size w0 w' ∧ KeepBut w w' g none := by
  have HI0 := Aside0.mk hI
  have HK := Aside0.mk (KeepBut.refl w g none)
  have HL := Aside0.mk hB.size
  clear hI
  have HW0 := Aside0.mk hB.size
  have HB := Aside0.mk hB
  clear hB
  have H : (if s0_0 = 0 then (none) else (some (Int.tmod (wrap64 (s0_0 - (Int.tmod a1 s0_0))) s0_0, s0_0))) = some (r1, r2) := h
  clear h
  by_cases c3 : s0_0 = 0
  · rw [if_pos c3] at H
    exact absurd H (by simp)
  · rw [if_neg c3] at H
    have c3b0 : (s0_0 == 0) = false := beq_eq_false_iff_ne.mpr c3
    have c3b1 : (s0_0 != 0) = true := bne_iff_ne.mpr c3
    simp only [Option.some.injEq, Prod.mk.injEq] at H
    obtain ⟨rfl, rfl⟩ := H
    obtain ⟨ASz4_1, cSz4_1, HGz4, hgz4, HSz4_1⟩ := HI0.out
    have hcz4_0 := cellS34_0 HGz4
    have hcz4_1 := cellS34_1 HGz4
    have hfz4_0 := blk_frozen HGz4 0
    clear HGz4 hgz4
    go_enter Tryd.func44, Tryd.ntmps44
    go_wp2
    repeat (go_quiet (fail); try go_wp2)
    go_ret
    exact ⟨by first | rfl | (simp [errW_none, errW_some] <;> rfl) | (simp [*, errW_none, errW_some] <;> rfl), by repeat (first | (with_reducible first | exact HI0.out | apply IsS34.alloc | apply IsS34.drewN | apply IsS34.drew | apply IsS34.set_0) | exact HI0.out), by repeat (first | (with_reducible first | exact HB.out | apply below_alloc | apply pw_below_drewN | apply below_drew1 | refine below_set ?_ (IsS34.ge HI0.out)) | exact HB.out), by repeat (first | (with_reducible first | exact HK.out | apply KeepBut.set_ | apply keep_drewN | apply keep_drew | apply keep_alloc) | exact HK.out)⟩

/-! ### impl_Scheme_sum: function 45 -/
def impl_Scheme_sum.l0 : Nat → ByteArray → Int → Int → Int → Int → List Int → Option (Int × Int)
  | 0, _, _, _, _, _, _ => none
  | k + 1, x1, x5, x8, x9, x1000, x1001 => if x9 < x8 then (if 0 ≤ x9 then (if x9 < (x1.size : Int) then ((impl_digit.f (bt x1 x9)).bind fun t208 => (if x9 < (x1001.length : Int) then (impl_Scheme_sum.l0 k x1 (wrap64 (x5 + (wrap64 (t208 * (rd x1001 x9))))) x8 (wrap64 (x9 + 1)) x1000 x1001) else (none))) else (none)) else (none)) else (some (x5, x1000))
def impl_Scheme_sum.f (k : Nat) (s0_0 : Int) (s0_1 : List Int) (a1 : ByteArray) : Option (Int × Int) := impl_Scheme_sum.l0 k a1 0 (a1.size : Int) 0 s0_0 s0_1
theorem impl_Scheme_sum.mono_l : ∀ k, (∀ y0 y1 y2 y3 y4 y5, LeO (impl_Scheme_sum.l0 k y0 y1 y2 y3 y4 y5) (impl_Scheme_sum.l0 (k + 1) y0 y1 y2 y3 y4 y5))
  | 0 => fun _ _ _ _ _ _ r h => by simp [impl_Scheme_sum.l0] at h
  | k + 1 => by
    have ih0 := impl_Scheme_sum.mono_l k
    · intro y0 y1 y2 y3 y4 y5
      unfold impl_Scheme_sum.l0
      repeat' first
      | (with_reducible exact ih0 _ _ _ _ _ _)
      | (with_reducible exact LeO.refl _)
      | (with_reducible exact LeO.none _)
      | (with_reducible refine LeO.ite ?_ ?_)
      | (with_reducible refine LeO.bind ?_ (fun _ => ?_))
      | exact ih0 _ _ _ _ _ _
      | exact LeO.none _
      | refine LeO.ite ?_ ?_
      | refine LeO.bind ?_ (fun _ => ?_)
theorem impl_Scheme_sum.mono : ∀ a0 a1 a2 k, LeO (impl_Scheme_sum.f k a0 a1 a2) (impl_Scheme_sum.f (k + 1) a0 a1 a2) := by
  intro a0 a1 a2 k
  have ih0 := impl_Scheme_sum.mono_l k
  unfold impl_Scheme_sum.f
  repeat' first
      | (with_reducible exact ih0 _ _ _ _ _ _)
      | (with_reducible exact LeO.refl _)
      | (with_reducible exact LeO.none _)
      | (with_reducible refine LeO.ite ?_ ?_)
      | (with_reducible refine LeO.bind ?_ (fun _ => ?_))
      | exact ih0 _ _ _ _ _ _
      | exact LeO.none _
      | refine LeO.ite ?_ ?_
      | refine LeO.bind ?_ (fun _ => ?_)
set_option maxHeartbeats 8000000 in
set_option maxRecDepth 100000 in
theorem impl_Scheme_sum.calls (k : Nat) (g : Nat) (s0_0 : Int) (s0_1 : List Int) (a1 : ByteArray) (r1 : Int) (r2 : Int) (w0 w : World) (hI : IsS34 w0 w g s0_0 s0_1) (hB : Below w0.heap.size w0 w) (h : impl_Scheme_sum.f k s0_0 s0_1 a1 = some (r1, r2)) :
    Calls Tryd.prog 45 #[.pointer (some ⟨g, 0, none⟩), .string a1] w fun e w' => e = .returned (.int .i64 r1) ∧ IsS34 w0 w' g r2 s0_1 ∧ Below w0.heap.size w0 w' ∧ KeepBut w w' g none := by
  have HI0 := Aside0.mk hI
  have HK := Aside0.mk (KeepBut.refl w g none)
  have HL := Aside0.mk hB.size
  clear hI
  have HW0 := Aside0.mk hB.size
  have HB := Aside0.mk hB
  clear hB
  have H : (impl_Scheme_sum.l0 k a1 0 (a1.size : Int) 0 s0_0 s0_1) = some (r1, r2) := h
  clear h
  have H' := Aside0.mk H
  clear H
  go_enter Tryd.func45, Tryd.ntmps45
  go_wp2
  repeat (go_quiet (fail); try go_wp2)
  go_loopg [5, 9] k (fun kq v5 v9 w' => ∃ (x5_1 : Int) (x9_1 : Int), v5 = .int .i64 x5_1 ∧ v9 = .int .i64 x9_1 ∧ Aside0 (impl_Scheme_sum.l0 kq a1 x5_1 (a1.size : Int) x9_1 s0_0 s0_1 = some (r1, r2)) ∧ Aside0 (kq ≤ k) ∧ Aside0 (IsS34 w0 w' g s0_0 s0_1) ∧ Aside0 (KeepBut w w' g none) ∧ Aside0 (Below w0.heap.size w0 w'))
  case atStart => exact ⟨(0), (0), (by first | rfl | (simp; done) | (simp [*]; done) | (simp [isEmpty_bne]; done) | (simp [i64_w]; done) | (simp only [i64_w]; done)), (by first | rfl | (simp; done) | (simp [*]; done) | (simp [isEmpty_bne]; done) | (simp [i64_w]; done) | (simp only [i64_w]; done)), H', ⟨Nat.le_refl _⟩, ⟨by repeat (first | (with_reducible first | exact HI0.out | apply IsS34.alloc | apply IsS34.drewN | apply IsS34.drew | apply IsS34.set_0) | exact HI0.out)⟩, ⟨by repeat (first | (with_reducible first | exact HK.out | apply KeepBut.set_ | apply keep_drewN | apply keep_drew | apply keep_alloc) | exact HK.out)⟩, ⟨by repeat (first | (with_reducible first | exact HB.out | apply below_alloc | apply pw_below_drewN | apply below_drew1 | refine below_set ?_ (IsS34.ge HI0.out)) | exact HB.out)⟩⟩
  case round =>
    clear H'
    try clear p2
    obtain ⟨x5_1, x9_1, rfl, rfl, HA, HK1, HI0, HK, HB⟩ := hrel
    cases gk with
    | zero => exact absurd HA.out (by simp [impl_Scheme_sum.l0])
    | succ k1 =>
      have H := HA.out
      clear HA
      simp only [impl_Scheme_sum.l0] at H
      by_cases c3 : x9_1 < (a1.size : Int)
      · rw [if_pos c3] at H
        have c3b0 : decide (x9_1 < (a1.size : Int)) = true := decide_eq_true c3
        clear c3
        by_cases c4 : 0 ≤ x9_1
        · rw [if_pos c4] at H
          have c4b0 : decide (0 ≤ x9_1) = true := decide_eq_true c4
          clear c4
          by_cases c5 : x9_1 < (a1.size : Int)
          · rw [if_pos c5] at H
            have c5b0 : decide (x9_1 < (a1.size : Int)) = true := decide_eq_true c5
            clear c5
            replace H := Option.bind_eq_some_iff.mp H
            obtain ⟨t208, A70, H⟩ := H
            replace H : (if x9_1 < (s0_1.length : Int) then (impl_Scheme_sum.l0 k1 a1 (wrap64 (x5_1 + (wrap64 (t208 * (rd s0_1 x9_1))))) (a1.size : Int) (wrap64 (x9_1 + 1)) s0_0 s0_1) else (none)) = some (r1, r2) := H
            have A7 := Aside0.mk A70
            clear A70
            by_cases c8 : x9_1 < (s0_1.length : Int)
            · rw [if_pos c8] at H
              have c8b0 : decide (x9_1 < (s0_1.length : Int)) = true := decide_eq_true c8
              clear c8
              have H' := Aside0.mk H
              clear H
              have p6 : 0 ≤ (x9_1 : Int) := of_decide_eq_true (by first | (with_reducible assumption) | assumption)
              have q6 : x9_1 < (a1.size : Int) := of_decide_eq_true (by first | (with_reducible assumption) | assumption)
              have hx6 := bt_at a1 x9_1
              replace p6 := eq_true p6
              replace q6 := eq_true q6
              go_wp2_with (first | (go_at_call 56; (with_reducible refine (impl_digit.calls (bt a1 x9_1) t208 _ A7.out).mono ?_); rintro e w' ⟨rfl, ⟨nd, rfl⟩⟩; (try first | exact ⟨rfl, _, World.drewN_drewN _ _ _⟩ | exact ⟨rfl, _, Eq.trans (World.drewN_drewN _ _ _) (congrArg (World.drewN _) (Nat.add_assoc _ _ _))⟩); obtain ⟨ASz9_1, cSz9_1, HGz9, hgz9, HSz9_1⟩ := HI0.out; have hcz9_0 := cellS34_0 HGz9; have hcz9_1 := cellS34_1 HGz9; have hfz9_0 := blk_frozen HGz9 0; clear HGz9 hgz9; have p209 : 0 ≤ (x9_1 : Int) := of_decide_eq_true (by first | (with_reducible assumption) | assumption); have q209 : x9_1 < (s0_1.length : Int) := of_decide_eq_true (by first | (with_reducible assumption) | assumption); obtain ⟨ad209, e209, hx209_0⟩ := Kd.at_int HSz9_1 x9_1 p209 q209; cases e209; replace hx209_0 := pw_cell_below HB.out hx209_0; replace p209 := eq_true p209; replace q209 := eq_true q209))
              repeat (go_quiet (first | (go_at_call 56; (with_reducible refine (impl_digit.calls (bt a1 x9_1) t208 _ A7.out).mono ?_); rintro e w' ⟨rfl, ⟨nd, rfl⟩⟩; (try first | exact ⟨rfl, _, World.drewN_drewN _ _ _⟩ | exact ⟨rfl, _, Eq.trans (World.drewN_drewN _ _ _) (congrArg (World.drewN _) (Nat.add_assoc _ _ _))⟩); obtain ⟨ASz9_1, cSz9_1, HGz9, hgz9, HSz9_1⟩ := HI0.out; have hcz9_0 := cellS34_0 HGz9; have hcz9_1 := cellS34_1 HGz9; have hfz9_0 := blk_frozen HGz9 0; clear HGz9 hgz9; have p209 : 0 ≤ (x9_1 : Int) := of_decide_eq_true (by first | (with_reducible assumption) | assumption); have q209 : x9_1 < (s0_1.length : Int) := of_decide_eq_true (by first | (with_reducible assumption) | assumption); obtain ⟨ad209, e209, hx209_0⟩ := Kd.at_int HSz9_1 x9_1 p209 q209; cases e209; replace hx209_0 := pw_cell_below HB.out hx209_0; replace p209 := eq_true p209; replace q209 := eq_true q209)); try go_wp2_with (first | (go_at_call 56; (with_reducible refine (impl_digit.calls (bt a1 x9_1) t208 _ A7.out).mono ?_); rintro e w' ⟨rfl, ⟨nd, rfl⟩⟩; (try first | exact ⟨rfl, _, World.drewN_drewN _ _ _⟩ | exact ⟨rfl, _, Eq.trans (World.drewN_drewN _ _ _) (congrArg (World.drewN _) (Nat.add_assoc _ _ _))⟩); obtain ⟨ASz9_1, cSz9_1, HGz9, hgz9, HSz9_1⟩ := HI0.out; have hcz9_0 := cellS34_0 HGz9; have hcz9_1 := cellS34_1 HGz9; have hfz9_0 := blk_frozen HGz9 0; clear HGz9 hgz9; have p209 : 0 ≤ (x9_1 : Int) := of_decide_eq_true (by first | (with_reducible assumption) | assumption); have q209 : x9_1 < (s0_1.length : Int) := of_decide_eq_true (by first | (with_reducible assumption) | assumption); obtain ⟨ad209, e209, hx209_0⟩ := Kd.at_int HSz9_1 x9_1 p209 q209; cases e209; replace hx209_0 := pw_cell_below HB.out hx209_0; replace p209 := eq_true p209; replace q209 := eq_true q209)))
              go_roundg k1
              case measure => have := HK1.out; omega
              case rel => exact ⟨(wrap64 (x5_1 + (wrap64 (t208 * (rd s0_1 x9_1))))), (wrap64 (x9_1 + 1)), (by first | rfl | (simp; done) | (simp [*]; done) | (simp [isEmpty_bne]; done) | (simp [i64_w]; done) | (simp only [i64_w]; done)), (by first | rfl | (simp; done) | (simp [*]; done) | (simp [isEmpty_bne]; done) | (simp [i64_w]; done) | (simp only [i64_w]; done)), H', ⟨by have := HK1.out; omega⟩, ⟨by repeat (first | (with_reducible first | exact HI0.out | apply IsS34.alloc | apply IsS34.drewN | apply IsS34.drew | apply IsS34.set_0) | exact HI0.out)⟩, ⟨by repeat (first | (with_reducible first | exact HK.out | apply KeepBut.set_ | apply keep_drewN | apply keep_drew | apply keep_alloc) | exact HK.out)⟩, ⟨by repeat (first | (with_reducible first | exact HB.out | apply below_alloc | apply pw_below_drewN | apply below_drew1 | refine below_set ?_ (IsS34.ge HI0.out)) | exact HB.out)⟩⟩
            · rw [if_neg c8] at H
              exact absurd H (by simp)
          · rw [if_neg c5] at H
            exact absurd H (by simp)
        · rw [if_neg c4] at H
          exact absurd H (by simp)
      · rw [if_neg c3] at H
        have c3b0 : decide (x9_1 < (a1.size : Int)) = false := decide_eq_false c3
        clear c3
        simp only [Option.some.injEq, Prod.mk.injEq] at H
        obtain ⟨rfl, rfl⟩ := H
        go_wp2
        repeat (go_quiet (fail); try go_wp2)
        go_ret
        exact ⟨by first | rfl | (simp [errW_none, errW_some] <;> rfl) | (simp [*, errW_none, errW_some] <;> rfl), by repeat (first | (with_reducible first | exact HI0.out | apply IsS34.alloc | apply IsS34.drewN | apply IsS34.drew | apply IsS34.set_0) | exact HI0.out), by repeat (first | (with_reducible first | exact HB.out | apply below_alloc | apply pw_below_drewN | apply below_drew1 | refine below_set ?_ (IsS34.ge HI0.out)) | exact HB.out), by repeat (first | (with_reducible first | exact HK.out | apply KeepBut.set_ | apply keep_drewN | apply keep_drew | apply keep_alloc) | exact HK.out)⟩


/-! ### impl_CheckOf: function 23 -/
def impl_CheckOf.f (k : Nat) (a0_0 : Int) (l0_1 : List Int) (a1 : ByteArray) : Option (ByteArray × Bool) :=
  (impl_IsScheme.f a0_0 l0_1).bind fun g => if g = true then ((impl_isDigits.f a1 (l0_1.length : Int) (l0_1.length : Int)).bind fun d => if d = true then ((impl_Scheme_sum.f k a0_0 l0_1 a1).bind fun bs => (impl_Scheme_check.f bs.2 l0_1 bs.1).bind fun bc => if bc.1 > 10 then some ((⟨#[]⟩ : ByteArray), false) else if 0 ≤ bc.1 then some ((⟨#[48, 49, 50, 51, 52, 53, 54, 55, 56, 57, 88]⟩ : ByteArray).extract bc.1.toNat (wrap64 (bc.1 + 1)).toNat, true) else none) else some ((⟨#[]⟩ : ByteArray), false)) else some ((⟨#[]⟩ : ByteArray), false)
theorem impl_CheckOf.mono : ∀ a0_0 a0_1 a1 k, LeO (impl_CheckOf.f k a0_0 a0_1 a1) (impl_CheckOf.f (k + 1) a0_0 a0_1 a1) := by
  intro a0 a1 a2 k
  have ih := impl_Scheme_sum.mono a0 a1 a2 k
  unfold impl_CheckOf.f
  repeat' first
      | (with_reducible exact ih)
      | (with_reducible exact LeO.refl _)
      | (with_reducible refine LeO.ite ?_ ?_)
      | (with_reducible refine LeO.bind ?_ (fun _ => ?_))
set_option maxHeartbeats 4000000 in
theorem impl_CheckOf.calls (k : Nat) (a0_0 : Int) (A0_1 : Option Addr) (c0_1 : Nat) (l0_1 : List Int) (a1 : ByteArray) (r1 : ByteArray) (r2 : Bool) (w : World) (hr0_1 : Kd.C (Kd.int .i64) w A0_1 l0_1.length l0_1) (hc0_1 : l0_1.length ≤ c0_1) (h : impl_CheckOf.f k a0_0 l0_1 a1 = some (r1, r2)) :
    Calls Tryd.prog 23 #[.agg #[.int .i64 a0_0, .slice A0_1 l0_1.length c0_1], .string a1] w fun e w' => e = .returned (.tuple #[.string r1, .bool r2]) ∧ Below w.heap.size w w' := by
  have hu := Tryd.underlying34
  replace h := Option.bind_eq_some_iff.mp h
  obtain ⟨g, hg, h⟩ := h
  have hgood := fun (W : World) (hW : Below w.heap.size w W) => impl_IsScheme.calls a0_0 A0_1 c0_1 l0_1 g W (Kd.C_below hr0_1 hW) hc0_1 hg
  have HR := Aside0.mk hr0_1
  have hb0 : Below w.heap.size w (w.alloc (.cells #[.int .i64 a0_0, .slice A0_1 l0_1.length c0_1] 34)) := (Below.refl _ w).alloc (Nat.le_refl _) _
  have hc0 : (w.alloc (.cells #[.int .i64 a0_0, .slice A0_1 l0_1.length c0_1] 34)).cell? ⟨w.heap.size, 0, none⟩ = some (.int .i64 a0_0) := by simp
  have hc1 : (w.alloc (.cells #[.int .i64 a0_0, .slice A0_1 l0_1.length c0_1] 34)).cell? ⟨w.heap.size, 1, none⟩ = some (.slice A0_1 l0_1.length c0_1) := by simp
  have hl0 : w.heap.size < (w.alloc (.cells #[.int .i64 a0_0, .slice A0_1 l0_1.length c0_1] 34)).heap.size := by simp
  have hI0 := IsS34.new w w A0_1 c0_1 a0_0 l0_1 (Below.refl _ w) hr0_1
  have hcall := hgood _ hb0
  clear hg hr0_1 hgood
  cases g with
  | false =>
    simp only [Bool.false_eq_true, if_false, Option.some.injEq, Prod.mk.injEq] at h
    obtain ⟨rfl, rfl⟩ := h
    clear hI0
    go_enter Tryd.func23, Tryd.ntmps23
    go_wp2_with fail
    refine hcall.mono ?_
    rintro e w1 ⟨rfl, hb1⟩
    clear hcall
    go_wp2
    go_ret2
    exact ⟨rfl, hb0.trans (hb1.mono hb0.size)⟩
  | true =>
    rw [if_pos rfl] at h
    replace h := Option.bind_eq_some_iff.mp h
    obtain ⟨d, hd, h⟩ := h
    have hdig := fun w => impl_isDigits.calls a1 (l0_1.length : Int) (l0_1.length : Int) d w hd
    clear hd
    cases d with
    | false =>
      simp only [Bool.false_eq_true, if_false, Option.some.injEq, Prod.mk.injEq] at h
      obtain ⟨rfl, rfl⟩ := h
      clear hI0
      go_enter Tryd.func23, Tryd.ntmps23
      go_wp2_with fail
      refine hcall.mono ?_
      rintro e w1 ⟨rfl, hb1⟩
      have hc1' := (hb1.cell (p := ⟨w.heap.size, 1, none⟩) hl0).trans hc1
      clear hcall hc0 hc1
      have hb2 := hb0.trans (hb1.mono hb0.size)
      go_wp2_with fail
      refine (hdig _).mono ?_
      rintro e w2 ⟨rfl, hb3⟩
      clear hdig
      go_wp2
      go_ret2
      exact ⟨rfl, hb2.trans (hb3.mono hb2.size)⟩
    | true =>
      rw [if_pos rfl] at h
      replace h := Option.bind_eq_some_iff.mp h
      obtain ⟨⟨s, m2⟩, hs, h⟩ := h
      replace h := Option.bind_eq_some_iff.mp h
      obtain ⟨⟨c, m3⟩, hk, h⟩ := h
      have hsum := fun (W : World) (hW : Below w.heap.size w W) (hI : IsS34 w W w.heap.size a0_0 l0_1) => impl_Scheme_sum.calls k w.heap.size a0_0 l0_1 a1 s m2 w W hI hW hs
      have hchk := fun (W : World) (hW : Below w.heap.size w W) (hI : IsS34 w W w.heap.size m2 l0_1) => impl_Scheme_check.calls w.heap.size m2 l0_1 s c m3 w W hI hW hk
      clear hs hk
      have HI0 := Aside0.mk hI0
      clear hI0
      simp only at h
      by_cases h10 : c > 10
      · rw [if_pos h10] at h
        simp only [Option.some.injEq, Prod.mk.injEq] at h
        obtain ⟨rfl, rfl⟩ := h
        have d10 : decide (10 < c) = true := decide_eq_true h10
        clear h10
        go_enter Tryd.func23, Tryd.ntmps23
        go_wp2_with fail
        refine hcall.mono ?_
        rintro e w1 ⟨rfl, hb1⟩
        have hc1' := (hb1.cell (p := ⟨w.heap.size, 1, none⟩) hl0).trans hc1
        have hb2 := hb0.trans (hb1.mono hb0.size)
        have HI1 := HI0.out.below hb1
        clear hcall hc0 hc1 HI0
        go_wp2_with fail
        refine (hdig _).mono ?_
        rintro e w2 ⟨rfl, hb3⟩
        have hb4 := hb2.trans (hb3.mono hb2.size)
        have HI2 := HI1.below hb3
        have hcall2 := hsum _ hb4 HI2
        clear hdig HI1 hc1' hsum HI2
        go_wp2_with fail
        refine hcall2.mono ?_
        rintro e w3 ⟨rfl, HI3, hb5, _⟩
        have hcall3 := hchk _ hb5 HI3
        clear hcall2 hchk HI3
        go_wp2_with fail
        refine hcall3.mono ?_
        rintro e w4 ⟨rfl, _, hb6, _⟩
        clear hcall3
        go_wp2
        go_ret2
        exact ⟨rfl, hb6⟩
      · rw [if_neg h10] at h
        split at h
        · rename_i hc9
          simp only [Option.some.injEq, Prod.mk.injEq] at h
          obtain ⟨h1, rfl⟩ := h
          have HE := Aside0.mk h1
          clear h1
          have hw : wrap64 (c + 1) = c + 1 := by unfold wrap64; omega
          have d10 : decide (10 < c) = false := decide_eq_false h10
          obtain ⟨n, rfl⟩ := Int.eq_ofNat_of_zero_le hc9
          have hn : n ≤ 10 := by omega
          clear h10 hc9
          rw [hw] at HE
          go_enter Tryd.func23, Tryd.ntmps23
          go_wp2_with fail
          refine hcall.mono ?_
          rintro e w1 ⟨rfl, hb1⟩
          have hc1' := (hb1.cell (p := ⟨w.heap.size, 1, none⟩) hl0).trans hc1
          have hb2 := hb0.trans (hb1.mono hb0.size)
          have HI1 := HI0.out.below hb1
          clear hcall hc0 hc1 HI0
          go_wp2_with fail
          refine (hdig _).mono ?_
          rintro e w2 ⟨rfl, hb3⟩
          have hb4 := hb2.trans (hb3.mono hb2.size)
          have HI2 := HI1.below hb3
          have hcall2 := hsum _ hb4 HI2
          clear hdig HI1 hc1' hsum HI2
          go_wp2_with fail
          refine hcall2.mono ?_
          rintro e w3 ⟨rfl, HI3, hb5, _⟩
          have hcall3 := hchk _ hb5 HI3
          clear hcall2 hchk HI3
          go_wp2_with fail
          refine hcall3.mono ?_
          rintro e w4 ⟨rfl, _, hb6, _⟩
          clear hcall3
          have d11 : ((n : Int) ≤ (n : Int) + 1) = True := eq_true (by omega)
          have d12 : ((n : Int) + 1 ≤ 11) = True := eq_true (by omega)
          go_wp2
          go_ret2
          exact ⟨by rw [← HE.out]; simp, hb6⟩
        · exact absurd h (by simp)

end Go.Proofs.YtbkincjjafioaaaDoor.PA
